-- Cut for this claim by a program (wip/prune.py) out of the texts that its bench laid or wrote
import Derived.Test.YtocgbbhppegccaaDoorReg
namespace Go.Proofs.YtocgbbhppegccaaDoor.F
open Go.RowKit Go.Proofs.YtocgbbhppegccaaDoorW.PrintWords Go.Proofs.YtocgbbhppegccaaDoorW.PrintLast Go.Proofs.YtocgbbhppegccaaDoorW.PrintMore
set_option linter.unusedSimpArgs false
set_option linter.unusedVariables false
open Go.Proofs.YtocgbbhppegccaaDoor.N (ofN OpOk fr nx layN knownI readN)
theorem want_over {base b2 : Nat} {ok ok2 : Nat → Prop} {W W' : World} {g : Nat} {v u : Value} {l xs : List Int} {s : Int} (h : Kd.R (Kd.int .u8) 5 W b2 ok2 u xs) (hj : Jr base ok W g v l s) (hd : ∀ k, v.ownBlock = some k → u.ownBlock ≠ some k) (hk : KeepBut W W' g v.ownBlock) :
    Kd.R (Kd.int .u8) 5 W' b2 ok2 u xs := by
  refine Kd.R_mono (Kd.R_step (Kd.R_tight2 (by simp [Kd.int, Kd.scalar]) h) (fun k ho hlt => ?_)) (fun k hk => hk.2)
  refine hk.2 k hlt ?_ ?_
  · intro e
    rw [e] at ho
    exact Kd.R_ne h hj.1 (by decide) ho.1
  · intro e
    exact hd k e.symm ho.1.symm
theorem jr_over2 {base b2 : Nat} {ok ok2 : Nat → Prop} {W W' : World} {g : Nat} {v u : Value} {l xs : List Int} {s : Int} (h : Jr base ok W g v l s) (ho : Kd.R (Kd.int .u8) 5 W b2 ok2 u xs) (hd : ∀ k, v.ownBlock = some k → u.ownBlock ≠ some k) (hg : W.grownBy W' u.ownBlock) : Jr base ok W' g v l s := by
  refine ⟨blk_grown h.1 hg (Kd.R_ne ho h.1 (by decide)), h.2.1, ?_⟩
  refine Kd.R_mono (Kd.R_step (Kd.R_tight2 (by simp [Kd.int, Kd.scalar]) h.2.2) (fun k hk hlt => ?_)) (fun k hk => hk.2)
  exact hg.block k hlt (fun e => hd k hk.1.symm e.symm)
theorem add_known2 {base : Nat} {w : World} {g : Nat} {v : Value} (acc : List S29) (o : S29) (hj : Jr base (fun _ => True) w g v (ofN (layN 0 acc).1) ((layN 0 acc).2 : Nat)) (hk : knownB o = true) (hl : acc.length ≤ 100) (HT : Aside0 (Tab w)) :
    Calls Tryd.prog 8 #[.pointer (some ⟨g, 0, none⟩), .agg #[.int .i64 o.f0, .int .i64 o.f1, .int .i64 o.f2, .int .i64 o.f3]] w fun e w' => e = .returned (.int .i64 0) ∧ ∃ v', Jr base (fun _ => True) w' g v' (ofN (layN 0 (acc ++ [o])).1) ((layN 0 (acc ++ [o])).2 : Nat) ∧ KeepBut w w' g v.ownBlock ∧ Below base w w' ∧ (v'.ownBlock = v.ownBlock ∨ ∃ b, v'.ownBlock = some b ∧ w.heap.size ≤ b) := by
  obtain ⟨K, hK⟩ := (N.frame_ev (layN 0 acc).2 o.f0 o.f1 o.f2 o.f3).rounds
  have hk' : knownI o.f0 := by unfold knownI; unfold knownB at hk; exact of_decide_eq_true hk
  have ln := N.lay_length acc 0
  have lf := N.fr_length (layN 0 acc).2 o
  have hb : (ofN (fr (layN 0 acc).2 o)).length ≤ 1000000 := by rw [N.ofN_length]; omega
  have h1 : (ofN (layN 0 acc).1).length ≤ 1000000 := by rw [N.ofN_length]; omega
  have h2 : ((ofN (layN 0 acc).1).length : Int) / 33 < 4096 := by rw [N.ofN_length]; omega
  refine (journal_Journal_Add.own K o.f0 o.f1 o.f2 o.f3 _ _ hj (fun _ _ => trivial) (by rw [ne_eq, N.name_iff]; exact fun q => q hk') h1 hb h2 hK HT).mono ?_
  rintro e w' ⟨he, v', hj', hkp, hbl, ho⟩
  rw [N.lay_snoc, N.ofN_app]
  exact ⟨he, v', hj', hkp, hbl, ho⟩
theorem read_all (xs : List S29) (hok : ∀ o, o ∈ xs → OpOk o) (hl : xs.length ≤ 100) : ∃ K, journal_Read.f K (ofN (layN 0 xs).1) = some (xs, ((33 * xs.length : Nat) : Int)) := by
  have h := N.read_ev (layN 0 xs).1 (N.lay_bytes xs 0) (by rw [N.lay_length]; omega)
  have e := N.read_lay xs 0 4096 (33 * xs.length) hok (by omega) (Nat.le_refl _)
  rw [List.take_of_length_le (by rw [N.lay_length]; exact Nat.le_refl _), Nat.mul_div_cancel_left _ (by decide), List.take_length, Nat.mul_comm] at e
  rw [e] at h
  exact h.rounds
theorem Jr.lower {base base2 : Nat} {ok : Nat → Prop} {W : World} {g : Nat} {v : Value} {l : List Int} {s : Int} (h : Jr base ok W g v l s) (hb : base2 ≤ base) : Jr base2 ok W g v l s := ⟨h.1, Nat.le_trans hb h.2.1, Kd.R_lower h.2.2 hb⟩
theorem two_below {w W : World} {o : Obj} (h : Below (w.heap.size + 1) (w.alloc o) W) : Below w.heap.size w W :=
  (below_alloc (Below.refl _ w) o).trans (h.mono (Nat.le_succ _))
theorem box_size {w W : World} {o : Obj} (h : Below (w.heap.size + 1) (w.alloc o) W) : w.heap.size + 1 ≤ W.heap.size := by
  have := h.size
  rwa [World.size_alloc] at this
theorem box_step {w W W' : World} {o : Obj} (h : Below (w.heap.size + 1) (w.alloc o) W) (hb : Below W.heap.size W W') : Below (w.heap.size + 1) (w.alloc o) W' := h.trans (hb.mono (box_size h))
theorem box4 {w W : World} {x : S29} (h : Below (w.heap.size + 1) (w.alloc (.cells #[.int .i64 x.f0, .int .i64 x.f1, .int .i64 x.f2, .int .i64 x.f3] 29)) W) :
    W.cell? ⟨w.heap.size, 0, none⟩ = some (.int .i64 x.f0) ∧ W.cell? ⟨w.heap.size, 1, none⟩ = some (.int .i64 x.f1) ∧ W.cell? ⟨w.heap.size, 2, none⟩ = some (.int .i64 x.f2) ∧ W.cell? ⟨w.heap.size, 3, none⟩ = some (.int .i64 x.f3) := by
  have hb := (h.block w.heap.size (Nat.lt_succ_self _)).trans (heap_alloc_new w _)
  exact ⟨(blk_cell hb 0).trans rfl, (blk_cell hb 1).trans rfl, (blk_cell hb 2).trans rfl, (blk_cell hb 3).trans rfl⟩
theorem ne_app {W : World} {v v1 u : Value} (h : ∀ k, v.ownBlock = some k → u.ownBlock ≠ some k) (hat : v1.ownBlock = v.ownBlock ∨ ∃ b, v1.ownBlock = some b ∧ W.heap.size ≤ b) (hlt : ∀ k, u.ownBlock = some k → k < W.heap.size) : ∀ k, v1.ownBlock = some k → u.ownBlock ≠ some k := by
  intro k hk hk'
  rcases hat with hat | ⟨b, hb, hle⟩
  · exact h k (hat ▸ hk) hk'
  · have := hlt k hk'
    rw [hb] at hk
    injection hk with hk
    omega
theorem ne_app2 {W : World} {v u u1 : Value} (h : ∀ k, v.ownBlock = some k → u.ownBlock ≠ some k) (hat : u1.ownBlock = u.ownBlock ∨ ∃ b, u1.ownBlock = some b ∧ W.heap.size ≤ b) (hlt : ∀ k, v.ownBlock = some k → k < W.heap.size) : ∀ k, v.ownBlock = some k → u1.ownBlock ≠ some k := by
  intro k hk hk'
  rcases hat with hat | ⟨b, hb, hle⟩
  · exact h k hk (hat ▸ hk')
  · have := hlt k hk
    rw [hb] at hk'
    injection hk' with hk'
    omega
set_option maxHeartbeats 8000000 in
set_option maxRecDepth 100000 in
theorem tombolalaw46_JournalAdds.own (A0 : Option Addr) (c0 : Nat) (l : List S29) (A1 : Option Addr) (cb : Nat) (m : List Nat) (mo : S29) (w : World) (hr0 : Kd.C k29 w A0 l.length l) (hc0 : l.length ≤ c0) (hr1 : Kd.C (Kd.int .u8) w A1 (ofN m).length (ofN m)) (hc1 : (ofN m).length ≤ cb) (hm : N.Bytes m) (hl : l.length ≤ 60) (hml : m.length ≤ 3000) (hmo : (Lit.int .i64 mo.f0).wf = true ∧ (Lit.int .i64 mo.f1).wf = true ∧ (Lit.int .i64 mo.f2).wf = true ∧ (Lit.int .i64 mo.f3).wf = true) (HT : Aside0 (Tab w)) :
    Calls Tryd.prog 5 #[.slice A0 l.length c0, .slice A1 (ofN m).length cb, .agg #[.int .i64 mo.f0, .int .i64 mo.f1, .int .i64 mo.f2, .int .i64 mo.f3]] w fun e w' => e = .returned (.bool true) ∧ Below w.heap.size w w' := by
  have hu := Tryd.underlying29
  have HR := Aside0.mk hr0
  have HC := Aside0.mk hc0
  have HR1 := Aside0.mk hr1
  have HC1 := Aside0.mk hc1
  have HL := Aside0.mk hl
  have HM := Aside0.mk hm
  have HML := Aside0.mk hml
  have HMO := Aside0.mk hmo
  have b1 : decide (60 < (l.length : Int)) = false := decide_eq_false (by omega)
  have b2 : decide (3000 < ((ofN m).length : Int)) = false := decide_eq_false (by rw [N.ofN_length]; omega)
  obtain ⟨KF, hKF⟩ := (N.frame_ev 0 mo.f0 mo.f1 mo.f2 mo.f3).rounds
  obtain ⟨KR, hKR⟩ := (N.rframe_all 0 (by decide) mo.f0 mo.f1 mo.f2 mo.f3).rounds
  change journal_Frame.f KF 0 mo.f0 mo.f1 mo.f2 mo.f3 = _ at hKF
  change tombolaref46_Frame.f KR 0 mo.f0 mo.f1 mo.f2 mo.f3 = _ at hKR
  generalize ofN (N.frameN 0 mo.f0 mo.f1 mo.f2 mo.f3) = F0 at hKF hKR
  generalize ((N.nextN 0 mo.f0 mo.f1 mo.f2 mo.f3 : Nat) : Int) = N0 at hKF hKR
  have HKF := Aside0.mk hKF
  have HKR := Aside0.mk hKR
  generalize hB : ofN m = M at HR1 HC1 b2
  have HBE := Aside0.mk hB
  have s1 : ((strOfNums F0).toList == (strOfNums F0).toList) = true := beq_self_eq_true _
  clear hr0 hc0 hr1 hc1 hl hm hml hmo hKF hKR hB
  go_enter Tryd.func5, Tryd.ntmps5
  go_wp2_with (first
    | (go_at_call 7; refine (journal_New.own _).mono ?_; rintro e w1 ⟨g, rfl, hj, hb⟩; rw [World.size_alloc] at hj hb; have HJ := Aside0.mk hj; have HB := Aside0.mk hb; clear hj hb; obtain ⟨y0, y1, y2, y3⟩ := box4 HB.out)
    | (go_at_call 13; (with_reducible refine (tombolaref46_Frame.calls KR 0 mo.f0 mo.f1 mo.f2 mo.f3 F0 N0 _ HKR.out).mono ?_); rintro e w2 ⟨vc, rfl, hR, hb⟩; clear y0 y1 y2 y3; obtain ⟨Ac, cc, ec⟩ := Kd.R_slice hR; subst ec; have HF1 := Aside0.mk hR; have n1 := Aside0.mk (HJ.out.below hb); have n3 := Aside0.mk (box_step HB.out hb); clear HJ HB hb hR; have HJ := n1; have HB := n3; clear n1 n3; obtain ⟨y0, y1, y2, y3⟩ := box4 HB.out)
    | (go_at_call 14; (with_reducible refine (journal_Frame.calls KF 0 mo.f0 mo.f1 mo.f2 mo.f3 F0 N0 _ HKF.out).mono ?_); rintro e w3 ⟨vd, rfl, hR, hb⟩; clear y0 y1 y2 y3; obtain ⟨Ad, cd, ed⟩ := Kd.R_slice hR; subst ed; have cv1 := Kd.C_string (P := Tryd.prog) Tryd.underlying30 Tryd.underlying5 Tryd.underlying9 (c := cd) (Kd.R_reads' hR).2.2; have cv2 := Kd.C_string (P := Tryd.prog) Tryd.underlying30 Tryd.underlying5 Tryd.underlying9 (c := cc) (Kd.C_below (Kd.R_reads' HF1.out).2.2 hb); have n1 := Aside0.mk (HJ.out.below hb); have n3 := Aside0.mk (box_step HB.out hb); clear HJ HB hb hR HF1; have HJ := n1; have HB := n3; clear n1 n3))
  clear cv1 cv2 s1 HKF HKR
  go_loopg [8, 9, 10, 15] (l.length + 1) (fun kq v8 v9 v10 v15 W => ∃ (j : Nat) (v : Value), j ≤ l.length ∧ l.length - j < kq ∧ v15 = .int .i64 (j : Int) ∧ v10 = .int .i64 ((accT l j).length : Int) ∧ v9 = .int .u64 ((layN 0 (accT l j)).2 : Nat) ∧ Aside0 (Jr (w.heap.size + 1) (fun _ => True) W g v (ofN (layN 0 (accT l j)).1) ((layN 0 (accT l j)).2 : Nat)) ∧ Aside0 (Kd.R (Kd.int .u8) 5 W (w.heap.size + 1) (fun _ => True) v8 (ofN (layN 0 (accT l j)).1)) ∧ Aside0 (∀ k, v.ownBlock = some k → v8.ownBlock ≠ some k) ∧ Aside0 (Below (w.heap.size + 1) (w.alloc (.cells #[.int .i64 mo.f0, .int .i64 mo.f1, .int .i64 mo.f2, .int .i64 mo.f3] 29)) W))
  case atStart => exact ⟨0, .slice none 0 0, Nat.zero_le _, by omega, rfl, rfl, rfl, ⟨HJ.out⟩, ⟨Kd.R_nil _ _ _ _ _⟩, ⟨fun k hk => by simp [Value.ownBlock] at hk⟩, HB⟩
  case round =>
    clear HJ HB
    obtain ⟨j, v, hj0, hj1, rfl, rfl, rfl, HJ, HU, HN, HB⟩ := hrel
    cases gk with
    | zero => exact absurd hj1 (by omega)
    | succ gk =>
      by_cases hlt : j < l.length
      · have c1 : decide ((j : Int) < (l.length : Int)) = true := decide_eq_true (by omega)
        have c2 : decide (j < l.length) = true := decide_eq_true hlt
        have p1 : decide (0 ≤ (j : Int)) = true := decide_eq_true (by omega)
        obtain ⟨ad, e0, x0, x1, x2, x3⟩ := at_T29 (Kd.C_below HR.out (two_below HB.out)) (j : Int) (by omega) (by omega)
        subst e0
        simp only [Int.toNat_natCast] at x0 x1 x2 x3
        obtain ⟨Au, cu, eu⟩ := Kd.R_slice HU.out
        subst eu
        have HAL := Aside0.mk (acc_len l j)
        have HLT := Aside0.mk hlt
        have HW : Aside0 (wrap64 ((j : Int) + 1) = ((j + 1 : Nat) : Int)) := ⟨by have := HL.out; unfold wrap64; omega⟩
        cases hk : knownB (rd_T29 l (j : Int)) with
        | false =>
          have HE := Aside0.mk (acc_no l j hlt hk)
          have HK := Aside0.mk hk
          have hn : (nameOf (rd_T29 l (j : Int)).f0).toList = [] := by rw [N.name_iff]; unfold N.knownI; unfold knownB at hk; exact of_decide_eq_false hk
          have hn2 : ((nameOf (rd_T29 l (j : Int)).f0).toList == ([] : List UInt8)) = true := beq_iff_eq.mpr hn
          have hNm := N.rname_eq (rd_T29 l (j : Int)).f0
          generalize nameOf (rd_T29 l (j : Int)).f0 = nm at hNm hn2
          have HNm := Aside0.mk hNm
          clear hk hn hNm
          go_wp2_with (first
            | (go_at_call 15; (with_reducible refine (tombolaref31_Name.calls _ nm _ HNm.out).mono ?_); rintro e w2 ⟨rfl, hb⟩; clear x0 x1 x2 x3; have n1 := Aside0.mk (HJ.out.below hb); have n2 := Aside0.mk (Kd.R_below HU.out hb); have n3 := Aside0.mk (box_step HB.out hb); clear HJ HU HB hb; have HJ := n1; have HU := n2; have HB := n3; clear n1 n2 n3; obtain ⟨ad2, e2, x0, x1, x2, x3⟩ := at_T29 (Kd.C_below HR.out (two_below HB.out)) (j : Int) (by omega) (by have := HLT.out; omega); cases e2; simp only [Int.toNat_natCast] at x0 x1 x2 x3)
            | (go_at_call 8; refine (add_strange (rd_T29 l (j : Int)) HK.out (Tab.later HT (two_below HB.out))).mono ?_; rintro e w2 ⟨rfl, hb⟩; have n1 := Aside0.mk (HJ.out.below hb); have n2 := Aside0.mk (Kd.R_below HU.out hb); have n3 := Aside0.mk (box_step HB.out hb); clear HJ HU HB hb; have HJ := n1; have HU := n2; have HB := n3; clear n1 n2 n3))
          go_roundg gk
          case measure => omega
          case rel => exact ⟨j + 1, v, by have := HLT.out; omega, by have := HLT.out; omega, by rw [HW.out], by rw [HE.out], by rw [HE.out], ⟨by rw [HE.out]; exact HJ.out⟩, ⟨by rw [HE.out]; exact HU.out⟩, HN, HB⟩
        | true =>
          have HE := Aside0.mk (acc_yes l j hlt hk)
          have HK := Aside0.mk hk
          have hkn : N.knownI (rd_T29 l (j : Int)).f0 := by unfold N.knownI; unfold knownB at hk; exact of_decide_eq_true hk
          have hn2 : ((nameOf (rd_T29 l (j : Int)).f0).toList == ([] : List UInt8)) = false := beq_eq_false_iff_ne.mpr (by rw [ne_eq, N.name_iff]; exact fun q => q hkn)
          have hNm := N.rname_eq (rd_T29 l (j : Int)).f0
          generalize nameOf (rd_T29 l (j : Int)).f0 = nm at hNm hn2
          have HNm := Aside0.mk hNm
          obtain ⟨KF, hKF⟩ := (N.frame_ev (layN 0 (accT l j)).2 (rd_T29 l (j : Int)).f0 (rd_T29 l (j : Int)).f1 (rd_T29 l (j : Int)).f2 (rd_T29 l (j : Int)).f3).rounds
          obtain ⟨KR, hKR⟩ := (N.rframe_all (layN 0 (accT l j)).2 (N.lay_lt _ _ (by decide)) (rd_T29 l (j : Int)).f0 (rd_T29 l (j : Int)).f1 (rd_T29 l (j : Int)).f2 (rd_T29 l (j : Int)).f3).rounds
          obtain ⟨F, hF⟩ : ∃ F, F = ofN (N.frameN (layN 0 (accT l j)).2 (rd_T29 l (j : Int)).f0 (rd_T29 l (j : Int)).f1 (rd_T29 l (j : Int)).f2 (rd_T29 l (j : Int)).f3) := ⟨_, rfl⟩
          obtain ⟨N1, hN1⟩ : ∃ x : Int, x = ((N.nextN (layN 0 (accT l j)).2 (rd_T29 l (j : Int)).f0 (rd_T29 l (j : Int)).f1 (rd_T29 l (j : Int)).f2 (rd_T29 l (j : Int)).f3 : Nat) : Int) := ⟨_, rfl⟩
          rw [← hF, ← hN1] at hKF hKR
          have HFL : Aside0 (F.length = 33) := ⟨by rw [hF, N.ofN_length, N.frameN_length]⟩
          have HLL : Aside0 ((ofN (layN 0 (accT l j)).1).length = 33 * (accT l j).length) := ⟨by rw [N.ofN_length, N.lay_length]⟩
          have HKF := Aside0.mk hKF
          have HKR := Aside0.mk hKR
          have HF := Aside0.mk hF
          have HN1 := Aside0.mk hN1
          have s1 : ((strOfNums F).toList == (strOfNums F).toList) = true := beq_self_eq_true _
          have HW2 : Aside0 (wrap64 (((accT l j).length : Int) + 1) = ((accT l j ++ [(rd_T29 l (j : Int))]).length : Int)) := ⟨by have := HL.out; have := HAL.out; have := HLT.out; rw [List.length_append]; unfold wrap64; simp only [List.length_cons, List.length_nil]; omega⟩
          clear hk hkn hNm hF hN1 hKF hKR
          generalize hG : ((layN 0 (accT l j)).2 : Int) = s0 at HKF HKR
          have HG := Aside0.mk hG
          go_wp2_with (first
            | (go_at_call 15; (with_reducible refine (tombolaref31_Name.calls _ nm _ HNm.out).mono ?_); rintro e w2 ⟨rfl, hb⟩; clear x0 x1 x2 x3; have n1 := Aside0.mk (HJ.out.below hb); have n2 := Aside0.mk (Kd.R_below HU.out hb); have n3 := Aside0.mk (box_step HB.out hb); clear HJ HU HB hb; have HJ := n1; have HU := n2; have HB := n3; clear n1 n2 n3; obtain ⟨ad2, e2, x0, x1, x2, x3⟩ := at_T29 (Kd.C_below HR.out (two_below HB.out)) (j : Int) (by omega) (by have := HLT.out; omega); cases e2; simp only [Int.toNat_natCast] at x0 x1 x2 x3)
            | (go_at_call 8; refine (add_known2 (accT l j) (rd_T29 l (j : Int)) HJ.out HK.out (by have := HAL.out; have := HL.out; omega) (Tab.later HT (two_below HB.out))).mono ?_; rintro e w2 ⟨rfl, v2, hj2, hkp, hb2, hat⟩; have n1 := Aside0.mk (want_over HU.out HJ.out HN.out hkp); have n2 := Aside0.mk (ne_app HN.out hat (Kd.R_lt HU.out)); have n3 := Aside0.mk (HB.out.trans hb2); have n4 := Aside0.mk hj2; clear HJ HU HN HB hj2 hkp hb2 hat x0 x1 x2 x3; have HJ := n4; have HU := n1; have HN := n2; have HB := n3; clear n1 n2 n3 n4; obtain ⟨ad2, e2, x0, x1, x2, x3⟩ := at_T29 (Kd.C_below HR.out (two_below HB.out)) (j : Int) (by omega) (by have := HLT.out; omega); cases e2; simp only [Int.toNat_natCast] at x0 x1 x2 x3)
            | (go_at_call 13; (with_reducible refine (tombolaref46_Frame.calls KR s0 (rd_T29 l (j : Int)).f0 (rd_T29 l (j : Int)).f1 (rd_T29 l (j : Int)).f2 (rd_T29 l (j : Int)).f3 F N1 _ HKR.out).mono ?_); rintro e w3 ⟨vc, rfl, hR, hb⟩; clear x0 x1 x2 x3; obtain ⟨Ac, cc, ec⟩ := Kd.R_slice hR; subst ec; have HF1 := Aside0.mk hR; clear hR; have n1 := Aside0.mk (HJ.out.below hb); have n2 := Aside0.mk (Kd.R_below HU.out hb); have n3 := Aside0.mk (box_step HB.out hb); clear HJ HU HB hb; have HJ := n1; have HU := n2; have HB := n3; clear n1 n2 n3; obtain ⟨ad2, e2, x0, x1, x2, x3⟩ := at_T29 (Kd.C_below HR.out (two_below HB.out)) (j : Int) (by omega) (by have := HLT.out; omega); cases e2; simp only [Int.toNat_natCast] at x0 x1 x2 x3)
            | (go_at_call 14; (with_reducible refine (journal_Frame.calls KF s0 (rd_T29 l (j : Int)).f0 (rd_T29 l (j : Int)).f1 (rd_T29 l (j : Int)).f2 (rd_T29 l (j : Int)).f3 F N1 _ HKF.out).mono ?_); rintro e w4 ⟨vd, rfl, hR, hb⟩; clear x0 x1 x2 x3; obtain ⟨Ad, cd, ed⟩ := Kd.R_slice hR; subst ed; have HF2 := Aside0.mk (Kd.R_below HF1.out hb); have cv1 := Kd.C_string (P := Tryd.prog) Tryd.underlying30 Tryd.underlying5 Tryd.underlying9 (c := cd) (Kd.R_reads' hR).2.2; have cv2 := Kd.C_string (P := Tryd.prog) Tryd.underlying30 Tryd.underlying5 Tryd.underlying9 (c := cc) (Kd.R_reads' HF2.out).2.2; clear hR HF1; have n1 := Aside0.mk (HJ.out.below hb); have n2 := Aside0.mk (Kd.R_below HU.out hb); have n3 := Aside0.mk (box_step HB.out hb); clear HJ HU HB hb; have HJ := n1; have HU := n2; have HB := n3; clear n1 n2 n3)
            | ((with_reducible refine gate_builtin (b := .append) (xs := #[.tmp 122, .tmp 123]) rfl ?_);at_builtin;refine Kd.R_append_rows (Kd.int .u8) (w0 := w.alloc (.cells #[.int .i64 mo.f0, .int .i64 mo.f1, .int .i64 mo.f2, .int .i64 mo.f3] 29)) (w.heap.size + 1) rfl (.tmp 122) (.tmp 123) 30 5 (.int .u8 0) 1 rfl Tryd.underlying30 info5 rfl (by decide) (by omega) _ (ofN (layN 0 (accT l j)).1) F _ _ _ (fun _ => True) (fun _ => False) rfl rfl ?aO ?aR (fun _ _ h => h) (fun _ h => h.elim) ?aF ?aB ?aS ?aL ?_;(case aR => exact (Kd.R_reads' HF2.out).2.2);(case aB => exact HB.out);(case aF => exact fun _ _ => trivial);(case aO => exact HU.out);(case aS => exact box_size HB.out);(case aL => have := HFL.out;have := HLL.out;have := HAL.out;have := HL.out;have := HLT.out;omega);intro v3 w5 ho hb hg hat;have n1 := Aside0.mk (jr_over2 HJ.out HU.out HN.out hg);have n2 := Aside0.mk ho;have n3 := Aside0.mk hb;have n4 := Aside0.mk (ne_app2 HN.out hat (Kd.R_lt HJ.out.2.2));clear HJ HU HN HB ho hb hg hat cv1 cv2;have HJ := n1;have HU := n2;have HB := n3;have HN := n4;clear n1 n2 n3 n4))
          go_roundg gk
          case measure => omega
          case rel => exact ⟨j + 1, v2, by have := HLT.out; omega, by have := HLT.out; omega, by rw [HW.out], by rw [HE.out, HW2.out], by rw [HE.out, N.lay_snoc, HN1.out]; rfl, ⟨by rw [HE.out]; exact HJ.out⟩, ⟨by rw [HE.out, N.lay_snoc, N.ofN_app]; have h := HU.out; rw [HF.out] at h; exact h⟩, HN, HB⟩
      · have e0 : j = l.length := by omega
        subst e0
        have c1 : decide ((l.length : Int) < (l.length : Int)) = false := decide_eq_false (by omega)
        have HAL := Aside0.mk (acc_len l l.length)
        obtain ⟨P0, hP0⟩ : ∃ P, P = ofN (layN 0 (accT l l.length)).1 := ⟨_, rfl⟩
        have HP0 := Aside0.mk (show P0.length = 33 * (accT l l.length).length by rw [hP0, N.ofN_length, N.lay_length])
        rw [← hP0] at HJ HU
        clear hP0
        generalize (accT l l.length).length = na at HAL HP0 ⊢
        obtain ⟨Au, cu, eu⟩ := Kd.R_slice HU.out
        subst eu
        have HPL : Aside0 (P0.length ≤ 1099511627776) := ⟨by have := HP0.out; have := HAL.out; have := HL.out; omega⟩
        have s1 : ((strOfNums P0).toList == (strOfNums P0).toList) = true := beq_self_eq_true _
        have bn : ((P0.length : Int) / 33 != (na : Int)) = false := by
          have h : (P0.length : Int) / 33 = (na : Int) := by rw [HP0.out]; omega
          rw [h]; exact bne_self_eq_false _
        go_wp2
        refine start_ (n := 12) (S := fun w' => Below wr.heap.size wr w') (ds := []) #[false, false, false, false, false, false, false, false, false, false, false, false] (by kernel_rfl) rfl rfl (below_drew (Below.refl _ _)) (fun hHeld => ?_)
        refine pure_ (i := 0) (N := some 128) (v := ?_) (a' := ?_) #[true, false, false, false, false, false, false, false, false, false, false, false] rfl rfl (by kernel_rfl) (fun _ _ _ h => h) (Or.inl ⟨by rfl, ?_⟩) ?_ ?_
        rotate_left
        · intro w'
          go_simp
          with_reducible rfl
        rotate_left
        · simp only [Act.put, List.setIfInBounds_toArray, List.set_cons_zero, List.set_cons_succ, i64_w, i32_w]
          rfl
        refine pure_ (i := 3) (N := some 131) (v := ?_) (a' := ?_) #[true, false, false, true, false, false, false, false, false, false, false, false] rfl rfl (by kernel_rfl) (fun _ _ _ h => h) (Or.inl ⟨by rfl, ?_⟩) ?_ ?_
        rotate_left
        · intro w'
          go_simp
          with_reducible rfl
        rotate_left
        · simp only [Act.put, List.setIfInBounds_toArray, List.set_cons_zero, List.set_cons_succ, i64_w, i32_w]
          rfl
        refine take_ (i := 4) (N := some 132) (v := ?_) (a' := ?_) #[true, false, false, true, true, false, false, false, false, false, false, false] rfl rfl (by kernel_rfl) (fun _ _ _ h => h) (Or.inl ⟨by rfl, ?_⟩) hHeld ?_ ?_
        rotate_left
        · intro w' hw'
          have cv := Kd.C_string (P := Tryd.prog) Tryd.underlying30 Tryd.underlying5 Tryd.underlying9 (c := cu) (Kd.C_below (Kd.R_reads' HU.out).2.2 hw')
          go_simp
          with_reducible rfl
        rotate_left
        · simp only [Act.put, List.setIfInBounds_toArray, List.set_cons_zero, List.set_cons_succ, i64_w, i32_w]
          rfl
        refine one_ (i := 1) (N := some 129) #[true, true, false, true, true, false, false, false, false, false, false, false] rfl rfl (by kernel_rfl) (by decide) (fun K hK => ?_)
        refine goes_ Tryd.func9 (by kernel_rfl) rfl #[.pointer (some ⟨g, 0, none⟩)] (by rfl) rfl rfl (by first | (simp only [List.map_toArray, List.map_cons, List.map_nil]; done) | (simp only [List.map_toArray, List.map_cons, List.map_nil]; rfl)) ?_
        refine (journal_Journal_Bytes.own (HJ.out.below hHeld) HPL.out).mono ?_
        rintro e w9 ⟨v9, rfl, hR9, hb9⟩
        obtain ⟨A9, c9, rfl⟩ := Kd.R_slice hR9
        refine ⟨_, rfl, ?_⟩
        refine hK.out _ _ (hHeld.trans ((hb9).mono hHeld.size)) (fun hHeld => ?_)
        clear hK K
        refine norm_ (a' := ?_) ?_ ?_
        rotate_left
        · show Act.put _ (some 129) _ = _
          simp only [Act.put, List.setIfInBounds_toArray, List.set_cons_zero, List.set_cons_succ, i64_w, i32_w]
          rfl
        have hS2 : Below wr.heap.size wr w9 ∧ Kd.R (Kd.int .u8) 5 w9 0 (fun _ => True) (.slice A9 P0.length c9) P0 := ⟨hHeld, Kd.R_lower hR9 (Nat.zero_le _)⟩
        refine last_mono (S2 := fun w' => Below wr.heap.size wr w' ∧ Kd.R (Kd.int .u8) 5 w' 0 (fun _ => True) (.slice A9 P0.length c9) P0) hS2 (fun w' h => h.1) ?_
        clear hHeld
        have hHeld := hS2
        clear hS2
        refine take_ (i := 2) (N := some 130) (v := ?_) (a' := ?_) #[true, true, true, true, true, false, false, false, false, false, false, false] rfl rfl (by kernel_rfl) (fun _ _ _ h => h) (Or.inl ⟨by rfl, ?_⟩) hHeld ?_ ?_
        rotate_left
        · intro w' hw'
          have cv := Kd.C_string (P := Tryd.prog) Tryd.underlying30 Tryd.underlying5 Tryd.underlying9 (c := c9) (Kd.R_reads' hw'.2).2.2
          go_simp
          with_reducible rfl
        rotate_left
        · simp only [Act.put, List.setIfInBounds_toArray, List.set_cons_zero, List.set_cons_succ, i64_w, i32_w]
          rfl
        refine pure_ (i := 5) (N := some 133) (v := ?_) (a' := ?_) #[true, true, true, true, true, true, false, false, false, false, false, false] rfl rfl (by kernel_rfl) (fun _ _ _ h => h) (Or.inl ⟨by rfl, ?_⟩) ?_ ?_
        rotate_left
        · intro w'
          go_simp
          with_reducible rfl
        rotate_left
        · simp only [Act.put, List.setIfInBounds_toArray, List.set_cons_zero, List.set_cons_succ, i64_w, i32_w]
          rfl
        refine pure_ (i := 6) (N := some 134) (v := ?_) (a' := ?_) #[true, true, true, true, true, true, true, false, false, false, false, false] rfl rfl (by kernel_rfl) (fun _ _ _ h => h) (Or.inl ⟨by rfl, ?_⟩) ?_ ?_
        rotate_left
        · intro w'
          go_simp
          with_reducible rfl
        rotate_left
        · simp only [Act.put, List.setIfInBounds_toArray, List.set_cons_zero, List.set_cons_succ, i64_w, i32_w]
          rfl
        refine pure_ (i := 7) (N := some 135) (v := ?_) (a' := ?_) #[true, true, true, true, true, true, true, true, false, false, false, false] rfl rfl (by kernel_rfl) (fun _ _ _ h => h) (Or.inl ⟨by rfl, ?_⟩) ?_ ?_
        rotate_left
        · intro w'
          go_simp
          with_reducible rfl
        rotate_left
        · simp only [Act.put, List.setIfInBounds_toArray, List.set_cons_zero, List.set_cons_succ, i64_w, i32_w]
          rfl
        refine pure_ (i := 9) (N := some 137) (v := ?_) (a' := ?_) #[true, true, true, true, true, true, true, true, false, true, false, false] rfl rfl (by kernel_rfl) (fun _ _ _ h => h) (Or.inl ⟨by rfl, ?_⟩) ?_ ?_
        rotate_left
        · intro w'
          go_simp
          with_reducible rfl
        rotate_left
        · simp only [Act.put, List.setIfInBounds_toArray, List.set_cons_zero, List.set_cons_succ, i64_w, i32_w]
          rfl
        refine one_ (i := 8) (N := some 136) #[true, true, true, true, true, true, true, true, true, true, false, false] rfl rfl (by kernel_rfl) (by decide) (fun K hK => ?_)
        refine goes_ Tryd.func12 (by kernel_rfl) rfl #[.pointer (some ⟨g, 0, none⟩)] (by rfl) rfl rfl (by first | (simp only [List.map_toArray, List.map_cons, List.map_nil]; done) | (simp only [List.map_toArray, List.map_cons, List.map_nil]; rfl)) ?_
        refine (journal_Journal_Len.own (HJ.out.below hHeld.1) HPL.out).mono ?_
        rintro e w8 ⟨rfl, hd8⟩
        obtain ⟨nd8, rfl⟩ := hd8
        refine ⟨_, rfl, ?_⟩
        refine hK.out _ _ ⟨(hHeld.1.trans ((pw_below_drewN (Below.refl _ _) nd8).mono hHeld.1.size)), (Kd.R_below hHeld.2 (pw_below_drewN (Below.refl _ _) nd8))⟩ (fun hHeld => ?_)
        clear hK K
        refine norm_ (a' := ?_) ?_ ?_
        rotate_left
        · show Act.put _ (some 136) _ = _
          simp only [Act.put, List.setIfInBounds_toArray, List.set_cons_zero, List.set_cons_succ, i64_w, i32_w]
          rfl
        refine pure_ (i := 10) (N := some 138) (v := ?_) (a' := ?_) #[true, true, true, true, true, true, true, true, true, true, true, false] rfl rfl (by kernel_rfl) (fun _ _ _ h => h) (Or.inl ⟨by rfl, ?_⟩) ?_ ?_
        rotate_left
        · intro w'
          go_simp
          with_reducible rfl
        rotate_left
        · simp only [Act.put, List.setIfInBounds_toArray, List.set_cons_zero, List.set_cons_succ, i64_w, i32_w]
          rfl
        refine pure_ (i := 11) (N := some 139) (v := ?_) (a' := ?_) #[true, true, true, true, true, true, true, true, true, true, true, true] rfl rfl (by kernel_rfl) (fun _ _ _ h => h) (Or.inl ⟨by rfl, ?_⟩) ?_ ?_
        rotate_left
        · intro w'
          go_simp
          with_reducible rfl
        rotate_left
        · simp only [Act.put, List.setIfInBounds_toArray, List.set_cons_zero, List.set_cons_succ, i64_w, i32_w]
          rfl
        refine done_ (by kernel_rfl) ?_
        have HB2 := Aside0.mk (box_step HB.out hHeld.1)
        clear HB HJ HU HN
        obtain ⟨q1, q2, q3, q4⟩ := N.read_back 4096 0 m HM.out
        obtain ⟨K1, hK1⟩ := (N.read_ev m HM.out (by have := HML.out; omega)).rounds
        obtain ⟨K2, hK2⟩ := (N.rread_ev m HM.out (by have := HML.out; omega)).rounds
        have hOp := fun W h0 hT => journal_Open.own A1 cb m W HM.out HML.out (by rw [HBE.out]; exact h0) (by rw [HBE.out]; exact HC1.out) hT
        have q5 : ofN (layN 0 (readN 4096 0 m).1).1 = M.take (readN 4096 0 m).2 := by rw [q1, ← N.ofN_take, HBE.out]
        rw [HBE.out] at hK1 hK2 hOp
        have hml2 : m.length = M.length := by rw [← HBE.out, N.ofN_length]
        generalize (readN 4096 0 m).2 = q at hK1 hK2 q1 q2 q3 q5
        generalize (readN 4096 0 m).1 = X at hK1 hK2 hOp q1 q2 q4 q5
        have HXL : Aside0 (X.length ≤ 90) := ⟨by have := HML.out; omega⟩
        obtain ⟨P1, hP1⟩ : ∃ P, P = ofN (layN 0 X).1 := ⟨_, rfl⟩
        rw [← hP1] at q5
        have HPE := Aside0.mk hP1
        have HP1 := Aside0.mk (show P1.length = 33 * X.length by rw [hP1, N.ofN_length, N.lay_length])
        have HPL1 : Aside0 (P1.length ≤ 1099511627776) := ⟨by have := HP1.out; have := HXL.out; omega⟩
        have HRQ : Aside0 (Kd.C (Kd.int .u8) w A1 P1.length P1) := ⟨by rw [q5]; exact Kd.C_take HR1.out (by omega)⟩
        obtain ⟨iu, hiu, _, _, _⟩ := info_parts info5
        have HCUT : Aside0 (∀ W, (Instr.slice 30 (.slice A1 M.length cb) none (some (.int .i64 (q : Int))) none).run Tryd.prog W = .ok (.slice A1 P1.length cb) W) := ⟨fun W => by rw [q5]; exact take_run (P := Tryd.prog) Tryd.underlying30 hiu A1 cb M .i64 q (by omega) HC1.out W⟩
        have bn2 : ((P1.length : Int) / 33 != (X.length : Int)) = false := by
          have h : (P1.length : Int) / 33 = (X.length : Int) := by rw [HP1.out]; omega
          rw [h]; exact bne_self_eq_false _
        have bq : ((q : Int) != (q : Int)) = false := bne_self_eq_false _
        have sP1 : ((strOfNums P1).toList == (strOfNums P1).toList) = true := beq_self_eq_true _
        obtain ⟨K3, hK3⟩ := (N.ops_ev X (by have := HXL.out; omega)).rounds
        have HK1 := Aside0.mk hK1
        have HK2 := Aside0.mk hK2
        have HK3 := Aside0.mk hK3
        have HOp := Aside0.mk hOp
        have HOK := Aside0.mk q4
        have HQ := Aside0.mk q2
        clear hK1 hK2 hK3 hOp q1 q2 q3 q4 q5 hml2 hiu hHeld hP1
        go_wp2_with (first
          | (go_at_call 10; (with_reducible refine (journal_Read.calls K1 A1 cb M X (q : Int) _ ?s1 ?s2 HK1.out ?s3).mono ?_); (case s1 => exact Kd.C_below HR1.out (two_below HB2.out)); (case s2 => exact HC1.out); (case s3 => exact Tab.later HT (two_below HB2.out)); rintro e w10 ⟨vx, rfl, ho, hb⟩; obtain ⟨Ax, cx, ex⟩ := Kd.R_slice ho; subst ex; have HX0 := Aside0.mk (Kd.R_lower ho (Nat.zero_le _)); have HBa := Aside0.mk (box_step HB2.out hb); clear ho hb HB2)
          | (go_at_call 16; (with_reducible refine (tombolaref46_Read.calls K2 A1 cb M X (q : Int) _ ?s1 ?s2 HK2.out).mono ?_); (case s1 => exact Kd.C_below HR1.out (two_below HBa.out)); (case s2 => exact HC1.out); rintro e w11 ⟨vy, rfl, ho, hb⟩; obtain ⟨Ay, cy, ey⟩ := Kd.R_slice ho; subst ey; have HY1 := Aside0.mk (Kd.R_lower ho (box_size HBa.out)); have HX1 := Aside0.mk (Kd.R_below HX0.out hb); have HBb := Aside0.mk (box_step HBa.out hb); clear ho hb HBa HX0)
          | (go_at_call 17; refine (HOp.out _ (Kd.C_below HR1.out (two_below HBb.out)) (Tab.later HT (two_below HBb.out))).mono ?_; rintro e w12 ⟨g2, v2, rfl, hj, hb⟩; have HX := Aside0.mk (Kd.R_below HX1.out hb); have HY := Aside0.mk (Kd.R_below HY1.out hb); rw [← HPE.out] at hj; have HJo := Aside0.mk (Jr.lower hj (box_size HBb.out)); have HB3 := Aside0.mk (box_step HBb.out hb); clear hj hb HBb HX1 HY1))
        refine start_ (n := 26) (S := fun w' => Below w12.heap.size w12 w') (ds := []) #[false, false, false, false, false, false, false, false, false, false, false, false, false, false, false, false, false, false, false, false, false, false, false, false, false, false] (by kernel_rfl) rfl rfl (below_drew (Below.refl _ _)) (fun hHeld => ?_)
        refine pure_ (i := 0) (N := some 152) (v := ?_) (a' := ?_) #[true, false, false, false, false, false, false, false, false, false, false, false, false, false, false, false, false, false, false, false, false, false, false, false, false, false] rfl rfl (by kernel_rfl) (fun _ _ _ h => h) (Or.inl ⟨by rfl, ?_⟩) ?_ ?_
        rotate_left
        · intro w'
          go_simp
          with_reducible rfl
        rotate_left
        · simp only [Act.put, List.setIfInBounds_toArray, List.set_cons_zero, List.set_cons_succ, i64_w, i32_w]
          rfl
        refine pure_ (i := 1) (N := some 153) (v := ?_) (a' := ?_) #[true, true, false, false, false, false, false, false, false, false, false, false, false, false, false, false, false, false, false, false, false, false, false, false, false, false] rfl rfl (by kernel_rfl) (fun _ _ _ h => h) (Or.inl ⟨by rfl, ?_⟩) ?_ ?_
        rotate_left
        · intro w'
          go_simp
          with_reducible rfl
        rotate_left
        · simp only [Act.put, List.setIfInBounds_toArray, List.set_cons_zero, List.set_cons_succ, i64_w, i32_w]
          rfl
        refine one_ (i := 2) (N := some 154) #[true, true, true, false, false, false, false, false, false, false, false, false, false, false, false, false, false, false, false, false, false, false, false, false, false, false] rfl rfl (by kernel_rfl) (by decide) (fun K hK => ?_)
        refine goes_ Tryd.func11 (by kernel_rfl) rfl #[.slice Ax X.length cx, .slice Ay X.length cy] (by rfl) rfl rfl (by first | (simp only [List.map_toArray, List.map_cons, List.map_nil]; done) | (simp only [List.map_toArray, List.map_cons, List.map_nil]; rfl)) ?_
        refine (tombolaref46_Ops.calls K3 Ax cx X Ay cy X true _ (Kd.R_reads' (Kd.R_below HX.out hHeld)).2.2 (Kd.R_reads' HX.out).2.1 (Kd.R_reads' (Kd.R_below HY.out hHeld)).2.2 (Kd.R_reads' HY.out).2.1 HK3.out).mono ?_
        rintro e w7 ⟨rfl, hd7⟩
        obtain ⟨nd7, rfl⟩ := hd7
        refine ⟨_, rfl, ?_⟩
        refine hK.out _ _ (hHeld.trans ((pw_below_drewN (Below.refl _ _) nd7).mono hHeld.size)) (fun hHeld => ?_)
        clear hK K
        refine norm_ (a' := ?_) ?_ ?_
        rotate_left
        · show Act.put _ (some 154) _ = _
          simp only [Act.put, List.setIfInBounds_toArray, List.set_cons_zero, List.set_cons_succ, i64_w, i32_w]
          rfl
        refine pure_ (i := 3) (N := some 155) (v := ?_) (a' := ?_) #[true, true, true, true, false, false, false, false, false, false, false, false, false, false, false, false, false, false, false, false, false, false, false, false, false, false] rfl rfl (by kernel_rfl) (fun _ _ _ h => h) (Or.inl ⟨by rfl, ?_⟩) ?_ ?_
        rotate_left
        · intro w'
          go_simp
          with_reducible rfl
        rotate_left
        · simp only [Act.put, List.setIfInBounds_toArray, List.set_cons_zero, List.set_cons_succ, i64_w, i32_w]
          rfl
        refine pure_ (i := 4) (N := some 156) (v := ?_) (a' := ?_) #[true, true, true, true, true, false, false, false, false, false, false, false, false, false, false, false, false, false, false, false, false, false, false, false, false, false] rfl rfl (by kernel_rfl) (fun _ _ _ h => h) (Or.inl ⟨by rfl, ?_⟩) ?_ ?_
        rotate_left
        · intro w'
          go_simp
          with_reducible rfl
        rotate_left
        · simp only [Act.put, List.setIfInBounds_toArray, List.set_cons_zero, List.set_cons_succ, i64_w, i32_w]
          rfl
        refine pure_ (i := 5) (N := some 157) (v := ?_) (a' := ?_) #[true, true, true, true, true, true, false, false, false, false, false, false, false, false, false, false, false, false, false, false, false, false, false, false, false, false] rfl rfl (by kernel_rfl) (fun _ _ _ h => h) (Or.inl ⟨by rfl, ?_⟩) ?_ ?_
        rotate_left
        · intro w'
          go_simp
          with_reducible rfl
        rotate_left
        · simp only [Act.put, List.setIfInBounds_toArray, List.set_cons_zero, List.set_cons_succ, i64_w, i32_w]
          rfl
        refine pure_ (i := 6) (N := some 158) (v := ?_) (a' := ?_) #[true, true, true, true, true, true, true, false, false, false, false, false, false, false, false, false, false, false, false, false, false, false, false, false, false, false] rfl rfl (by kernel_rfl) (fun _ _ _ h => h) (Or.inl ⟨by rfl, ?_⟩) ?_ ?_
        rotate_left
        · intro w'
          go_simp
          with_reducible rfl
        rotate_left
        · simp only [Act.put, List.setIfInBounds_toArray, List.set_cons_zero, List.set_cons_succ, i64_w, i32_w]
          rfl
        refine pure_ (i := 7) (N := some 159) (v := ?_) (a' := ?_) #[true, true, true, true, true, true, true, true, false, false, false, false, false, false, false, false, false, false, false, false, false, false, false, false, false, false] rfl rfl (by kernel_rfl) (fun _ _ _ h => h) (Or.inl ⟨by rfl, ?_⟩) ?_ ?_
        rotate_left
        · intro w'
          go_simp
          with_reducible rfl
        rotate_left
        · simp only [Act.put, List.setIfInBounds_toArray, List.set_cons_zero, List.set_cons_succ, i64_w, i32_w]
          rfl
        refine pure_ (i := 8) (N := some 160) (v := ?_) (a' := ?_) #[true, true, true, true, true, true, true, true, true, false, false, false, false, false, false, false, false, false, false, false, false, false, false, false, false, false] rfl rfl (by kernel_rfl) (fun _ _ _ h => h) (Or.inl ⟨by rfl, ?_⟩) ?_ ?_
        rotate_left
        · intro w'
          go_simp
          with_reducible rfl
        rotate_left
        · simp only [Act.put, List.setIfInBounds_toArray, List.set_cons_zero, List.set_cons_succ, i64_w, i32_w]
          rfl
        refine pure_ (i := 9) (N := some 161) (v := ?_) (a' := ?_) #[true, true, true, true, true, true, true, true, true, true, false, false, false, false, false, false, false, false, false, false, false, false, false, false, false, false] rfl rfl (by kernel_rfl) (fun _ _ _ h => h) (Or.inl ⟨by rfl, ?_⟩) ?_ ?_
        rotate_left
        · intro w'
          go_simp
          with_reducible rfl
        rotate_left
        · simp only [Act.put, List.setIfInBounds_toArray, List.set_cons_zero, List.set_cons_succ, i64_w, i32_w]
          rfl
        refine pure_ (i := 10) (N := some 162) (v := ?_) (a' := ?_) #[true, true, true, true, true, true, true, true, true, true, true, false, false, false, false, false, false, false, false, false, false, false, false, false, false, false] rfl rfl (by kernel_rfl) (fun _ _ _ h => h) (Or.inl ⟨by rfl, ?_⟩) ?_ ?_
        rotate_left
        · intro w'
          go_simp
          with_reducible rfl
        rotate_left
        · simp only [Act.put, List.setIfInBounds_toArray, List.set_cons_zero, List.set_cons_succ, i64_w, i32_w]
          rfl
        refine pure_ (i := 13) (N := some 165) (v := ?_) (a' := ?_) #[true, true, true, true, true, true, true, true, true, true, true, false, false, true, false, false, false, false, false, false, false, false, false, false, false, false] rfl rfl (by kernel_rfl) (fun _ _ _ h => h) (Or.inl ⟨by rfl, ?_⟩) ?_ ?_
        rotate_left
        · intro w'
          go_simp
          with_reducible rfl
        rotate_left
        · simp only [Act.put, List.setIfInBounds_toArray, List.set_cons_zero, List.set_cons_succ, i64_w, i32_w]
          rfl
        refine pure_ (i := 14) (N := some 166) (v := ?_) (a' := ?_) #[true, true, true, true, true, true, true, true, true, true, true, false, false, true, true, false, false, false, false, false, false, false, false, false, false, false] rfl rfl (by kernel_rfl) (fun _ _ _ h => h) (Or.inl ⟨by rfl, ?_⟩) ?_ ?_
        rotate_left
        · intro w'
          go_simp
          with_reducible rfl
        rotate_left
        · simp only [Act.put, List.setIfInBounds_toArray, List.set_cons_zero, List.set_cons_succ, i64_w, i32_w]
          rfl
        refine take_ (i := 15) (N := some 167) (v := ?_) (a' := ?_) #[true, true, true, true, true, true, true, true, true, true, true, false, false, true, true, true, false, false, false, false, false, false, false, false, false, false] rfl rfl (by kernel_rfl) (fun _ _ _ h => h) (Or.inl ⟨by rfl, ?_⟩) hHeld ?_ ?_
        rotate_left
        · intro w' hw'
          have hcut := HCUT.out w'
          go_simp
          with_reducible rfl
        rotate_left
        · simp only [Act.put, List.setIfInBounds_toArray, List.set_cons_zero, List.set_cons_succ, i64_w, i32_w]
          rfl
        refine take_ (i := 16) (N := some 168) (v := ?_) (a' := ?_) #[true, true, true, true, true, true, true, true, true, true, true, false, false, true, true, true, true, false, false, false, false, false, false, false, false, false] rfl rfl (by kernel_rfl) (fun _ _ _ h => h) (Or.inl ⟨by rfl, ?_⟩) hHeld ?_ ?_
        rotate_left
        · intro w' hw'
          have cv := Kd.C_string (P := Tryd.prog) Tryd.underlying30 Tryd.underlying5 Tryd.underlying9 (c := cb) (Kd.C_below HRQ.out (two_below (box_step HB3.out hw')))
          go_simp
          with_reducible rfl
        rotate_left
        · simp only [Act.put, List.setIfInBounds_toArray, List.set_cons_zero, List.set_cons_succ, i64_w, i32_w]
          rfl
        refine one_ (i := 11) (N := some 163) #[true, true, true, true, true, true, true, true, true, true, true, true, false, true, true, true, true, false, false, false, false, false, false, false, false, false] rfl rfl (by kernel_rfl) (by decide) (fun K hK => ?_)
        refine goes_ Tryd.func9 (by kernel_rfl) rfl #[.pointer (some ⟨g2, 0, none⟩)] (by rfl) rfl rfl (by first | (simp only [List.map_toArray, List.map_cons, List.map_nil]; done) | (simp only [List.map_toArray, List.map_cons, List.map_nil]; rfl)) ?_
        refine (journal_Journal_Bytes.own (HJo.out.below hHeld) HPL1.out).mono ?_
        rintro e w9 ⟨v9, rfl, hR9, hb9⟩
        obtain ⟨A9, c9, rfl⟩ := Kd.R_slice hR9
        refine ⟨_, rfl, ?_⟩
        refine hK.out _ _ (hHeld.trans ((hb9).mono hHeld.size)) (fun hHeld => ?_)
        clear hK K
        refine norm_ (a' := ?_) ?_ ?_
        rotate_left
        · show Act.put _ (some 163) _ = _
          simp only [Act.put, List.setIfInBounds_toArray, List.set_cons_zero, List.set_cons_succ, i64_w, i32_w]
          rfl
        have hS2 : Below w12.heap.size w12 w9 ∧ Kd.R (Kd.int .u8) 5 w9 0 (fun _ => True) (.slice A9 P1.length c9) P1 := ⟨hHeld, Kd.R_lower hR9 (Nat.zero_le _)⟩
        refine last_mono (S2 := fun w' => Below w12.heap.size w12 w' ∧ Kd.R (Kd.int .u8) 5 w' 0 (fun _ => True) (.slice A9 P1.length c9) P1) hS2 (fun w' h => h.1) ?_
        clear hHeld
        have hHeld := hS2
        clear hS2
        refine take_ (i := 12) (N := some 164) (v := ?_) (a' := ?_) #[true, true, true, true, true, true, true, true, true, true, true, true, true, true, true, true, true, false, false, false, false, false, false, false, false, false] rfl rfl (by kernel_rfl) (fun _ _ _ h => h) (Or.inl ⟨by rfl, ?_⟩) hHeld ?_ ?_
        rotate_left
        · intro w' hw'
          have cv := Kd.C_string (P := Tryd.prog) Tryd.underlying30 Tryd.underlying5 Tryd.underlying9 (c := c9) (Kd.R_reads' hw'.2).2.2
          go_simp
          with_reducible rfl
        rotate_left
        · simp only [Act.put, List.setIfInBounds_toArray, List.set_cons_zero, List.set_cons_succ, i64_w, i32_w]
          rfl
        refine pure_ (i := 17) (N := some 169) (v := ?_) (a' := ?_) #[true, true, true, true, true, true, true, true, true, true, true, true, true, true, true, true, true, true, false, false, false, false, false, false, false, false] rfl rfl (by kernel_rfl) (fun _ _ _ h => h) (Or.inl ⟨by rfl, ?_⟩) ?_ ?_
        rotate_left
        · intro w'
          go_simp
          with_reducible rfl
        rotate_left
        · simp only [Act.put, List.setIfInBounds_toArray, List.set_cons_zero, List.set_cons_succ, i64_w, i32_w]
          rfl
        refine pure_ (i := 18) (N := some 170) (v := ?_) (a' := ?_) #[true, true, true, true, true, true, true, true, true, true, true, true, true, true, true, true, true, true, true, false, false, false, false, false, false, false] rfl rfl (by kernel_rfl) (fun _ _ _ h => h) (Or.inl ⟨by rfl, ?_⟩) ?_ ?_
        rotate_left
        · intro w'
          go_simp
          with_reducible rfl
        rotate_left
        · simp only [Act.put, List.setIfInBounds_toArray, List.set_cons_zero, List.set_cons_succ, i64_w, i32_w]
          rfl
        refine pure_ (i := 19) (N := some 171) (v := ?_) (a' := ?_) #[true, true, true, true, true, true, true, true, true, true, true, true, true, true, true, true, true, true, true, true, false, false, false, false, false, false] rfl rfl (by kernel_rfl) (fun _ _ _ h => h) (Or.inl ⟨by rfl, ?_⟩) ?_ ?_
        rotate_left
        · intro w'
          go_simp
          with_reducible rfl
        rotate_left
        · simp only [Act.put, List.setIfInBounds_toArray, List.set_cons_zero, List.set_cons_succ, i64_w, i32_w]
          rfl
        refine pure_ (i := 20) (N := some 172) (v := ?_) (a' := ?_) #[true, true, true, true, true, true, true, true, true, true, true, true, true, true, true, true, true, true, true, true, true, false, false, false, false, false] rfl rfl (by kernel_rfl) (fun _ _ _ h => h) (Or.inl ⟨by rfl, ?_⟩) ?_ ?_
        rotate_left
        · intro w'
          go_simp
          with_reducible rfl
        rotate_left
        · simp only [Act.put, List.setIfInBounds_toArray, List.set_cons_zero, List.set_cons_succ, i64_w, i32_w]
          rfl
        refine pure_ (i := 22) (N := some 174) (v := ?_) (a' := ?_) #[true, true, true, true, true, true, true, true, true, true, true, true, true, true, true, true, true, true, true, true, true, false, true, false, false, false] rfl rfl (by kernel_rfl) (fun _ _ _ h => h) (Or.inl ⟨by rfl, ?_⟩) ?_ ?_
        rotate_left
        · intro w'
          go_simp
          with_reducible rfl
        rotate_left
        · simp only [Act.put, List.setIfInBounds_toArray, List.set_cons_zero, List.set_cons_succ, i64_w, i32_w]
          rfl
        refine pure_ (i := 23) (N := some 175) (v := ?_) (a' := ?_) #[true, true, true, true, true, true, true, true, true, true, true, true, true, true, true, true, true, true, true, true, true, false, true, true, false, false] rfl rfl (by kernel_rfl) (fun _ _ _ h => h) (Or.inl ⟨by rfl, ?_⟩) ?_ ?_
        rotate_left
        · intro w'
          go_simp
          with_reducible rfl
        rotate_left
        · simp only [Act.put, List.setIfInBounds_toArray, List.set_cons_zero, List.set_cons_succ, i64_w, i32_w]
          rfl
        refine one_ (i := 21) (N := some 173) #[true, true, true, true, true, true, true, true, true, true, true, true, true, true, true, true, true, true, true, true, true, true, true, true, false, false] rfl rfl (by kernel_rfl) (by decide) (fun K hK => ?_)
        refine goes_ Tryd.func12 (by kernel_rfl) rfl #[.pointer (some ⟨g2, 0, none⟩)] (by rfl) rfl rfl (by first | (simp only [List.map_toArray, List.map_cons, List.map_nil]; done) | (simp only [List.map_toArray, List.map_cons, List.map_nil]; rfl)) ?_
        refine (journal_Journal_Len.own (HJo.out.below hHeld.1) HPL1.out).mono ?_
        rintro e w8 ⟨rfl, hd8⟩
        obtain ⟨nd8, rfl⟩ := hd8
        refine ⟨_, rfl, ?_⟩
        refine hK.out _ _ ⟨(hHeld.1.trans ((pw_below_drewN (Below.refl _ _) nd8).mono hHeld.1.size)), (Kd.R_below hHeld.2 (pw_below_drewN (Below.refl _ _) nd8))⟩ (fun hHeld => ?_)
        clear hK K
        refine norm_ (a' := ?_) ?_ ?_
        rotate_left
        · show Act.put _ (some 173) _ = _
          simp only [Act.put, List.setIfInBounds_toArray, List.set_cons_zero, List.set_cons_succ, i64_w, i32_w]
          rfl
        refine pure_ (i := 24) (N := some 176) (v := ?_) (a' := ?_) #[true, true, true, true, true, true, true, true, true, true, true, true, true, true, true, true, true, true, true, true, true, true, true, true, true, false] rfl rfl (by kernel_rfl) (fun _ _ _ h => h) (Or.inl ⟨by rfl, ?_⟩) ?_ ?_
        rotate_left
        · intro w'
          go_simp
          with_reducible rfl
        rotate_left
        · simp only [Act.put, List.setIfInBounds_toArray, List.set_cons_zero, List.set_cons_succ, i64_w, i32_w]
          rfl
        refine pure_ (i := 25) (N := some 177) (v := ?_) (a' := ?_) #[true, true, true, true, true, true, true, true, true, true, true, true, true, true, true, true, true, true, true, true, true, true, true, true, true, true] rfl rfl (by kernel_rfl) (fun _ _ _ h => h) (Or.inl ⟨by rfl, ?_⟩) ?_ ?_
        rotate_left
        · intro w'
          go_simp
          with_reducible rfl
        rotate_left
        · simp only [Act.put, List.setIfInBounds_toArray, List.set_cons_zero, List.set_cons_succ, i64_w, i32_w]
          rfl
        refine done_ (by kernel_rfl) ?_
        have HB4 := Aside0.mk (box_step HB3.out hHeld.1)
        have HJ4 := Aside0.mk (HJo.out.below hHeld.1)
        have HY4 := Aside0.mk (Kd.R_below HY.out hHeld.1)
        clear HJo HY HX
        obtain ⟨y0, y1, y2, y3⟩ := box4 HB4.out
        cases hk : knownB mo with
        | false =>
          have HK := Aside0.mk hk
          have hn : (nameOf mo.f0).toList = [] := by rw [N.name_iff]; unfold N.knownI; unfold knownB at hk; exact of_decide_eq_false hk
          have hn2 : ((nameOf mo.f0).toList == ([] : List UInt8)) = true := beq_iff_eq.mpr hn
          have hNm := N.rname_eq mo.f0
          generalize nameOf mo.f0 = nm at hNm hn2
          have HNm := Aside0.mk hNm
          clear hk hn hNm
          go_wp2_with (first
            | (go_at_call 8; refine (add_strange mo HK.out (Tab.later HT (two_below HB4.out))).mono ?_; rintro e w13 ⟨rfl, hb⟩; clear y0 y1 y2 y3; have HB5 := Aside0.mk (box_step HB4.out hb); clear hb; obtain ⟨y0, y1, y2, y3⟩ := box4 HB5.out)
            | (go_at_call 15; (with_reducible refine (tombolaref31_Name.calls _ nm _ HNm.out).mono ?_); rintro e w14 ⟨rfl, hb⟩; have HB6 := Aside0.mk (box_step HB5.out hb); clear hb)
            | (go_at_call 6; refine (tombolalaw46_alive.own _ (Tab.later HT (two_below HB6.out))).mono ?_; rintro e w19 ⟨rfl, hb⟩; have HBz := Aside0.mk (box_step HB6.out hb); clear hb))
          go_ret
          exact ⟨rfl, two_below HBz.out⟩
        | true =>
          have HK := Aside0.mk hk
          clear hk
          have hok2 : ∀ o, o ∈ X ++ [mo] → OpOk o := by
            intro o ho
            rcases List.mem_append.1 ho with h | h
            · exact HOK.out o h
            · exact acc_ok [mo] 1 (fun x hx => by rw [List.mem_singleton] at hx; subst hx; exact HMO.out) o (by rw [List.mem_singleton] at h; subst h; simp [accT, HK.out])
          have hz5 : (X ++ [mo]).length = X.length + 1 := by simp
          obtain ⟨K5, hK5⟩ := read_all (X ++ [mo]) hok2 (by have := HXL.out; omega)
          obtain ⟨K6, hK6⟩ := (N.ops_ev (X ++ [mo]) (by have := HXL.out; omega)).rounds
          have hP2L : (ofN (layN 0 (X ++ [mo])).1).length ≤ 1099511627776 := by rw [N.ofN_length, N.lay_length]; have := HXL.out; omega
          have hAd := fun (b : Nat) (W : World) (v : Value) (hj : Jr b (fun _ => True) W g2 v (ofN (layN 0 X).1) ((layN 0 X).2 : Nat)) hT => add_known2 X mo hj HK.out (by have := HXL.out; omega) hT
          obtain ⟨r2, hr2⟩ : ∃ r2 : Int, r2 = ((33 * (X ++ [mo]).length : Nat) : Int) := ⟨_, rfl⟩
          have hw5 : wrap64 ((q : Int) + 33) = r2 := by have := HQ.out; have := HXL.out; unfold wrap64; omega
          have br : (r2 == r2) = true := beq_self_eq_true _
          obtain ⟨Z, hZ⟩ : ∃ Z, Z = X ++ [mo] := ⟨_, rfl⟩
          obtain ⟨P2, hP2⟩ : ∃ P, P = ofN (layN 0 (X ++ [mo])).1 := ⟨_, rfl⟩
          rw [← hr2, ← hP2, ← hZ] at hK5
          rw [← hZ] at hK6
          rw [← hP2] at hP2L
          rw [← HPE.out] at hAd
          simp only [← hP2] at hAd
          have HZ := Aside0.mk hZ
          have HK5 := Aside0.mk hK5
          have HK6 := Aside0.mk hK6
          have HP2L := Aside0.mk hP2L
          have HAd := Aside0.mk hAd
          clear hok2 hz5 hK5 hK6 hP2L hAd hr2 hZ hP2
          go_wp2_with (first
            | (go_at_call 8; refine (HAd.out _ _ _ HJ4.out (Tab.later HT (two_below HB4.out))).mono ?_; rintro e w13 ⟨rfl, v13, hj, hkp, hb, _⟩; clear y0 y1 y2 y3; have HY5 := Aside0.mk (ops_over HY4.out HJ4.out hkp); have HJ5 := Aside0.mk hj; have HB5 := Aside0.mk (HB4.out.trans hb); clear hj hkp hb HB4 HJ4 HY4)
            | (go_at_call 9; refine (journal_Journal_Bytes.own HJ5.out HP2L.out).mono ?_; rintro e w14 ⟨u, rfl, hR, hb⟩; obtain ⟨Au, cu, eu⟩ := Kd.R_slice hR; subst eu; have HU6 := Aside0.mk hR; have HB6 := Aside0.mk (box_step HB5.out hb); have n1 := Aside0.mk (Kd.R_below HY5.out hb); clear HY5 HB5 HJ5 hR hb; have HY5 := n1; clear n1)
            | (go_at_call 10; (with_reducible refine (journal_Read.calls K5 Au cu P2 Z r2 _ ?s1 ?s2 HK5.out ?s3).mono ?_); (case s1 => exact (Kd.R_reads' HU6.out).2.2); (case s2 => exact (Kd.R_reads' HU6.out).2.1); (case s3 => exact Tab.later HT (two_below HB6.out)); rintro e w15 ⟨vz, rfl, ho, hb⟩; obtain ⟨Az, cz, ez⟩ := Kd.R_slice ho; subst ez; have HZR := Aside0.mk ho; have HB7 := Aside0.mk (box_step HB6.out hb); have n1 := Aside0.mk (Kd.R_below HY5.out hb); clear HY5 HB6 HU6 ho hb; have HY5 := n1; clear n1))
          refine start_ (n := 18) (S := fun w' => Below w15.heap.size w15 w') (ds := []) #[false, false, false, false, false, false, false, false, false, false, false, false, false, false, false, false, false, false] (by kernel_rfl) rfl rfl (below_drew (Below.refl _ _)) (fun hHeld => ?_)
          refine pure_ (i := 0) (N := some 188) (v := ?_) (a' := ?_) #[true, false, false, false, false, false, false, false, false, false, false, false, false, false, false, false, false, false] rfl rfl (by kernel_rfl) (fun _ _ _ h => h) (Or.inl ⟨by rfl, ?_⟩) ?_ ?_
          rotate_left
          · intro w'
            go_simp
            with_reducible rfl
          rotate_left
          · simp only [Act.put, List.setIfInBounds_toArray, List.set_cons_zero, List.set_cons_succ, i64_w, i32_w]
            rfl
          refine pure_ (i := 1) (N := some 189) (v := ?_) (a' := ?_) #[true, true, false, false, false, false, false, false, false, false, false, false, false, false, false, false, false, false] rfl rfl (by kernel_rfl) (fun _ _ _ h => h) (Or.inl ⟨by rfl, ?_⟩) ?_ ?_
          rotate_left
          · intro w'
            go_simp
            with_reducible rfl
          rotate_left
          · simp only [Act.put, List.setIfInBounds_toArray, List.set_cons_zero, List.set_cons_succ, i64_w, i32_w]
            rfl
          refine pure_ (i := 2) (N := some 190) (v := ?_) (a' := ?_) #[true, true, true, false, false, false, false, false, false, false, false, false, false, false, false, false, false, false] rfl rfl (by kernel_rfl) (fun _ _ _ h => h) (Or.inl ⟨by rfl, ?_⟩) ?_ ?_
          rotate_left
          · intro w'
            go_simp
            with_reducible rfl
          rotate_left
          · simp only [Act.put, List.setIfInBounds_toArray, List.set_cons_zero, List.set_cons_succ, i64_w, i32_w]
            rfl
          refine pure_ (i := 3) (N := some 191) (v := ?_) (a' := ?_) #[true, true, true, true, false, false, false, false, false, false, false, false, false, false, false, false, false, false] rfl rfl (by kernel_rfl) (fun _ _ _ h => h) (Or.inl ⟨by rfl, ?_⟩) ?_ ?_
          rotate_left
          · intro w'
            go_simp
            with_reducible rfl
          rotate_left
          · simp only [Act.put, List.setIfInBounds_toArray, List.set_cons_zero, List.set_cons_succ, i64_w, i32_w]
            rfl
          refine pure_ (i := 4) (N := some 192) (v := ?_) (a' := ?_) #[true, true, true, true, true, false, false, false, false, false, false, false, false, false, false, false, false, false] rfl rfl (by kernel_rfl) (fun _ _ _ h => h) (Or.inl ⟨by rfl, ?_⟩) ?_ ?_
          rotate_left
          · intro w'
            go_simp
            with_reducible rfl
          rotate_left
          · simp only [Act.put, List.setIfInBounds_toArray, List.set_cons_zero, List.set_cons_succ, i64_w, i32_w]
            rfl
          refine pure_ (i := 5) (N := some 193) (v := ?_) (a' := ?_) #[true, true, true, true, true, true, false, false, false, false, false, false, false, false, false, false, false, false] rfl rfl (by kernel_rfl) (fun _ _ _ h => h) (Or.inl ⟨by rfl, ?_⟩) ?_ ?_
          rotate_left
          · intro w'
            go_simp
            with_reducible rfl
          rotate_left
          · simp only [Act.put, List.setIfInBounds_toArray, List.set_cons_zero, List.set_cons_succ, i64_w, i32_w]
            rfl
          refine pure_ (i := 7) (N := some 195) (v := ?_) (a' := ?_) #[true, true, true, true, true, true, false, true, false, false, false, false, false, false, false, false, false, false] rfl rfl (by kernel_rfl) (fun _ _ _ h => h) (Or.inl ⟨by rfl, ?_⟩) ?_ ?_
          rotate_left
          · intro w'
            go_simp
            with_reducible rfl
          rotate_left
          · simp only [Act.put, List.setIfInBounds_toArray, List.set_cons_zero, List.set_cons_succ, i64_w, i32_w]
            rfl
          refine take_ (i := 9) (N := some 197) (v := ?_) (a' := ?_) #[true, true, true, true, true, true, false, true, false, true, false, false, false, false, false, false, false, false] rfl rfl (by kernel_rfl) (fun _ _ _ h => h) (Or.inl ⟨by rfl, ?_⟩) hHeld ?_ ?_
          rotate_left
          · intro w' hw'
            obtain ⟨y0, y1, y2, y3⟩ := box4 (box_step HB7.out hw')
            go_simp
            with_reducible rfl
          rotate_left
          · simp only [Act.put, List.setIfInBounds_toArray, List.set_cons_zero, List.set_cons_succ, i64_w, i32_w]
            rfl
          refine two_ (i := 6) (j := 10) (Ni := some 194) (Nj := some 198) #[true, true, true, true, true, true, true, true, false, true, false, false, false, false, false, false, false, false] #[true, true, true, true, true, true, false, true, false, true, true, false, false, false, false, false, false, false] rfl rfl rfl rfl (by kernel_rfl) (by decide) (by decide) (fun K hK => ?_) (fun K hK => ?_)
          · skip
            refine Kd.R_lit_step (w0 := w15) k29 w15.heap.size 29 (by rfl) (N := 194) rfl (xs := ([] : List S29)) (inner := []) (ok := fun _ => True) (okp := fun _ => True) ?hr ?hp (fun _ hk => hk) trivial hHeld hHeld.size (by simp) ?_
            (case hr => first|(go_simp;done)|(go_simp;rfl))
            (case hp => exact Reps.none _ _)
            intro v6 w6 ho6 hbl6 hgl6 hnl6
            have HR6 := Aside0.mk ho6
            clear ho6 hgl6 hnl6
            refine hK.out _ _ (hbl6) (fun hHeld => ?_)
            clear hK K
            refine norm_ (a' := ?_) ?_ ?_
            rotate_left
            · show Act.put _ (some 194) _ = _
              simp only [Act.put, List.setIfInBounds_toArray, List.set_cons_zero, List.set_cons_succ, i64_w, i32_w]
              rfl
            refine two_ (i := 8) (j := 10) (Ni := some 196) (Nj := some 198) #[true, true, true, true, true, true, true, true, true, true, false, false, false, false, false, false, false, false] #[true, true, true, true, true, true, true, true, false, true, true, false, false, false, false, false, false, false] rfl rfl rfl rfl (by kernel_rfl) (by decide) (by decide) (fun K hK => ?_) (fun K hK => ?_)
            · skip
              refine Kd.R_append_rows_step k29 (w0 := w15) w15.heap.size (by rfl) (.tmp 194) (.tmp 195) 22 29 (.agg #[(.int .i64 0), (.int .i64 0), (.int .i64 0), (.int .i64 0)]) 32 (by rfl) Tryd.underlying22 info29 rfl (by decide) (by omega) v6 [] X _ _ _ (fun _ => True) (fun _ => False) (by rfl) (by rfl) ?aO ?aR (fun _ _ h => h) (fun _ h => h.elim) ?aF ?aB ?aS ?aL ?_
              (case aR => exact (Kd.R_reads' (Kd.R_below HY5.out hHeld)).2.2)
              (case aB => exact hHeld)
              (case aF => exact (fun _ _ => trivial))
              (case aO => exact HR6.out)
              (case aS => exact hHeld.size)
              (case aL => have := HXL.out; simp only [List.length_nil, List.length_cons]; omega)
              intro v8 w8 ho8 hbl8 hgl8 hat8
              have HR8 : Aside0 (Kd.R k29 29 w8 w15.heap.size (fun _ => True)  v8 X) := ⟨ho8⟩
              clear ho8 hgl8 hat8 HR6
              obtain ⟨A8, c8, rfl⟩ := Kd.R_slice HR8.out
              refine hK.out _ _ (hbl8) (fun hHeld => ?_)
              clear hK K
              refine norm_ (a' := ?_) ?_ ?_
              rotate_left
              · show Act.put _ (some 196) _ = _
                simp only [Act.put, List.setIfInBounds_toArray, List.set_cons_zero, List.set_cons_succ, i64_w, i32_w]
                rfl
              refine one_ (i := 10) (N := some 198) #[true, true, true, true, true, true, true, true, true, true, true, false, false, false, false, false, false, false] rfl rfl (by kernel_rfl) (by decide) (fun K hK => ?_)
              refine Kd.R_lit_step (w0 := w15) k29 w15.heap.size 29 (by rfl) (N := 198) rfl (xs := [mo]) (inner := [.int .i64 mo.f0, .int .i64 mo.f1, .int .i64 mo.f2, .int .i64 mo.f3]) (ok := fun _ => True) (okp := fun _ => True) ?hr ?hp (fun _ hk => hk) trivial hHeld hHeld.size (by simp) ?_
              (case hr => first|(go_simp;done)|(go_simp;rfl))
              (case hp => exact Reps.snoc (Reps.none _ _) (k29_mkM _ _ _ _) rfl)
              intro v10 w10 ho10 hbl10 hgl10 hnl10
              have n1 := Aside0.mk (Kd.R_grown HR8.out hgl10 (fun _ _ h => by cases h))
              clear HR8
              have HR8 := n1
              clear n1
              have HR10 := Aside0.mk ho10
              clear ho10 hgl10 hnl10
              obtain ⟨A10, c10, rfl⟩ := Kd.R_slice HR10.out
              refine hK.out _ _ (hbl10) (fun hHeld => ?_)
              clear hK K
              refine norm_ (a' := ?_) ?_ ?_
              rotate_left
              · show Act.put _ (some 198) _ = _
                simp only [Act.put, List.setIfInBounds_toArray, List.set_cons_zero, List.set_cons_succ, i64_w, i32_w]
                rfl
              refine one_ (i := 11) (N := some 199) #[true, true, true, true, true, true, true, true, true, true, true, true, false, false, false, false, false, false] rfl rfl (by kernel_rfl) (by decide) (fun K hK => ?_)
              refine Kd.R_append_rows_step k29 (w0 := w15) w15.heap.size (by rfl) (.tmp 196) (.tmp 198) 22 29 (.agg #[(.int .i64 0), (.int .i64 0), (.int .i64 0), (.int .i64 0)]) 32 (by rfl) Tryd.underlying22 info29 rfl (by decide) (by omega) (.slice A8 X.length c8) X [mo] _ _ _ (fun _ => True) (fun _ => False) (by rfl) (by rfl) ?aO ?aR (fun _ _ h => h) (fun _ h => h.elim) ?aF ?aB ?aS ?aL ?_
              (case aR => exact (Kd.R_reads' HR10.out).2.2)
              (case aB => exact hHeld)
              (case aF => exact (fun _ _ => trivial))
              (case aO => exact HR8.out)
              (case aS => exact hHeld.size)
              (case aL => have := HXL.out; simp only [List.length_nil, List.length_cons]; omega)
              intro v11 w11 ho11 hbl11 hgl11 hat11
              have HR11 : Aside0 (Kd.R k29 29 w11 w15.heap.size (fun _ => True)  v11 Z) := ⟨by rw [HZ.out]; exact ho11⟩
              clear ho11 hgl11 hat11 HR8
              obtain ⟨A11, c11, rfl⟩ := Kd.R_slice HR11.out
              refine hK.out _ _ (hbl11) (fun hHeld => ?_)
              clear hK K
              refine norm_ (a' := ?_) ?_ ?_
              rotate_left
              · show Act.put _ (some 199) _ = _
                simp only [Act.put, List.setIfInBounds_toArray, List.set_cons_zero, List.set_cons_succ, i64_w, i32_w]
                rfl
              refine one_ (i := 12) (N := some 200) #[true, true, true, true, true, true, true, true, true, true, true, true, true, false, false, false, false, false] rfl rfl (by kernel_rfl) (by decide) (fun K hK => ?_)
              refine goes_ Tryd.func11 (by kernel_rfl) rfl #[.slice Az Z.length cz, .slice A11 Z.length c11] (by rfl) rfl rfl (by first | (simp only [List.map_toArray, List.map_cons, List.map_nil]; done) | (simp only [List.map_toArray, List.map_cons, List.map_nil]; rfl)) ?_
              refine (tombolaref46_Ops.calls K6 Az cz Z A11 c11 Z true _ (Kd.R_reads' (Kd.R_below HZR.out hHeld)).2.2 (Kd.R_reads' HZR.out).2.1 (Kd.R_reads' HR11.out).2.2 (Kd.R_reads' HR11.out).2.1 HK6.out).mono ?_
              rintro e w17 ⟨rfl, hd17⟩
              obtain ⟨nd17, rfl⟩ := hd17
              refine ⟨_, rfl, ?_⟩
              refine hK.out _ _ (hHeld.trans ((pw_below_drewN (Below.refl _ _) nd17).mono hHeld.size)) (fun hHeld => ?_)
              clear hK K
              refine norm_ (a' := ?_) ?_ ?_
              rotate_left
              · show Act.put _ (some 200) _ = _
                simp only [Act.put, List.setIfInBounds_toArray, List.set_cons_zero, List.set_cons_succ, i64_w, i32_w]
                rfl
              refine pure_ (i := 13) (N := some 201) (v := ?_) (a' := ?_) #[true, true, true, true, true, true, true, true, true, true, true, true, true, true, false, false, false, false] rfl rfl (by kernel_rfl) (fun _ _ _ h => h) (Or.inl ⟨by rfl, ?_⟩) ?_ ?_
              rotate_left
              · intro w'
                go_simp
                with_reducible rfl
              rotate_left
              · simp only [Act.put, List.setIfInBounds_toArray, List.set_cons_zero, List.set_cons_succ, i64_w, i32_w]
                rfl
              refine pure_ (i := 14) (N := some 202) (v := ?_) (a' := ?_) #[true, true, true, true, true, true, true, true, true, true, true, true, true, true, true, false, false, false] rfl rfl (by kernel_rfl) (fun _ _ _ h => h) (Or.inl ⟨by rfl, ?_⟩) ?_ ?_
              rotate_left
              · intro w'
                go_simp
                with_reducible rfl
              rotate_left
              · simp only [Act.put, List.setIfInBounds_toArray, List.set_cons_zero, List.set_cons_succ, i64_w, i32_w]
                rfl
              refine one_ (i := 15) (N := some 203) #[true, true, true, true, true, true, true, true, true, true, true, true, true, true, true, true, false, false] rfl rfl (by kernel_rfl) (by decide) (fun K hK => ?_)
              refine goes_ Tryd.func6 (by kernel_rfl) rfl #[] (by rfl) rfl rfl (by first | (simp only [List.map_toArray, List.map_cons, List.map_nil]; done) | (simp only [List.map_toArray, List.map_cons, List.map_nil]; rfl)) ?_
              refine (tombolalaw46_alive.own _ (Tab.later HT (two_below (box_step HB7.out hHeld)))).mono ?_
              rintro e w19 ⟨rfl, hb19⟩
              refine ⟨_, rfl, ?_⟩
              refine hK.out _ _ (hHeld.trans ((hb19).mono hHeld.size)) (fun hHeld => ?_)
              clear hK K
              refine norm_ (a' := ?_) ?_ ?_
              rotate_left
              · show Act.put _ (some 203) _ = _
                simp only [Act.put, List.setIfInBounds_toArray, List.set_cons_zero, List.set_cons_succ, i64_w, i32_w]
                rfl
              refine pure_ (i := 16) (N := some 204) (v := ?_) (a' := ?_) #[true, true, true, true, true, true, true, true, true, true, true, true, true, true, true, true, true, false] rfl rfl (by kernel_rfl) (fun _ _ _ h => h) (Or.inl ⟨by rfl, ?_⟩) ?_ ?_
              rotate_left
              · intro w'
                go_simp
                with_reducible rfl
              rotate_left
              · simp only [Act.put, List.setIfInBounds_toArray, List.set_cons_zero, List.set_cons_succ, i64_w, i32_w]
                rfl
              refine pure_ (i := 17) (N := some 6) (v := ?_) (a' := ?_) #[true, true, true, true, true, true, true, true, true, true, true, true, true, true, true, true, true, true] rfl rfl (by kernel_rfl) (fun _ _ _ h => h) (Or.inl ⟨by rfl, ?_⟩) ?_ ?_
              rotate_left
              · intro w'
                go_simp
                with_reducible rfl
              rotate_left
              · simp only [Act.put, List.setIfInBounds_toArray, List.set_cons_zero, List.set_cons_succ, i64_w, i32_w]
                rfl
              refine done_ (by kernel_rfl) ?_
              go_wp2
              go_ret
              exact ⟨rfl, two_below (box_step HB7.out hHeld)⟩
            · skip
              refine Kd.R_lit_step (w0 := w15) k29 w15.heap.size 29 (by rfl) (N := 198) rfl (xs := [mo]) (inner := [.int .i64 mo.f0, .int .i64 mo.f1, .int .i64 mo.f2, .int .i64 mo.f3]) (ok := fun _ => True) (okp := fun _ => True) ?hr ?hp (fun _ hk => hk) trivial hHeld hHeld.size (by simp) ?_
              (case hr => first|(go_simp;done)|(go_simp;rfl))
              (case hp => exact Reps.snoc (Reps.none _ _) (k29_mkM _ _ _ _) rfl)
              intro v10 w10 ho10 hbl10 hgl10 hnl10
              have HNE : ∀ k, v6.ownBlock = some k → v10.ownBlock ≠ some k := fun k hk hk' => by obtain ⟨b, hb, hle⟩ := hnl10; have := Kd.R_lt HR6.out k hk; rw [hb] at hk'; injection hk' with h9; omega
              have n1 := Aside0.mk (Kd.R_grown HR6.out hgl10 (fun _ _ h => by cases h))
              clear HR6
              have HR6 := n1
              clear n1
              have HR10 := Aside0.mk ho10
              clear ho10 hgl10 hnl10
              obtain ⟨A10, c10, rfl⟩ := Kd.R_slice HR10.out
              refine hK.out _ _ (hbl10) (fun hHeld => ?_)
              clear hK K
              refine norm_ (a' := ?_) ?_ ?_
              rotate_left
              · show Act.put _ (some 198) _ = _
                simp only [Act.put, List.setIfInBounds_toArray, List.set_cons_zero, List.set_cons_succ, i64_w, i32_w]
                rfl
              refine one_ (i := 8) (N := some 196) #[true, true, true, true, true, true, true, true, true, true, true, false, false, false, false, false, false, false] rfl rfl (by kernel_rfl) (by decide) (fun K hK => ?_)
              refine Kd.R_append_rows_step k29 (w0 := w15) w15.heap.size (by rfl) (.tmp 194) (.tmp 195) 22 29 (.agg #[(.int .i64 0), (.int .i64 0), (.int .i64 0), (.int .i64 0)]) 32 (by rfl) Tryd.underlying22 info29 rfl (by decide) (by omega) v6 [] X _ _ _ (fun _ => True) (fun _ => False) (by rfl) (by rfl) ?aO ?aR (fun _ _ h => h) (fun _ h => h.elim) ?aF ?aB ?aS ?aL ?_
              (case aR => exact (Kd.R_reads' (Kd.R_below HY5.out hHeld)).2.2)
              (case aB => exact hHeld)
              (case aF => exact (fun _ _ => trivial))
              (case aO => exact HR6.out)
              (case aS => exact hHeld.size)
              (case aL => have := HXL.out; simp only [List.length_nil, List.length_cons]; omega)
              intro v8 w8 ho8 hbl8 hgl8 hat8
              have n1 := Aside0.mk (Kd.R_grown2 HR10.out (by rfl) hgl8 (fun k hk e => HNE k hk e.symm))
              clear HR10
              have HR10 := n1
              clear n1
              have HR8 : Aside0 (Kd.R k29 29 w8 w15.heap.size (fun _ => True)  v8 X) := ⟨ho8⟩
              clear ho8 hgl8 hat8 HR6
              obtain ⟨A8, c8, rfl⟩ := Kd.R_slice HR8.out
              refine hK.out _ _ (hbl8) (fun hHeld => ?_)
              clear hK K
              refine norm_ (a' := ?_) ?_ ?_
              rotate_left
              · show Act.put _ (some 196) _ = _
                simp only [Act.put, List.setIfInBounds_toArray, List.set_cons_zero, List.set_cons_succ, i64_w, i32_w]
                rfl
              refine one_ (i := 11) (N := some 199) #[true, true, true, true, true, true, true, true, true, true, true, true, false, false, false, false, false, false] rfl rfl (by kernel_rfl) (by decide) (fun K hK => ?_)
              refine Kd.R_append_rows_step k29 (w0 := w15) w15.heap.size (by rfl) (.tmp 196) (.tmp 198) 22 29 (.agg #[(.int .i64 0), (.int .i64 0), (.int .i64 0), (.int .i64 0)]) 32 (by rfl) Tryd.underlying22 info29 rfl (by decide) (by omega) (.slice A8 X.length c8) X [mo] _ _ _ (fun _ => True) (fun _ => False) (by rfl) (by rfl) ?aO ?aR (fun _ _ h => h) (fun _ h => h.elim) ?aF ?aB ?aS ?aL ?_
              (case aR => exact (Kd.R_reads' HR10.out).2.2)
              (case aB => exact hHeld)
              (case aF => exact (fun _ _ => trivial))
              (case aO => exact HR8.out)
              (case aS => exact hHeld.size)
              (case aL => have := HXL.out; simp only [List.length_nil, List.length_cons]; omega)
              intro v11 w11 ho11 hbl11 hgl11 hat11
              have HR11 : Aside0 (Kd.R k29 29 w11 w15.heap.size (fun _ => True)  v11 Z) := ⟨by rw [HZ.out]; exact ho11⟩
              clear ho11 hgl11 hat11 HR8
              obtain ⟨A11, c11, rfl⟩ := Kd.R_slice HR11.out
              refine hK.out _ _ (hbl11) (fun hHeld => ?_)
              clear hK K
              refine norm_ (a' := ?_) ?_ ?_
              rotate_left
              · show Act.put _ (some 199) _ = _
                simp only [Act.put, List.setIfInBounds_toArray, List.set_cons_zero, List.set_cons_succ, i64_w, i32_w]
                rfl
              refine one_ (i := 12) (N := some 200) #[true, true, true, true, true, true, true, true, true, true, true, true, true, false, false, false, false, false] rfl rfl (by kernel_rfl) (by decide) (fun K hK => ?_)
              refine goes_ Tryd.func11 (by kernel_rfl) rfl #[.slice Az Z.length cz, .slice A11 Z.length c11] (by rfl) rfl rfl (by first | (simp only [List.map_toArray, List.map_cons, List.map_nil]; done) | (simp only [List.map_toArray, List.map_cons, List.map_nil]; rfl)) ?_
              refine (tombolaref46_Ops.calls K6 Az cz Z A11 c11 Z true _ (Kd.R_reads' (Kd.R_below HZR.out hHeld)).2.2 (Kd.R_reads' HZR.out).2.1 (Kd.R_reads' HR11.out).2.2 (Kd.R_reads' HR11.out).2.1 HK6.out).mono ?_
              rintro e w17 ⟨rfl, hd17⟩
              obtain ⟨nd17, rfl⟩ := hd17
              refine ⟨_, rfl, ?_⟩
              refine hK.out _ _ (hHeld.trans ((pw_below_drewN (Below.refl _ _) nd17).mono hHeld.size)) (fun hHeld => ?_)
              clear hK K
              refine norm_ (a' := ?_) ?_ ?_
              rotate_left
              · show Act.put _ (some 200) _ = _
                simp only [Act.put, List.setIfInBounds_toArray, List.set_cons_zero, List.set_cons_succ, i64_w, i32_w]
                rfl
              refine pure_ (i := 13) (N := some 201) (v := ?_) (a' := ?_) #[true, true, true, true, true, true, true, true, true, true, true, true, true, true, false, false, false, false] rfl rfl (by kernel_rfl) (fun _ _ _ h => h) (Or.inl ⟨by rfl, ?_⟩) ?_ ?_
              rotate_left
              · intro w'
                go_simp
                with_reducible rfl
              rotate_left
              · simp only [Act.put, List.setIfInBounds_toArray, List.set_cons_zero, List.set_cons_succ, i64_w, i32_w]
                rfl
              refine pure_ (i := 14) (N := some 202) (v := ?_) (a' := ?_) #[true, true, true, true, true, true, true, true, true, true, true, true, true, true, true, false, false, false] rfl rfl (by kernel_rfl) (fun _ _ _ h => h) (Or.inl ⟨by rfl, ?_⟩) ?_ ?_
              rotate_left
              · intro w'
                go_simp
                with_reducible rfl
              rotate_left
              · simp only [Act.put, List.setIfInBounds_toArray, List.set_cons_zero, List.set_cons_succ, i64_w, i32_w]
                rfl
              refine one_ (i := 15) (N := some 203) #[true, true, true, true, true, true, true, true, true, true, true, true, true, true, true, true, false, false] rfl rfl (by kernel_rfl) (by decide) (fun K hK => ?_)
              refine goes_ Tryd.func6 (by kernel_rfl) rfl #[] (by rfl) rfl rfl (by first | (simp only [List.map_toArray, List.map_cons, List.map_nil]; done) | (simp only [List.map_toArray, List.map_cons, List.map_nil]; rfl)) ?_
              refine (tombolalaw46_alive.own _ (Tab.later HT (two_below (box_step HB7.out hHeld)))).mono ?_
              rintro e w19 ⟨rfl, hb19⟩
              refine ⟨_, rfl, ?_⟩
              refine hK.out _ _ (hHeld.trans ((hb19).mono hHeld.size)) (fun hHeld => ?_)
              clear hK K
              refine norm_ (a' := ?_) ?_ ?_
              rotate_left
              · show Act.put _ (some 203) _ = _
                simp only [Act.put, List.setIfInBounds_toArray, List.set_cons_zero, List.set_cons_succ, i64_w, i32_w]
                rfl
              refine pure_ (i := 16) (N := some 204) (v := ?_) (a' := ?_) #[true, true, true, true, true, true, true, true, true, true, true, true, true, true, true, true, true, false] rfl rfl (by kernel_rfl) (fun _ _ _ h => h) (Or.inl ⟨by rfl, ?_⟩) ?_ ?_
              rotate_left
              · intro w'
                go_simp
                with_reducible rfl
              rotate_left
              · simp only [Act.put, List.setIfInBounds_toArray, List.set_cons_zero, List.set_cons_succ, i64_w, i32_w]
                rfl
              refine pure_ (i := 17) (N := some 6) (v := ?_) (a' := ?_) #[true, true, true, true, true, true, true, true, true, true, true, true, true, true, true, true, true, true] rfl rfl (by kernel_rfl) (fun _ _ _ h => h) (Or.inl ⟨by rfl, ?_⟩) ?_ ?_
              rotate_left
              · intro w'
                go_simp
                with_reducible rfl
              rotate_left
              · simp only [Act.put, List.setIfInBounds_toArray, List.set_cons_zero, List.set_cons_succ, i64_w, i32_w]
                rfl
              refine done_ (by kernel_rfl) ?_
              go_wp2
              go_ret
              exact ⟨rfl, two_below (box_step HB7.out hHeld)⟩
          · skip
            refine Kd.R_lit_step (w0 := w15) k29 w15.heap.size 29 (by rfl) (N := 198) rfl (xs := [mo]) (inner := [.int .i64 mo.f0, .int .i64 mo.f1, .int .i64 mo.f2, .int .i64 mo.f3]) (ok := fun _ => True) (okp := fun _ => True) ?hr ?hp (fun _ hk => hk) trivial hHeld hHeld.size (by simp) ?_
            (case hr => first|(go_simp;done)|(go_simp;rfl))
            (case hp => exact Reps.snoc (Reps.none _ _) (k29_mkM _ _ _ _) rfl)
            intro v10 w10 ho10 hbl10 hgl10 hnl10
            have HR10 := Aside0.mk ho10
            clear ho10 hgl10 hnl10
            obtain ⟨A10, c10, rfl⟩ := Kd.R_slice HR10.out
            refine hK.out _ _ (hbl10) (fun hHeld => ?_)
            clear hK K
            refine norm_ (a' := ?_) ?_ ?_
            rotate_left
            · show Act.put _ (some 198) _ = _
              simp only [Act.put, List.setIfInBounds_toArray, List.set_cons_zero, List.set_cons_succ, i64_w, i32_w]
              rfl
            refine one_ (i := 6) (N := some 194) #[true, true, true, true, true, true, true, true, false, true, true, false, false, false, false, false, false, false] rfl rfl (by kernel_rfl) (by decide) (fun K hK => ?_)
            refine Kd.R_lit_step (w0 := w15) k29 w15.heap.size 29 (by rfl) (N := 194) rfl (xs := ([] : List S29)) (inner := []) (ok := fun _ => True) (okp := fun _ => True) ?hr ?hp (fun _ hk => hk) trivial hHeld hHeld.size (by simp) ?_
            (case hr => first|(go_simp;done)|(go_simp;rfl))
            (case hp => exact Reps.none _ _)
            intro v6 w6 ho6 hbl6 hgl6 hnl6
            have HNE : ∀ k, v6.ownBlock = some k → (Value.slice A10 [mo].length c10).ownBlock ≠ some k := fun k hk hk' => by obtain ⟨b, hb, hle⟩ := hnl6; have := Kd.R_lt HR10.out k hk'; rw [hb] at hk; injection hk with h9; omega
            have n1 := Aside0.mk (Kd.R_grown HR10.out hgl6 (fun _ _ h => by cases h))
            clear HR10
            have HR10 := n1
            clear n1
            have HR6 := Aside0.mk ho6
            clear ho6 hgl6 hnl6
            refine hK.out _ _ (hbl6) (fun hHeld => ?_)
            clear hK K
            refine norm_ (a' := ?_) ?_ ?_
            rotate_left
            · show Act.put _ (some 194) _ = _
              simp only [Act.put, List.setIfInBounds_toArray, List.set_cons_zero, List.set_cons_succ, i64_w, i32_w]
              rfl
            refine one_ (i := 8) (N := some 196) #[true, true, true, true, true, true, true, true, true, true, true, false, false, false, false, false, false, false] rfl rfl (by kernel_rfl) (by decide) (fun K hK => ?_)
            refine Kd.R_append_rows_step k29 (w0 := w15) w15.heap.size (by rfl) (.tmp 194) (.tmp 195) 22 29 (.agg #[(.int .i64 0), (.int .i64 0), (.int .i64 0), (.int .i64 0)]) 32 (by rfl) Tryd.underlying22 info29 rfl (by decide) (by omega) v6 [] X _ _ _ (fun _ => True) (fun _ => False) (by rfl) (by rfl) ?aO ?aR (fun _ _ h => h) (fun _ h => h.elim) ?aF ?aB ?aS ?aL ?_
            (case aR => exact (Kd.R_reads' (Kd.R_below HY5.out hHeld)).2.2)
            (case aB => exact hHeld)
            (case aF => exact (fun _ _ => trivial))
            (case aO => exact HR6.out)
            (case aS => exact hHeld.size)
            (case aL => have := HXL.out; simp only [List.length_nil, List.length_cons]; omega)
            intro v8 w8 ho8 hbl8 hgl8 hat8
            have n1 := Aside0.mk (Kd.R_grown2 HR10.out (by rfl) hgl8 (fun k hk e => HNE k hk e.symm))
            clear HR10
            have HR10 := n1
            clear n1
            have HR8 : Aside0 (Kd.R k29 29 w8 w15.heap.size (fun _ => True)  v8 X) := ⟨ho8⟩
            clear ho8 hgl8 hat8 HR6
            obtain ⟨A8, c8, rfl⟩ := Kd.R_slice HR8.out
            refine hK.out _ _ (hbl8) (fun hHeld => ?_)
            clear hK K
            refine norm_ (a' := ?_) ?_ ?_
            rotate_left
            · show Act.put _ (some 196) _ = _
              simp only [Act.put, List.setIfInBounds_toArray, List.set_cons_zero, List.set_cons_succ, i64_w, i32_w]
              rfl
            refine one_ (i := 11) (N := some 199) #[true, true, true, true, true, true, true, true, true, true, true, true, false, false, false, false, false, false] rfl rfl (by kernel_rfl) (by decide) (fun K hK => ?_)
            refine Kd.R_append_rows_step k29 (w0 := w15) w15.heap.size (by rfl) (.tmp 196) (.tmp 198) 22 29 (.agg #[(.int .i64 0), (.int .i64 0), (.int .i64 0), (.int .i64 0)]) 32 (by rfl) Tryd.underlying22 info29 rfl (by decide) (by omega) (.slice A8 X.length c8) X [mo] _ _ _ (fun _ => True) (fun _ => False) (by rfl) (by rfl) ?aO ?aR (fun _ _ h => h) (fun _ h => h.elim) ?aF ?aB ?aS ?aL ?_
            (case aR => exact (Kd.R_reads' HR10.out).2.2)
            (case aB => exact hHeld)
            (case aF => exact (fun _ _ => trivial))
            (case aO => exact HR8.out)
            (case aS => exact hHeld.size)
            (case aL => have := HXL.out; simp only [List.length_nil, List.length_cons]; omega)
            intro v11 w11 ho11 hbl11 hgl11 hat11
            have HR11 : Aside0 (Kd.R k29 29 w11 w15.heap.size (fun _ => True)  v11 Z) := ⟨by rw [HZ.out]; exact ho11⟩
            clear ho11 hgl11 hat11 HR8
            obtain ⟨A11, c11, rfl⟩ := Kd.R_slice HR11.out
            refine hK.out _ _ (hbl11) (fun hHeld => ?_)
            clear hK K
            refine norm_ (a' := ?_) ?_ ?_
            rotate_left
            · show Act.put _ (some 199) _ = _
              simp only [Act.put, List.setIfInBounds_toArray, List.set_cons_zero, List.set_cons_succ, i64_w, i32_w]
              rfl
            refine one_ (i := 12) (N := some 200) #[true, true, true, true, true, true, true, true, true, true, true, true, true, false, false, false, false, false] rfl rfl (by kernel_rfl) (by decide) (fun K hK => ?_)
            refine goes_ Tryd.func11 (by kernel_rfl) rfl #[.slice Az Z.length cz, .slice A11 Z.length c11] (by rfl) rfl rfl (by first | (simp only [List.map_toArray, List.map_cons, List.map_nil]; done) | (simp only [List.map_toArray, List.map_cons, List.map_nil]; rfl)) ?_
            refine (tombolaref46_Ops.calls K6 Az cz Z A11 c11 Z true _ (Kd.R_reads' (Kd.R_below HZR.out hHeld)).2.2 (Kd.R_reads' HZR.out).2.1 (Kd.R_reads' HR11.out).2.2 (Kd.R_reads' HR11.out).2.1 HK6.out).mono ?_
            rintro e w17 ⟨rfl, hd17⟩
            obtain ⟨nd17, rfl⟩ := hd17
            refine ⟨_, rfl, ?_⟩
            refine hK.out _ _ (hHeld.trans ((pw_below_drewN (Below.refl _ _) nd17).mono hHeld.size)) (fun hHeld => ?_)
            clear hK K
            refine norm_ (a' := ?_) ?_ ?_
            rotate_left
            · show Act.put _ (some 200) _ = _
              simp only [Act.put, List.setIfInBounds_toArray, List.set_cons_zero, List.set_cons_succ, i64_w, i32_w]
              rfl
            refine pure_ (i := 13) (N := some 201) (v := ?_) (a' := ?_) #[true, true, true, true, true, true, true, true, true, true, true, true, true, true, false, false, false, false] rfl rfl (by kernel_rfl) (fun _ _ _ h => h) (Or.inl ⟨by rfl, ?_⟩) ?_ ?_
            rotate_left
            · intro w'
              go_simp
              with_reducible rfl
            rotate_left
            · simp only [Act.put, List.setIfInBounds_toArray, List.set_cons_zero, List.set_cons_succ, i64_w, i32_w]
              rfl
            refine pure_ (i := 14) (N := some 202) (v := ?_) (a' := ?_) #[true, true, true, true, true, true, true, true, true, true, true, true, true, true, true, false, false, false] rfl rfl (by kernel_rfl) (fun _ _ _ h => h) (Or.inl ⟨by rfl, ?_⟩) ?_ ?_
            rotate_left
            · intro w'
              go_simp
              with_reducible rfl
            rotate_left
            · simp only [Act.put, List.setIfInBounds_toArray, List.set_cons_zero, List.set_cons_succ, i64_w, i32_w]
              rfl
            refine one_ (i := 15) (N := some 203) #[true, true, true, true, true, true, true, true, true, true, true, true, true, true, true, true, false, false] rfl rfl (by kernel_rfl) (by decide) (fun K hK => ?_)
            refine goes_ Tryd.func6 (by kernel_rfl) rfl #[] (by rfl) rfl rfl (by first | (simp only [List.map_toArray, List.map_cons, List.map_nil]; done) | (simp only [List.map_toArray, List.map_cons, List.map_nil]; rfl)) ?_
            refine (tombolalaw46_alive.own _ (Tab.later HT (two_below (box_step HB7.out hHeld)))).mono ?_
            rintro e w19 ⟨rfl, hb19⟩
            refine ⟨_, rfl, ?_⟩
            refine hK.out _ _ (hHeld.trans ((hb19).mono hHeld.size)) (fun hHeld => ?_)
            clear hK K
            refine norm_ (a' := ?_) ?_ ?_
            rotate_left
            · show Act.put _ (some 203) _ = _
              simp only [Act.put, List.setIfInBounds_toArray, List.set_cons_zero, List.set_cons_succ, i64_w, i32_w]
              rfl
            refine pure_ (i := 16) (N := some 204) (v := ?_) (a' := ?_) #[true, true, true, true, true, true, true, true, true, true, true, true, true, true, true, true, true, false] rfl rfl (by kernel_rfl) (fun _ _ _ h => h) (Or.inl ⟨by rfl, ?_⟩) ?_ ?_
            rotate_left
            · intro w'
              go_simp
              with_reducible rfl
            rotate_left
            · simp only [Act.put, List.setIfInBounds_toArray, List.set_cons_zero, List.set_cons_succ, i64_w, i32_w]
              rfl
            refine pure_ (i := 17) (N := some 6) (v := ?_) (a' := ?_) #[true, true, true, true, true, true, true, true, true, true, true, true, true, true, true, true, true, true] rfl rfl (by kernel_rfl) (fun _ _ _ h => h) (Or.inl ⟨by rfl, ?_⟩) ?_ ?_
            rotate_left
            · intro w'
              go_simp
              with_reducible rfl
            rotate_left
            · simp only [Act.put, List.setIfInBounds_toArray, List.set_cons_zero, List.set_cons_succ, i64_w, i32_w]
              rfl
            refine done_ (by kernel_rfl) ?_
            go_wp2
            go_ret
            exact ⟨rfl, two_below (box_step HB7.out hHeld)⟩
theorem bytes_nat : ∀ (m : List Int), (∀ x, x ∈ m → (Lit.int .u8 x).wf = true) → ∃ n : List Nat, m = ofN n ∧ N.Bytes n
  | [], _ => ⟨[], rfl, fun n h => by cases h⟩
  | x :: m, h => by
    obtain ⟨n, hn, hb⟩ := bytes_nat m (fun y hy => h y (List.mem_cons_of_mem _ hy))
    have hx : 0 ≤ x ∧ x ≤ 255 := by simpa [Lit.wf, IntKind.min, IntKind.max, IntKind.signed, IntKind.bits] using h x (List.mem_cons_self ..)
    refine ⟨x.toNat :: n, ?_, ?_⟩
    · show x :: m = ((x.toNat : Nat) : Int) :: ofN n
      rw [hn, Int.toNat_of_nonneg hx.1]
    · intro y hy
      rcases List.mem_cons.1 hy with rfl | hy
      · omega
      · exact hb y hy
set_option maxHeartbeats 4000000 in
set_option maxRecDepth 100000 in
theorem mainJournalAdds (A0 : Option Addr) (c0 : Nat) (l : List S29) (A1 : Option Addr) (cb : Nat) (m : List Int) (a0 a1 a2 a3 : Int) (w : World) (hr0 : Kd.C k29 w A0 l.length l) (hc0 : l.length ≤ c0) {P Q : Prop} (_w0 : P) (hr1 : Kd.C (Kd.int .u8) w A1 m.length m) (hc1 : m.length ≤ cb) (w1 : (∀ x, x ∈ m → (Lit.int .u8 x).wf = true) ∧ m.length ≤ 9223372036854775807) (_y1 : Q) (w2 : (Lit.int .i64 a0).wf = true ∧ (Lit.int .i64 a1).wf = true ∧ (Lit.int .i64 a2).wf = true ∧ (Lit.int .i64 a3).wf = true) (HT : Aside0 (Tab w)) :
    Calls Tryd.prog 5 #[.slice A0 l.length c0, .slice A1 m.length cb, .agg #[.int .i64 a0, .int .i64 a1, .int .i64 a2, .int .i64 a3]] w fun e w' => e = .returned (.bool true) ∧ Below w.heap.size w w' := by
  by_cases hl : (l.length : Int) > 60
  · have hu := Tryd.underlying29
    have b1 : decide (60 < (l.length : Int)) = true := decide_eq_true hl
    have b2 : decide (60 < l.length) = true := decide_eq_true (by omega)
    clear hr0 hc0 hr1 hc1 w1 w2 hl
    go_enter Tryd.func5, Tryd.ntmps5
    go_wp2_with (go_at_call 6; refine (tombolalaw46_alive.own _ (Tab.later HT (by repeat (first | exact Below.refl _ _ | apply below_alloc | apply pw_below_drewN)))).mono ?_; rintro e w3 ⟨rfl, hb⟩; have HB5 := Aside0.mk (below_step (show Below w.heap.size w _ from by repeat (first | exact Below.refl _ _ | apply below_alloc | apply pw_below_drewN)) hb); clear hb)
    go_ret
    exact ⟨rfl, HB5.out⟩
  · by_cases hm : (m.length : Int) > 3000
    · have hu := Tryd.underlying29
      have b0 : decide (60 < (l.length : Int)) = false := decide_eq_false hl
      have b1 : decide (3000 < (m.length : Int)) = true := decide_eq_true hm
      have b2 : decide (3000 < m.length) = true := decide_eq_true (by omega)
      clear hr0 hc0 hr1 hc1 w1 w2 hl hm
      go_enter Tryd.func5, Tryd.ntmps5
      go_wp2_with (go_at_call 6; refine (tombolalaw46_alive.own _ (Tab.later HT (by repeat (first | exact Below.refl _ _ | apply below_alloc | apply pw_below_drewN)))).mono ?_; rintro e w3 ⟨rfl, hb⟩; have HB5 := Aside0.mk (below_step (show Below w.heap.size w _ from by repeat (first | exact Below.refl _ _ | apply below_alloc | apply pw_below_drewN)) hb); clear hb)
      go_ret
      exact ⟨rfl, HB5.out⟩
    · obtain ⟨n, rfl, hb⟩ := bytes_nat m w1.1
      have hn : n.length ≤ 3000 := by rw [← N.ofN_length]; omega
      exact tombolalaw46_JournalAdds.own A0 c0 l A1 cb n ⟨a0, a1, a2, a3⟩ w hr0 hc0 hr1 hc1 hb (by omega) hn w2 HT
end Go.Proofs.YtocgbbhppegccaaDoor.F
