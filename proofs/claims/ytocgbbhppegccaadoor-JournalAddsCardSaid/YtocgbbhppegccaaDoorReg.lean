-- Cut for this claim by a program (wip/prune.py) out of the texts that its bench laid or wrote
import Derived.Test.YtocgbbhppegccaaDoorFeq
import Derived.Test.YtocgbbhppegccaaDoorJP6
import Derived.Test.YtocgbbhppegccaaDoorFJournalA
section
namespace Go.Proofs.YtocgbbhppegccaaDoor.F
open Go.RowKit Go.Proofs.YtocgbbhppegccaaDoorW.PrintWords Go.Proofs.YtocgbbhppegccaaDoorW.PrintLast Go.Proofs.YtocgbbhppegccaaDoorW.PrintMore
set_option linter.unusedSimpArgs false
set_option linter.unusedVariables false
open Go.Proofs.YtocgbbhppegccaaDoor.N (ofN OpOk fr nx layN knownI)
theorem ops_over {base b2 : Nat} {ok ok2 : Nat → Prop} {W W' : World} {g : Nat} {v u : Value} {l : List Int} {s : Int} {xs : List S29} (h : Kd.R k29 29 W b2 ok2 u xs) (hj : Jr base ok W g v l s) (hk : KeepBut W W' g v.ownBlock) :
    Kd.R k29 29 W' b2 ok2 u xs := by
  refine Kd.R_mono (Kd.R_step (Kd.R_bound h) (fun k ho hlt => ?_)) (fun k hk => hk.1)
  obtain ⟨_, _, _, q, hq, cells, hc⟩ := ho
  have hq2 : q = 29 := by simpa [k29, Kd.iso, Kd.pair, Kd.int, Kd.scalar, Kd.E] using hq
  subst hq2
  refine hk.2 k hlt ?_ (Kd.R_ne hj.2.2 hc (by decide))
  intro e
  rw [e, hj.1] at hc
  cases hc
def knownB (o : S29) : Bool := decide (0 < o.f0 ∧ o.f0 < 24)
def accT (l : List S29) (j : Nat) : List S29 := (l.take j).filter knownB
theorem rd_at (l : List S29) (j : Nat) (h : j < l.length) : l.take (j + 1) = l.take j ++ [rd_T29 l (j : Int)] := by
  rw [List.take_succ_eq_append_getElem h]
  unfold rd_T29
  rw [Int.toNat_natCast, List.getD_eq_getElem?_getD, List.getElem?_eq_getElem h]; rfl
theorem acc_yes (l : List S29) (j : Nat) (h : j < l.length) (hk : knownB (rd_T29 l (j : Int)) = true) : accT l (j + 1) = accT l j ++ [rd_T29 l (j : Int)] := by
  unfold accT
  rw [rd_at l j h, List.filter_append, List.filter_cons_of_pos hk]; rfl
theorem acc_no (l : List S29) (j : Nat) (h : j < l.length) (hk : knownB (rd_T29 l (j : Int)) = false) : accT l (j + 1) = accT l j := by
  unfold accT
  rw [rd_at l j h, List.filter_append, List.filter_cons_of_neg (by rw [hk]; decide), List.filter_nil, List.append_nil]
theorem acc_len (l : List S29) (j : Nat) : (accT l j).length ≤ j := Nat.le_trans (List.length_filter_le _ _) (by rw [List.length_take]; omega)
theorem add_known {base : Nat} {w : World} {g : Nat} {v : Value} (acc : List S29) (o : S29) (hj : Jr base (fun _ => True) w g v (ofN (layN 0 acc).1) ((layN 0 acc).2 : Nat)) (hk : knownB o = true) (hl : acc.length ≤ 100) (HT : Aside0 (Tab w)) :
    Calls Tryd.prog 8 #[.pointer (some ⟨g, 0, none⟩), .agg #[.int .i64 o.f0, .int .i64 o.f1, .int .i64 o.f2, .int .i64 o.f3]] w fun e w' => e = .returned (.int .i64 0) ∧ ∃ v', Jr base (fun _ => True) w' g v' (ofN (layN 0 (acc ++ [o])).1) ((layN 0 (acc ++ [o])).2 : Nat) ∧ KeepBut w w' g v.ownBlock ∧ Below base w w' := by
  obtain ⟨K, hK⟩ := (N.frame_ev (layN 0 acc).2 o.f0 o.f1 o.f2 o.f3).rounds
  have hk' : knownI o.f0 := by unfold knownI; unfold knownB at hk; exact of_decide_eq_true hk
  have ln := N.lay_length acc 0
  have lf := N.fr_length (layN 0 acc).2 o
  have hb : (ofN (fr (layN 0 acc).2 o)).length ≤ 1000000 := by rw [N.ofN_length]; omega
  have h1 : (ofN (layN 0 acc).1).length ≤ 1000000 := by rw [N.ofN_length]; omega
  have h2 : ((ofN (layN 0 acc).1).length : Int) / 33 < 4096 := by rw [N.ofN_length]; omega
  refine (journal_Journal_Add.own K o.f0 o.f1 o.f2 o.f3 _ _ hj (fun _ _ => trivial) (by rw [ne_eq, N.name_iff]; exact fun q => q hk') h1 hb h2 hK HT).mono ?_
  rintro e w' ⟨he, v', hj', hkp, hbl, _⟩
  rw [N.lay_snoc, N.ofN_app]
  exact ⟨he, v', hj', hkp, hbl⟩
theorem add_strange {w : World} {g : Nat} (o : S29) (hk : knownB o = false) (HT : Aside0 (Tab w)) :
    Calls Tryd.prog 8 #[.pointer (some ⟨g, 0, none⟩), .agg #[.int .i64 o.f0, .int .i64 o.f1, .int .i64 o.f2, .int .i64 o.f3]] w fun e w' => e = .returned (.int .i64 8) ∧ Below w.heap.size w w' :=
  journal_Journal_Add.strange (base := 0) (ok := fun _ => True) (v := .slice none 0 0) (l := []) (s := 0) _ _ _ _ (by rw [N.name_iff]; unfold knownI; unfold knownB at hk; exact of_decide_eq_false hk) HT
theorem take_run {α : Type} {P : Program} {t e : TypeId} {i : TypeInfo} (ht : P.underlying t = some (.slice e)) (hi : P.info? e = some i) (A : Option Addr) (c : Nat) (xs : List α) (kl : IntKind) (j : Nat) (hm : j ≤ xs.length) (hc : xs.length ≤ c) (W : World) :
    (Instr.slice t (.slice A xs.length c) none (some (.int kl (j : Int))) none).run P W = .ok (.slice A (xs.take j).length c) W := by
  have hl : (xs.take j).length = j := by rw [List.length_take]; omega
  have hel : P.elem t = e := by simp [Program.elem, ht]
  have hu : P.underlying t = some (.slice (P.elem t)) := by rw [hel]; exact ht
  have ha : (A.map fun x => x.add 0) = A := by cases A <;> simp [Addr.add]
  rw [run_slice_h W t A xs.length c hu kl (j : Int) (by omega) (by omega), hel, hl]
  simp [sizeOf, typeInfo, hi, sliced, Result.andThen, ha]
theorem acc_ok (l : List S29) (j : Nat) (hw : ∀ o, o ∈ l → (Lit.int .i64 o.f0).wf = true ∧ (Lit.int .i64 o.f1).wf = true ∧ (Lit.int .i64 o.f2).wf = true ∧ (Lit.int .i64 o.f3).wf = true) : ∀ o, o ∈ accT l j → OpOk o := by
  intro o ho
  unfold accT at ho
  rw [List.mem_filter] at ho
  obtain ⟨h1, h2⟩ := ho
  obtain ⟨_, q1, q2, q3⟩ := hw o (List.mem_of_mem_take h1)
  have hk : knownI o.f0 := by unfold knownI; unfold knownB at h2; exact of_decide_eq_true h2
  have r : ∀ x : Int, (Lit.int .i64 x).wf = true → -9223372036854775808 ≤ x ∧ x < 9223372036854775808 := fun x h => by
    have h2 : -9223372036854775808 ≤ x ∧ x ≤ 9223372036854775807 := by simpa [Lit.wf, IntKind.min, IntKind.max, IntKind.signed, IntKind.bits] using h
    omega
  exact ⟨hk, r _ q1, r _ q2, r _ q3⟩
end Go.Proofs.YtocgbbhppegccaaDoor.F
end
section
namespace Go.Proofs.YtocgbbhppegccaaDoor.N
open Go.RowKit Go.Proofs.YtocgbbhppegccaaDoorW.PrintWords Go.Proofs.YtocgbbhppegccaaDoor.F
set_option linter.unusedSimpArgs false
set_option linter.unusedVariables false
theorem one_back (s : Nat) (m : List Nat) (hm : Bytes m) {o : S29} {n : Nat} (h : oneN s m = some (o, n)) : 33 ≤ m.length ∧ m.take 33 = fr s o ∧ n = nx s o ∧ OpOk o := by
  have h33 := (one_long h).1
  unfold oneN at h
  rw [if_neg (by omega)] at h
  by_cases hk : (nameOf ((m.getD 0 0 : Nat) : Int)).toList = []
  · rw [if_pos hk] at h; cases h
  · rw [if_neg hk] at h
    by_cases hs : valN ((m.drop 25).take 8) = sumN sum0 (leN 8 s ++ m.take 25)
    · rw [if_pos hs] at h
      injection h with h
      injection h with h1 h2
      have hb := body_again m hm h33
      have hf := (frame_again m hm h33 s).2 hs
      subst h1
      refine ⟨h33, hf.symm, ?_, ?_⟩
      · rw [← h2]; unfold nx nextN; rw [hb]
      · refine ⟨?_, ?_, ?_, ?_⟩
        · exact Classical.byContradiction fun q => hk ((name_iff _).2 q)
        all_goals (show _ ≤ iw _ ∧ iw _ < _; unfold iw wrap64; omega)
    · rw [if_neg hs] at h; cases h
theorem read_back : ∀ (c s : Nat) (m : List Nat), Bytes m → (layN s (readN c s m).1).1 = m.take (readN c s m).2 ∧ (readN c s m).2 = 33 * (readN c s m).1.length ∧ (readN c s m).2 ≤ m.length ∧ ∀ o, o ∈ (readN c s m).1 → OpOk o
  | 0, s, m, _ => ⟨by simp [readN, layN], rfl, Nat.zero_le _, by intro o h; cases h⟩
  | c + 1, s, m, hm => by
    cases h : oneN s m with
    | none =>
      have e : readN (c + 1) s m = ([], 0) := by rw [readN, h]
      rw [e]
      exact ⟨by simp [layN], rfl, Nat.zero_le _, by intro o h; cases h⟩
    | some p =>
      obtain ⟨o, n⟩ := p
      have e : readN (c + 1) s m = (o :: (readN c n (m.drop 33)).1, 33 + (readN c n (m.drop 33)).2) := by rw [readN, h]
      obtain ⟨h33, hf, hn, ho⟩ := one_back s m hm h
      obtain ⟨i1, i2, i3, i4⟩ := read_back c n (m.drop 33) (hm.drop 33)
      rw [e]
      rw [List.length_drop] at i3
      refine ⟨?_, ?_, ?_, ?_⟩
      · rw [layN_cons, ← hn]
        show fr s o ++ (layN n (readN c n (m.drop 33)).1).1 = _
        rw [i1, ← hf, List.take_add]
      · show 33 + _ = 33 * (o :: _).length
        rw [List.length_cons, i2]; omega
      · show 33 + _ ≤ _
        omega
      · intro x hx
        rcases List.mem_cons.1 hx with rfl | hx
        · exact ho
        · exact i4 x hx
theorem rframe_all (s : Nat) (hs : s < 18446744073709551616) (a0 a1 a2 a3 : Int) : Ev (fun k => tombolaref46_Frame.f k (s : Int) a0 a1 a2 a3) (ofN (frameN s a0 a1 a2 a3), ((nextN s a0 a1 a2 a3 : Nat) : Int)) := by
  have h := rframe_ev s hs (a0 % 256) a1 a2 a3 ⟨by omega, by omega⟩
  have eb : bodyN (a0 % 256) a1 a2 a3 = bodyN a0 a1 a2 a3 := by unfold bodyN; rw [Int.emod_emod_of_dvd _ (Int.dvd_refl _)]
  have en : nextN s (a0 % 256) a1 a2 a3 = nextN s a0 a1 a2 a3 := by unfold nextN; rw [eb]
  have ef : frameN s (a0 % 256) a1 a2 a3 = frameN s a0 a1 a2 a3 := by unfold frameN; rw [eb, en]
  rw [en, ef] at h
  refine Ev.congr (fun k => ?_) h
  have e0 : (Int.tmod a0 256) % 256 = (Int.tmod (a0 % 256) 256) % 256 := by
    rw [Int.tmod_eq_emod_of_nonneg (show 0 ≤ a0 % 256 by omega), Int.tmod_def]
    omega
  unfold tombolaref46_Frame.f
  rw [e0]
end Go.Proofs.YtocgbbhppegccaaDoor.N
end
section
namespace Go.Proofs.YtocgbbhppegccaaDoor.F
open Go.RowKit Go.Proofs.YtocgbbhppegccaaDoorW.PrintWords Go.Proofs.YtocgbbhppegccaaDoorW.PrintLast Go.Proofs.YtocgbbhppegccaaDoorW.PrintMore
set_option linter.unusedSimpArgs false
set_option linter.unusedVariables false
open Go.Proofs.YtocgbbhppegccaaDoor.N (ofN OpOk fr nx layN knownI readN)
set_option maxHeartbeats 8000000 in
set_option maxRecDepth 100000 in
theorem journal_Open.own (A0 : Option Addr) (c0 : Nat) (m : List Nat) (w : World) (hm : N.Bytes m) (hl : m.length ≤ 3000) (hr0 : Kd.C (Kd.int .u8) w A0 (ofN m).length (ofN m)) (hc0 : (ofN m).length ≤ c0) (HT : Aside0 (Tab w)) :
    Calls Tryd.prog 17 #[.slice A0 (ofN m).length c0] w fun e w' => ∃ g v, e = .returned (.pointer (some ⟨g, 0, none⟩)) ∧ Jr w.heap.size (fun _ => True) w' g v (ofN (layN 0 (readN 4096 0 m).1).1) ((layN 0 (readN 4096 0 m).1).2 : Nat) ∧ Below w.heap.size w w' := by
  have hu := Tryd.underlying29
  obtain ⟨b1, b2, b3, b4⟩ := N.read_back 4096 0 m hm
  obtain ⟨K1, hK1⟩ := (N.read_ev m hm (by omega)).rounds
  have hx : (readN 4096 0 m).1.length ≤ 90 := by omega
  generalize (((readN 4096 0 m).2 : Nat) : Int) = n at hK1
  generalize (readN 4096 0 m).1 = xs at hK1 hx b4 ⊢
  have HX := Aside0.mk hx
  have HOK := Aside0.mk b4
  have HK1 := Aside0.mk hK1
  have HR := Aside0.mk hr0
  have HC := Aside0.mk hc0
  clear b1 b2 b3 b4 hK1 hx hm hl hr0 hc0
  generalize ofN m = L at HR HC HK1 ⊢
  go_enter Tryd.func17, Tryd.ntmps17
  go_wp2_with (first
    | (go_at_call 10; (with_reducible refine (journal_Read.calls K1 A0 c0 L xs n _ ?s1 ?s2 HK1.out ?s3).mono ?_); (case s1 => exact HR.out); (case s2 => exact HC.out); (case s3 => exact HT); rintro e w1 ⟨vx, rfl, ho, hb⟩; obtain ⟨Ax, cx, ex⟩ := Kd.R_slice ho; subst ex; have HO1 := Aside0.mk ho; have HB1 := Aside0.mk hb; clear ho hb)
    | (go_at_call 7; refine (journal_New.own _).mono ?_; rintro e w2 ⟨g, rfl, hj, hb⟩; have HJ0 := Aside0.mk hj; have HO2 := Aside0.mk (Kd.R_below HO1.out hb); have HB2 := Aside0.mk (below_step HB1.out hb); clear hj hb))
  go_loopg [16] (xs.length + 1) (fun kq v16 W => ∃ (j : Nat) (v : Value), j ≤ xs.length ∧ xs.length - j < kq ∧ v16 = .int .i64 (j : Int) ∧ Aside0 (Jr w1.heap.size (fun _ => True) W g v (ofN (layN 0 (xs.take j)).1) ((layN 0 (xs.take j)).2 : Nat)) ∧ Aside0 (Kd.R k29 29 W w.heap.size (fun _ => True) (.slice Ax xs.length cx) xs) ∧ Aside0 (Below w.heap.size w W))
  case atStart => exact ⟨0, .slice none 0 0, Nat.zero_le _, by omega, rfl, ⟨HJ0.out⟩, HO2, HB2⟩
  case round =>
    have HBW := Aside0.mk HB1.out.size
    clear HJ0 HO1 HO2 HB2
    obtain ⟨j, v, hj0, hj1, rfl, HJ, HO, HB⟩ := hrel
    cases gk with
    | zero => exact absurd hj1 (by omega)
    | succ gk =>
      by_cases hlt : j < xs.length
      · have c1 : decide ((j : Int) < (xs.length : Int)) = true := decide_eq_true (by omega)
        have c2 : decide (j < xs.length) = true := decide_eq_true hlt
        have p1 : decide (0 ≤ (j : Int)) = true := decide_eq_true (by omega)
        obtain ⟨A9, c9, e9, _, hC9⟩ := Kd.R_reads HO.out
        injection e9 with e91 e92 e93
        subst e91
        obtain ⟨ad, e0, x0, x1, x2, x3⟩ := at_T29 hC9 (j : Int) (by omega) (by omega)
        subst e0
        simp only [Int.toNat_natCast] at x0 x1 x2 x3
        have HW : Aside0 (wrap64 ((j : Int) + 1) = ((j + 1 : Nat) : Int)) := ⟨by have := HX.out; unfold wrap64; omega⟩
        have HE := Aside0.mk (rd_at xs j hlt)
        have HK := Aside0.mk (show knownB (rd_T29 xs (j : Int)) = true from by
          have h := (HOK.out (rd_T29 xs (j : Int)) (by unfold rd_T29; rw [Int.toNat_natCast, List.getD_eq_getElem?_getD, List.getElem?_eq_getElem hlt]; exact List.getElem_mem hlt)).1
          unfold knownB; unfold knownI at h; exact decide_eq_true h)
        have HTL := Aside0.mk (show (xs.take j).length ≤ 100 by rw [List.length_take]; have := HX.out; omega)
        clear hC9 e92 e93
        go_wp2_with (first
          | (go_at_call 8; refine (add_known (xs.take j) (rd_T29 xs (j : Int)) (HJ.out.below (by repeat (first | exact Below.refl _ _ | apply below_alloc | apply pw_below_drewN))) HK.out HTL.out (Tab.later HT (by repeat (first | exact HB.out | apply below_alloc | apply pw_below_drewN)))).mono ?_; rintro e w3 ⟨rfl, v2, hj2, hkp, hb2⟩; have n1 := Aside0.mk hj2; have n2 := Aside0.mk (ops_over (Kd.R_below HO.out (by repeat (first | exact Below.refl _ _ | apply below_alloc | apply pw_below_drewN))) (HJ.out.below (by repeat (first | exact Below.refl _ _ | apply below_alloc | apply pw_below_drewN))) hkp); have n3 := Aside0.mk ((show Below w.heap.size w _ from by repeat (first | exact HB.out | apply below_alloc | apply pw_below_drewN)).trans (hb2.mono HBW.out)); clear HJ HO HB hkp hb2 hj2 x0 x1 x2 x3; have HJ := n1; have HO := n2; have HB := n3; clear n1 n2 n3))
        go_roundg gk
        case measure => omega
        case rel => exact ⟨j + 1, v2, by omega, by omega, by rw [HW.out], ⟨by rw [HE.out]; exact HJ.out⟩, HO, HB⟩
      · have e0 : j = xs.length := by omega
        subst e0
        have c1 : decide ((xs.length : Int) < (xs.length : Int)) = false := decide_eq_false (by omega)
        go_wp2
        go_ret
        have h := HJ.out
        rw [List.take_length] at h
        exact ⟨g, rfl, ⟨v, h.1, Nat.le_trans HBW.out h.2.1, Kd.R_lower h.2.2 HBW.out⟩, HB.out⟩
end Go.Proofs.YtocgbbhppegccaaDoor.F
end
section
namespace Go.Proofs.YtocgbbhppegccaaDoor.F
open Go.RowKit Go.Proofs.YtocgbbhppegccaaDoorW.PrintWords Go.Proofs.YtocgbbhppegccaaDoorW.PrintLast Go.Proofs.YtocgbbhppegccaaDoorW.PrintMore
set_option linter.unusedSimpArgs false
set_option linter.unusedVariables false
theorem last_mono {P : Program} {md : Region.Mode} {ops : Array Oper} {Q : Exit → Act → World → Prop} {S S2 : World → Prop} : ∀ {fuel : Nat} {l : Array Bool} {a : Act} {w : World}, S2 w → (∀ w', S2 w' → S w') → wpAnyLast P md ops Q S2 [] fuel l a w → wpAnyLast P md ops Q S [] fuel l a w := by
  intro fuel
  induction fuel with
  | zero => intro l a w _ _ h; exact h
  | succ fuel ih =>
    intro l a w h2 hi h
    refine ⟨h.1, fun i hr => ?_⟩
    refine wpOp_mono ?_ (h.2 i hr)
    intro a' w' ⟨hs, hn⟩
    have h3 := hs (by simp) h2
    exact ⟨fun _ _ => hi _ h3, ih h3 hi hn⟩
end Go.Proofs.YtocgbbhppegccaaDoor.F
end
