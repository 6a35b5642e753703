-- Cut for this claim by a program (wip/prune.py) out of the texts that its bench laid or wrote
import Derived.Test.YtocgbbhppegccaaDoorFRef29A
import Derived.Test.YtocgbbhppegccaaDoorJP6
namespace Go.Proofs.YtocgbbhppegccaaDoor.F
open Go.RowKit Go.Proofs.YtocgbbhppegccaaDoorW.PrintWords Go.Proofs.YtocgbbhppegccaaDoorW.PrintLast Go.Proofs.YtocgbbhppegccaaDoorW.PrintMore
set_option linter.unusedSimpArgs false
set_option linter.unusedVariables false
open Go.Proofs.YtocgbbhppegccaaDoor.N (ofN OpOk fr nx layN knownI)
theorem ops_over {base b2 : Nat} {ok ok2 : Nat → Prop} {W W' : World} {g : Nat} {v u : Value} {l : List Int} {s : Int} {xs : List S29} (h : Kd.R k29 29 W b2 ok2 u xs) (hj : Jr base ok W g v l s) (hk : KeepBut W W' g v.ownBlock) :
    Kd.R k29 29 W' b2 ok2 u xs := by
  refine Kd.R_mono (Kd.R_step (Kd.R_bound h) (fun k ho hlt => ?_)) (fun k hk => hk.1)
  obtain ⟨_, _, _, q, hq, cells, hc⟩ := ho
  have hq2 : q = 29 := by simpa [k29, Kd.iso, Kd.pair, Kd.int, Kd.scalar, Kd.E] using hq
  subst hq2
  refine hk.2 k hlt ?_ (Kd.R_ne hj.2.2 hc (by decide))
  intro e
  rw [e, hj.1] at hc
  cases hc
theorem jr_over {base b2 : Nat} {ok ok2 : Nat → Prop} {W W' : World} {g : Nat} {v u : Value} {l : List Int} {s : Int} {xs : List S29} (h : Jr base ok W g v l s) (ho : Kd.R k29 29 W b2 ok2 u xs) (hg : W.grownBy W' u.ownBlock) : Jr base ok W' g v l s := by
  refine ⟨blk_grown h.1 hg (Kd.R_ne ho h.1 (by decide)), h.2.1, ?_⟩
  refine Kd.R_mono (Kd.R_step (Kd.R_bound h.2.2) (fun k hk hlt => ?_)) (fun k hk => hk.1)
  obtain ⟨_, _, _, q, hq, cells, hc⟩ := hk
  have hq2 : q = 5 := by simpa [Kd.int, Kd.scalar, Kd.E] using hq
  subst hq2
  exact hg.block k hlt (Kd.R_ne ho hc (by decide))
def knownB (o : S29) : Bool := decide (0 < o.f0 ∧ o.f0 < 24)
def accT (l : List S29) (j : Nat) : List S29 := (l.take j).filter knownB
theorem rd_at (l : List S29) (j : Nat) (h : j < l.length) : l.take (j + 1) = l.take j ++ [rd_T29 l (j : Int)] := by
  rw [List.take_succ_eq_append_getElem h]
  unfold rd_T29
  rw [Int.toNat_natCast, List.getD_eq_getElem?_getD, List.getElem?_eq_getElem h]; rfl
theorem acc_yes (l : List S29) (j : Nat) (h : j < l.length) (hk : knownB (rd_T29 l (j : Int)) = true) : accT l (j + 1) = accT l j ++ [rd_T29 l (j : Int)] := by
  unfold accT
  rw [rd_at l j h, List.filter_append, List.filter_cons_of_pos hk]; rfl
theorem acc_no (l : List S29) (j : Nat) (h : j < l.length) (hk : knownB (rd_T29 l (j : Int)) = false) : accT l (j + 1) = accT l j := by
  unfold accT
  rw [rd_at l j h, List.filter_append, List.filter_cons_of_neg (by rw [hk]; decide), List.filter_nil, List.append_nil]
theorem acc_len (l : List S29) (j : Nat) : (accT l j).length ≤ j := Nat.le_trans (List.length_filter_le _ _) (by rw [List.length_take]; omega)
theorem add_known {base : Nat} {w : World} {g : Nat} {v : Value} (acc : List S29) (o : S29) (hj : Jr base (fun _ => True) w g v (ofN (layN 0 acc).1) ((layN 0 acc).2 : Nat)) (hk : knownB o = true) (hl : acc.length ≤ 100) (HT : Aside0 (Tab w)) :
    Calls Tryd.prog 8 #[.pointer (some ⟨g, 0, none⟩), .agg #[.int .i64 o.f0, .int .i64 o.f1, .int .i64 o.f2, .int .i64 o.f3]] w fun e w' => e = .returned (.int .i64 0) ∧ ∃ v', Jr base (fun _ => True) w' g v' (ofN (layN 0 (acc ++ [o])).1) ((layN 0 (acc ++ [o])).2 : Nat) ∧ KeepBut w w' g v.ownBlock ∧ Below base w w' := by
  obtain ⟨K, hK⟩ := (N.frame_ev (layN 0 acc).2 o.f0 o.f1 o.f2 o.f3).rounds
  have hk' : knownI o.f0 := by unfold knownI; unfold knownB at hk; exact of_decide_eq_true hk
  have ln := N.lay_length acc 0
  have lf := N.fr_length (layN 0 acc).2 o
  have hb : (ofN (fr (layN 0 acc).2 o)).length ≤ 1000000 := by rw [N.ofN_length]; omega
  have h1 : (ofN (layN 0 acc).1).length ≤ 1000000 := by rw [N.ofN_length]; omega
  have h2 : ((ofN (layN 0 acc).1).length : Int) / 33 < 4096 := by rw [N.ofN_length]; omega
  refine (journal_Journal_Add.own K o.f0 o.f1 o.f2 o.f3 _ _ hj (fun _ _ => trivial) (by rw [ne_eq, N.name_iff]; exact fun q => q hk') h1 hb h2 hK HT).mono ?_
  rintro e w' ⟨he, v', hj', hkp, hbl, _⟩
  rw [N.lay_snoc, N.ofN_app]
  exact ⟨he, v', hj', hkp, hbl⟩
theorem add_strange {w : World} {g : Nat} (o : S29) (hk : knownB o = false) (HT : Aside0 (Tab w)) :
    Calls Tryd.prog 8 #[.pointer (some ⟨g, 0, none⟩), .agg #[.int .i64 o.f0, .int .i64 o.f1, .int .i64 o.f2, .int .i64 o.f3]] w fun e w' => e = .returned (.int .i64 8) ∧ Below w.heap.size w w' :=
  journal_Journal_Add.strange (base := 0) (ok := fun _ => True) (v := .slice none 0 0) (l := []) (s := 0) _ _ _ _ (by rw [N.name_iff]; unfold knownI; unfold knownB at hk; exact of_decide_eq_false hk) HT
theorem take_run {α : Type} {P : Program} {t e : TypeId} {i : TypeInfo} (ht : P.underlying t = some (.slice e)) (hi : P.info? e = some i) (A : Option Addr) (c : Nat) (xs : List α) (kl : IntKind) (j : Nat) (hm : j ≤ xs.length) (hc : xs.length ≤ c) (W : World) :
    (Instr.slice t (.slice A xs.length c) none (some (.int kl (j : Int))) none).run P W = .ok (.slice A (xs.take j).length c) W := by
  have hl : (xs.take j).length = j := by rw [List.length_take]; omega
  have hel : P.elem t = e := by simp [Program.elem, ht]
  have hu : P.underlying t = some (.slice (P.elem t)) := by rw [hel]; exact ht
  have ha : (A.map fun x => x.add 0) = A := by cases A <;> simp [Addr.add]
  rw [run_slice_h W t A xs.length c hu kl (j : Int) (by omega) (by omega), hel, hl]
  simp [sizeOf, typeInfo, hi, sliced, Result.andThen, ha]
theorem read_cut (xs : List S29) (c : Nat) (hok : ∀ o, o ∈ xs → OpOk o) (hl : xs.length ≤ 60) (hc : c ≤ 33 * xs.length) : ∃ K, journal_Read.f K ((ofN (layN 0 xs).1).take c) = some (xs.take (c / 33), ((c / 33 * 33 : Nat) : Int)) := by
  have h := N.read_ev ((layN 0 xs).1.take c) (fun n hn => N.lay_bytes xs 0 n (List.mem_of_mem_take hn)) (by rw [List.length_take, N.lay_length]; omega)
  rw [N.read_lay xs 0 4096 c hok (by omega) hc] at h
  rw [N.ofN_take]
  exact h.rounds
theorem read_set (xs : List S29) (p y : Nat) (hok : ∀ o, o ∈ xs → OpOk o) (hl : xs.length ≤ 60) (hp : p < 33 * xs.length) (hy : y < 256) (hne : (layN 0 xs).1.getD p 0 ≠ y) : ∃ K, journal_Read.f K ((ofN (layN 0 xs).1).set p (y : Int)) = some (xs.take (p / 33), ((p / 33 * 33 : Nat) : Int)) := by
  have h := N.read_ev ((layN 0 xs).1.set p y) (fun n hn => (List.mem_or_eq_of_mem_set hn).elim (fun h => N.lay_bytes xs 0 n h) (fun h => by rw [h]; exact hy)) (by rw [List.length_set, N.lay_length]; omega)
  rw [N.read_other xs 0 4096 p y hok (by omega) hp hy hne] at h
  rw [N.ofN_set]
  exact h.rounds
theorem ops_self (xs : List S29) (hl : xs.length ≤ 60) : ∃ K, tombolaref46_Ops.f K xs xs = some true := (N.ops_ev xs (by omega)).rounds
theorem ofN_rd (m : List Nat) (p : Nat) (h : p < m.length) : rdOf 0 (ofN m) (p : Int) = ((m.getD p 0 : Nat) : Int) := by
  unfold rdOf
  rw [Int.toNat_natCast]
  unfold ofN
  simp [List.getD_eq_getElem?_getD, h]
theorem getD_byte (m : List Nat) (p : Nat) (hm : N.Bytes m) : m.getD p 0 < 256 := by
  rw [List.getD_eq_getElem?_getD]
  rcases Nat.lt_or_ge p m.length with h | h
  · rw [List.getElem?_eq_getElem h]; exact hm _ (List.getElem_mem h)
  · rw [List.getElem?_eq_none h]; decide
theorem xor_ne (a b : Nat) (h : b ≠ 0) : a ≠ a ^^^ b := by
  intro e
  have : a ^^^ a = a ^^^ (a ^^^ b) := by rw [← e]
  rw [← Nat.xor_assoc, Nat.xor_self, Nat.zero_xor] at this
  exact h this.symm
theorem acc_ok (l : List S29) (j : Nat) (hw : ∀ o, o ∈ l → (Lit.int .i64 o.f0).wf = true ∧ (Lit.int .i64 o.f1).wf = true ∧ (Lit.int .i64 o.f2).wf = true ∧ (Lit.int .i64 o.f3).wf = true) : ∀ o, o ∈ accT l j → OpOk o := by
  intro o ho
  unfold accT at ho
  rw [List.mem_filter] at ho
  obtain ⟨h1, h2⟩ := ho
  obtain ⟨_, q1, q2, q3⟩ := hw o (List.mem_of_mem_take h1)
  have hk : knownI o.f0 := by unfold knownI; unfold knownB at h2; exact of_decide_eq_true h2
  have r : ∀ x : Int, (Lit.int .i64 x).wf = true → -9223372036854775808 ≤ x ∧ x < 9223372036854775808 := fun x h => by
    have h2 : -9223372036854775808 ≤ x ∧ x ≤ 9223372036854775807 := by simpa [Lit.wf, IntKind.min, IntKind.max, IntKind.signed, IntKind.bits] using h
    omega
  exact ⟨hk, r _ q1, r _ q2, r _ q3⟩
set_option maxHeartbeats 8000000 in
set_option maxRecDepth 100000 in
theorem tombolalaw46_JournalLasts.own (A0 : Option Addr) (c0 : Nat) (l : List S29) (cut at_ by_ : Int) (w : World) (hr0 : Kd.C k29 w A0 l.length l) (hc0 : l.length ≤ c0) (hl : ¬ (l.length : Int) > 60) (hwf : ∀ o, o ∈ l → (Lit.int .i64 o.f0).wf = true ∧ (Lit.int .i64 o.f1).wf = true ∧ (Lit.int .i64 o.f2).wf = true ∧ (Lit.int .i64 o.f3).wf = true) (hby : 0 ≤ by_ ∧ by_ < 256) (HT : Aside0 (Tab w)) :
    Calls Tryd.prog 3 #[.slice A0 l.length c0, .int .i64 cut, .int .i64 at_, .int .u8 by_] w fun e w' => e = .returned (.bool true) ∧ Below w.heap.size w w' := by
  have hu := Tryd.underlying29
  have HR := Aside0.mk hr0
  have HC := Aside0.mk hc0
  have HOKX := Aside0.mk (acc_ok l l.length hwf)
  clear hwf
  have b1 : decide (60 < (l.length : Int)) = false := decide_eq_false hl
  have HL : Aside0 (l.length ≤ 60) := ⟨by omega⟩
  clear hr0 hc0 hl
  go_enter Tryd.func3, Tryd.ntmps3
  go_wp2_with (first
    | (go_at_call 7; refine (journal_New.own _).mono ?_; rintro e w1 ⟨g, rfl, hj, hb⟩; have HJ0 := Aside0.mk hj; have HB0 := Aside0.mk hb; clear hj hb))
  go_loopg [10, 11] (l.length + 1) (fun kq v10 v11 W => ∃ (j : Nat) (v : Value), j ≤ l.length ∧ l.length - j < kq ∧ v11 = .int .i64 (j : Int) ∧ Aside0 (Jr w.heap.size (fun _ => True) W g v (ofN (layN 0 (accT l j)).1) ((layN 0 (accT l j)).2 : Nat)) ∧ Aside0 (Kd.R k29 29 W w.heap.size (fun _ => True) v10 (accT l j)) ∧ Aside0 (Below w.heap.size w W))
  case atStart => exact ⟨0, .slice none 0 0, Nat.zero_le _, by omega, rfl, ⟨HJ0.out⟩, ⟨Kd.R_nil _ _ _ _ _⟩, HB0⟩
  case round =>
    clear HJ0 HB0
    obtain ⟨j, v, hj0, hj1, rfl, HJ, HO, HB⟩ := hrel
    cases gk with
    | zero => exact absurd hj1 (by omega)
    | succ gk =>
      by_cases hlt : j < l.length
      · have c1 : decide ((j : Int) < (l.length : Int)) = true := decide_eq_true (by omega)
        have c2 : decide (j < l.length) = true := decide_eq_true hlt
        have p1 : decide (0 ≤ (j : Int)) = true := decide_eq_true (by omega)
        obtain ⟨ad, e0, x0, x1, x2, x3⟩ := at_T29 (Kd.C_below HR.out HB.out) (j : Int) (by omega) (by omega)
        subst e0
        simp only [Int.toNat_natCast] at x0 x1 x2 x3
        obtain ⟨Ao, co, eo⟩ := Kd.R_slice HO.out
        subst eo
        have HAL := Aside0.mk (acc_len l j)
        cases hk : knownB (rd_T29 l (j : Int)) with
        | false =>
          have HE := Aside0.mk (acc_no l j hlt hk)
          have HK := Aside0.mk hk
          have HLT := Aside0.mk hlt
          clear hk
          have HW : Aside0 (wrap64 ((j : Int) + 1) = ((j + 1 : Nat) : Int)) := ⟨by have := HL.out; unfold wrap64; omega⟩
          go_wp2_with (first
            | (go_at_call 8; refine (add_strange (rd_T29 l (j : Int)) HK.out (Tab.later HT HB.out)).mono ?_; rintro e w2 ⟨rfl, hb⟩; have n1 := Aside0.mk (HJ.out.below hb); have n2 := Aside0.mk (Kd.R_below HO.out hb); have n3 := Aside0.mk (below_step HB.out hb); clear HJ HO HB hb; have HJ := n1; have HO := n2; have HB := n3; clear n1 n2 n3))
          go_roundg gk
          case measure => omega
          case rel => exact ⟨j + 1, v, by have := HLT.out; omega, by have := HLT.out; omega, by rw [HW.out], ⟨by rw [HE.out]; exact HJ.out⟩, ⟨by rw [HE.out]; exact HO.out⟩, HB⟩
        | true =>
          have HE := Aside0.mk (acc_yes l j hlt hk)
          have HK := Aside0.mk hk
          have HLT := Aside0.mk hlt
          clear hk
          have HW : Aside0 (wrap64 ((j : Int) + 1) = ((j + 1 : Nat) : Int)) := ⟨by have := HL.out; unfold wrap64; omega⟩
          go_wp2_with (first
            | (go_at_call 8; refine (add_known (accT l j) (rd_T29 l (j : Int)) HJ.out HK.out (by have := HAL.out; have := HL.out; omega) (Tab.later HT HB.out)).mono ?_; rintro e w2 ⟨rfl, v2, hj2, hkp, hb2⟩; have n1 := Aside0.mk (ops_over HO.out HJ.out hkp); have n2 := Aside0.mk (HB.out.trans hb2); have n3 := Aside0.mk hj2; clear HJ HO HB hkp hb2 hj2 x0 x1 x2 x3; have HO := n1; have HB := n2; have HJ := n3; clear n1 n2 n3; obtain ⟨ad2, e2, x0, x1, x2, x3⟩ := at_T29 (Kd.C_below HR.out HB.out) (j : Int) (by omega) (by have := HLT.out; omega); cases e2; simp only [Int.toNat_natCast] at x0 x1 x2 x3)
            | ((with_reducible refine gate_builtin (b := .append) (xs := #[.tmp 35, .tmp 40]) rfl ?_);at_builtin;refine Kd.R_append k29 (w0 := w) w.heap.size rfl (.tmp 35) (.tmp 40) 22 29 (.agg #[(.int .i64 0), (.int .i64 0), (.int .i64 0), (.int .i64 0)]) 32 rfl Tryd.underlying22 info29 rfl (by decide) (by omega) (.slice Ao (accT l j).length co) (accT l j) (rd_T29 l (j : Int)) [.int .i64 (rd_T29 l (j : Int)).f0, .int .i64 (rd_T29 l (j : Int)).f1, .int .i64 (rd_T29 l (j : Int)).f2, .int .i64 (rd_T29 l (j : Int)).f3] (fun _ => True) (fun _ => False) rfl (by first|(go_simp;done)|(go_simp;rfl)) ?aP (fun _ hk => hk.elim) (fun _ _ => trivial) ?aO ?aB ?aS ?aL ?_;(case aP => exact k29_mkM _ _ _ _);(case aB => exact HB.out);(case aO => exact HO.out);(case aS => exact HB.out.size);(case aL => have := HAL.out;have := HL.out;have := HLT.out;omega);intro v3 w3 ho hb hg hat;have n1 := Aside0.mk (jr_over HJ.out HO.out hg);have n2 := Aside0.mk ho;have n3 := Aside0.mk hb;clear HJ HO HB ho hb hg hat x0 x1 x2 x3;have HJ := n1;have HO := n2;have HB := n3;clear n1 n2 n3))
          go_roundg gk
          case measure => omega
          case rel => exact ⟨j + 1, v2, by have := HLT.out; omega, by have := HLT.out; omega, by rw [HW.out], ⟨by rw [HE.out]; exact HJ.out⟩, ⟨by rw [HE.out]; exact HO.out⟩, HB⟩
      · have e0 : j = l.length := by omega
        subst e0
        have c1 : decide ((l.length : Int) < (l.length : Int)) = false := decide_eq_false (by omega)
        have LL : Aside0 ((layN 0 (accT l l.length)).1.length = 33 * (accT l l.length).length) := ⟨N.lay_length _ _⟩
        have HAL := Aside0.mk (acc_len l l.length)
        have HJL := Aside0.mk (show (ofN (layN 0 (accT l l.length)).1).length = 33 * (accT l l.length).length by rw [N.ofN_length]; exact LL.out)
        generalize hB : ofN (layN 0 (accT l l.length)).1 = B at HJ HJL
        have HBE := Aside0.mk hB
        clear hB
        by_cases g0 : cut < 0 ∨ (B.length : Int) < cut
        · have d1 : (decide (cut < 0) || decide ((B.length : Int) < cut)) = true := by rcases g0 with h | h <;> simp [h]
          by_cases g1 : cut < 0
          · have d2 : decide (cut < 0) = true := decide_eq_true g1
            clear d1 g0 g1
            go_wp2_with (first
              | (go_at_call 9; refine (journal_Journal_Bytes.own HJ.out (by have := HJL.out; have := HAL.out; have := HL.out; omega)).mono ?_; rintro e w2 ⟨u, rfl, ho2, hb2⟩; obtain ⟨Au, cu, eu⟩ := Kd.R_slice ho2; subst eu; have HB2 := Aside0.mk (below_step HB.out hb2); clear ho2 hb2)
              | (go_at_call 6; refine (tombolalaw46_alive.own _ (Tab.later HT HB2.out)).mono ?_; rintro e w3 ⟨rfl, hb⟩; have HB3 := Aside0.mk (below_step HB2.out hb); clear hb))
            go_ret
            exact ⟨rfl, HB3.out⟩
          · have d2 : decide (cut < 0) = false := decide_eq_false g1
            have d3 : decide ((B.length : Int) < cut) = true := decide_eq_true (g0.resolve_left g1)
            clear d1 g0 g1
            go_wp2_with (first
              | (go_at_call 9; refine (journal_Journal_Bytes.own HJ.out (by have := HJL.out; have := HAL.out; have := HL.out; omega)).mono ?_; rintro e w2 ⟨u, rfl, ho2, hb2⟩; obtain ⟨Au, cu, eu⟩ := Kd.R_slice ho2; subst eu; have HB2 := Aside0.mk (below_step HB.out hb2); clear ho2 hb2)
              | (go_at_call 6; refine (tombolalaw46_alive.own _ (Tab.later HT HB2.out)).mono ?_; rintro e w3 ⟨rfl, hb⟩; have HB3 := Aside0.mk (below_step HB2.out hb); clear hb))
            go_ret
            exact ⟨rfl, HB3.out⟩
        obtain ⟨c, rfl⟩ := Int.eq_ofNat_of_zero_le (show 0 ≤ cut by omega)
        have hc : c ≤ B.length := by omega
        have d2 : decide ((c : Int) < 0) = false := decide_eq_false (by omega)
        have d3 : decide ((B.length : Int) < (c : Int)) = false := decide_eq_false (by omega)
        obtain ⟨K1, hK1⟩ := read_cut (accT l l.length) c HOKX.out (by have := HAL.out; have := HL.out; omega) (by have := HJL.out; omega)
        rw [HBE.out] at hK1
        obtain ⟨M, hM⟩ : ∃ M, M = B.take c := ⟨_, rfl⟩
        rw [← hM] at hK1
        have HM := Aside0.mk hM
        have HCC := Aside0.mk hc
        have d4 : decide (B.length < c) = false := decide_eq_false (by omega)
        obtain ⟨Ao, co, eo, hco, hCo⟩ := Kd.R_reads HO.out
        subst eo
        have HOC := Aside0.mk hco
        have HOR := Aside0.mk hCo
        obtain ⟨X, hX⟩ : ∃ X, X = (accT l l.length).take (c / 33) := ⟨_, rfl⟩
        obtain ⟨q, hq⟩ : ∃ q, q = c / 33 := ⟨_, rfl⟩
        obtain ⟨r, hr⟩ : ∃ r : Int, r = ((c / 33 * 33 : Nat) : Int) := ⟨_, rfl⟩
        have e1 : wrap64 ((c : Int) / 33) = (q : Int) := by have := HAL.out; have := HL.out; have := HJL.out; unfold wrap64; omega
        have e2 : wrap64 ((q : Int) * 33) = r := by clear e1; have := HAL.out; have := HL.out; have := HJL.out; unfold wrap64; omega
        have hqx : q ≤ (accT l l.length).length := by clear e1 e2; have := HJL.out; omega
        obtain ⟨K2, hK2⟩ := ops_self X (by clear e1 e2; rw [hX, List.length_take]; have := HAL.out; have := HL.out; omega)
        have HK2 := Aside0.mk hK2
        rw [← hX, ← hr] at hK1
        have HK1 := Aside0.mk hK1
        obtain ⟨io, hio, _, hszo, _⟩ := info_parts info29
        have hcut2 := take_run (P := Tryd.prog) Tryd.underlying22 hio Ao co (accT l l.length) .i64 q hqx hco
        rw [hq, ← hX, ← hq] at hcut2
        have HX := Aside0.mk hX
        have HQ := Aside0.mk hq
        have HQX := Aside0.mk hqx
        clear hio hszo hX hq hr hK2 hqx hK1 g0 hM hco hCo
        go_upto_region 16 with (first
          | (go_at_call 9; refine (journal_Journal_Bytes.own HJ.out (by clear e1 e2; have := HJL.out; have := HAL.out; have := HL.out; omega)).mono ?_; rintro e w2 ⟨u, rfl, ho2, hb2⟩; obtain ⟨Au, cu, eu, hcu, hCu⟩ := Kd.R_reads ho2; subst eu; have HB2 := Aside0.mk (below_step HB.out hb2); have HOU := Aside0.mk ho2; have HCU := Aside0.mk hcu; have HRU := Aside0.mk hCu; have HO2 := Aside0.mk (Kd.R_below HO.out hb2); clear ho2 hb2 hcu hCu; obtain ⟨iu, hiu, _, hszu, _⟩ := info_parts info5; have hcut := take_run (P := Tryd.prog) Tryd.underlying30 hiu Au cu B .i64 c HCC.out HCU.out; rw [← HM.out] at hcut; clear hiu hszu)
          | (go_at_call 10; (with_reducible refine (journal_Read.calls K1 Au cu M X r _ ?rs1 ?rs2 HK1.out ?rs4).mono ?_); (case rs1 => rw [HM.out]; exact Kd.C_take HRU.out HCC.out); (case rs2 => clear e1 e2; have := HCU.out; have := HCC.out; rw [HM.out, List.length_take]; omega); (case rs4 => exact Tab.later HT HB2.out); rintro e w3 ⟨vx, rfl, hox, hb3⟩; obtain ⟨Ax, cx, ex, hcx, hCx⟩ := Kd.R_reads hox; subst ex; have HB3 := Aside0.mk (below_step HB2.out hb3); have HXC := Aside0.mk hcx; have HXR := Aside0.mk hCx; have HO3 := Aside0.mk (Kd.R_below HO2.out hb3); have HOU3 := Aside0.mk (Kd.R_below HOU.out hb3); clear hox hb3 hcx hCx)
          | (go_at_call 11; (with_reducible refine (tombolaref46_Ops.calls K2 Ax cx X Ao co X true _ ?o1 ?o2 ?o3 ?o4 HK2.out).mono ?_); (case o1 => exact HXR.out); (case o2 => exact HXC.out); (case o3 => obtain ⟨A9, c9, e9, _, hC9⟩ := Kd.R_reads HO3.out; injection e9 with e91 e92 e93; subst e91; rw [HX.out, ← HQ.out]; exact Kd.C_take hC9 HQX.out); (case o4 => clear e1 e2; have := HOC.out; have := HQX.out; rw [HX.out, List.length_take]; omega); rintro e w4 ⟨rfl, hd4⟩; obtain ⟨nd4, rfl⟩ := hd4))
        have HB4 := Aside0.mk (pw_below_drewN HB3.out nd4)
        clear e1 e2 hcut hcut2
        by_cases k1 : at_ < 0
        · have d5 : decide (at_ < 0) = true := decide_eq_true k1
          clear k1
          go_wp2_with (go_at_call 6; refine (tombolalaw46_alive.own _ (Tab.later HT HB4.out)).mono ?_; rintro e w3 ⟨rfl, hb⟩; have HB5 := Aside0.mk (below_step HB4.out hb); clear hb)
          go_ret
          exact ⟨rfl, HB5.out⟩
        · have d5 : decide (at_ < 0) = false := decide_eq_false k1
          by_cases k2 : (B.length : Int) ≤ at_
          · have d6 : decide ((B.length : Int) ≤ at_) = true := decide_eq_true k2
            clear k1 k2
            go_wp2_with (go_at_call 6; refine (tombolalaw46_alive.own _ (Tab.later HT HB4.out)).mono ?_; rintro e w3 ⟨rfl, hb⟩; have HB5 := Aside0.mk (below_step HB4.out hb); clear hb)
            go_ret
            exact ⟨rfl, HB5.out⟩
          · have d6 : decide ((B.length : Int) ≤ at_) = false := decide_eq_false k2
            by_cases k3 : by_ = 0
            · subst k3
              clear k1 k2
              go_wp2_with (go_at_call 6; refine (tombolalaw46_alive.own _ (Tab.later HT HB4.out)).mono ?_; rintro e w3 ⟨rfl, hb⟩; have HB5 := Aside0.mk (below_step HB4.out hb); clear hb)
              go_ret
              exact ⟨rfl, HB5.out⟩
            · have d7 : (by_ == 0) = false := beq_eq_false_iff_ne.mpr k3
              obtain ⟨p, rfl⟩ := Int.eq_ofNat_of_zero_le (show 0 ≤ at_ by omega)
              have hp : p < B.length := by omega
              obtain ⟨b, rfl⟩ := Int.eq_ofNat_of_zero_le hby.1
              have hb0 : b ≠ 0 := fun e => k3 (by rw [e]; rfl)
              have hb1 : b < 256 := by omega
              have HOU4 := Aside0.mk (Kd.R_drewN HOU3.out nd4)
              have HO4 := Aside0.mk (Kd.R_drewN HO3.out nd4)
              obtain ⟨go, cgo, ego, gb, gl, cells, hG⟩ := Kd.R_form HOU4.out (by omega)
              injection ego with ea en ec
              subst ea
              subst ec
              clear en
              have hrd := ofN_rd (layN 0 (accT l l.length)).1 p (by have := LL.out; have := HJL.out; omega)
              rw [HBE.out] at hrd
              have hb2 := getD_byte (layN 0 (accT l l.length)).1 p (N.lay_bytes _ _)
              obtain ⟨y, hy⟩ : ∃ y : Nat, y = (layN 0 (accT l l.length)).1.getD p 0 ^^^ b := ⟨_, rfl⟩
              have hy2 : y < 256 := by rw [hy]; exact Nat.xor_lt_two_pow (n := 8) hb2 hb1
              have hne : (layN 0 (accT l l.length)).1.getD p 0 ≠ y := by rw [hy]; exact xor_ne _ _ hb0
              obtain ⟨K3, hK3⟩ := read_set (accT l l.length) p y HOKX.out (by have := HAL.out; have := HL.out; omega) (by have := HJL.out; omega) hy2 hne
              rw [HBE.out] at hK3
              have e3 : Go.bits .xor .u8 (((layN 0 (accT l l.length)).1.getD p 0 : Nat) : Int) (b : Int) = (y : Int) := by rw [hy]; exact N.xor8 _ _ hb2 hb1
              obtain ⟨hx, hf⟩ := Kd.R_celln 0 HOU4.out (p : Int) (by omega) (by omega)
              rw [hrd] at hx
              rw [Int.toNat_natCast] at hx hf
              generalize (layN 0 (accT l l.length)).1.getD p 0 = b0 at hx e3
              obtain ⟨X2, hX2⟩ : ∃ X2, X2 = (accT l l.length).take (p / 33) := ⟨_, rfl⟩
              obtain ⟨q2, hq2⟩ : ∃ q2, q2 = p / 33 := ⟨_, rfl⟩
              obtain ⟨r2, hr2⟩ : ∃ r2 : Int, r2 = ((p / 33 * 33 : Nat) : Int) := ⟨_, rfl⟩
              obtain ⟨M2, hM2⟩ : ∃ M2, M2 = B.set p (y : Int) := ⟨_, rfl⟩
              have HM2L := Aside0.mk (show M2.length = B.length by rw [hM2, List.length_set])
              rw [← hM2, ← hX2, ← hr2] at hK3
              have hqx2 : q2 ≤ (accT l l.length).length := by have := HJL.out; omega
              obtain ⟨K4, hK4⟩ := ops_self X2 (by rw [hX2, List.length_take]; have := HAL.out; have := HL.out; omega)
              have HHP := Aside0.mk (Kd.R_putg HOU4.out (p : Int) (y : Int))
              have HO5 := Aside0.mk (Kd.R_set HO4.out hG (by intro t ht; simp [k29, Kd.iso, Kd.pair, Kd.int, Kd.scalar, Kd.E] at ht; rw [ht]; decide) p (.int .u8 (y : Int)))
              have HB5 := Aside0.mk (below_set (j := p) (v := .int .u8 (y : Int)) HB4.out (Nat.le_trans HB.out.size gb))
              obtain ⟨io, hio, _, hszo, _⟩ := info_parts info29
              have hcut3 := take_run (P := Tryd.prog) Tryd.underlying22 hio Ao co (accT l l.length) .i64 q2 hqx2 HOC.out
              rw [hq2, ← hX2, ← hq2] at hcut3
              have g1 : wrap64 ((p : Int) / 33) = (q2 : Int) := by clear e3; have := HAL.out; have := HL.out; have := HJL.out; unfold wrap64; omega
              have g2 : wrap64 ((q2 : Int) * 33) = r2 := by clear g1 e3; have := HAL.out; have := HL.out; have := HJL.out; unfold wrap64; omega
              have HK3 := Aside0.mk hK3
              have HK4 := Aside0.mk hK4
              have HX2 := Aside0.mk hX2
              have HQ2 := Aside0.mk hq2
              have HQX2 := Aside0.mk hqx2
              have HM2 := Aside0.mk hM2
              have c5 : decide ((p : Int) < (B.length : Int)) = true := decide_eq_true (by omega)
              have c6 : decide (0 ≤ (p : Int)) = true := decide_eq_true (by omega)
              clear hK3 hK4 hX2 hq2 hqx2 hM2 hr2 hio hszo hb0 hb1 hb2 hy hy2 hne gb gl hrd hby k3 k1 k2
              go_wp2_with (first
                | ((with_reducible refine gate_store (t := 5) (p := 93) rfl ?_); refine store_event (t := 5) (p := 93) (v := ?vo) (w1 := ((w3.drewN nd4).setCell ⟨go, p, none⟩ (.int .u8 (y : Int)))) ?hg ?ho ?hn ?hr ?_; (case ho => rfl); (case hg => rfl); (case hn => rfl); (case hr => first|(go_simp;done)|(go_simp;rfl)); intro w10 hw; subst hw; clear hx hf)
                | (go_at_call 10; have h5 := journal_Read.calls K3 (some ⟨go, 0, none⟩) cu M2 X2 r2 _ (by have h := (Kd.R_reads HHP.out.1); obtain ⟨A9, c9, e9, h9, hC9⟩ := h; injection e9 with e91 e92 e93; subst e91; rw [HM2.out]; exact hC9) (by have := HCU.out; rw [HM2L.out]; exact this) HK3.out (Tab.later HT HB5.out); rw [HM2L.out] at h5; (with_reducible refine h5.mono ?_); clear h5; rintro e w11 ⟨vy, rfl, hoy, hb6⟩; obtain ⟨Ay, cy, ey, hcy, hCy⟩ := Kd.R_reads hoy; subst ey; have HB6 := Aside0.mk (below_step HB5.out hb6); have HYC := Aside0.mk hcy; have HYR := Aside0.mk hCy; have HO6 := Aside0.mk (Kd.R_below HO5.out hb6); clear hoy hb6 hcy hCy)
                | (go_at_call 11; (with_reducible refine (tombolaref46_Ops.calls K4 Ay cy X2 Ao co X2 true _ ?o1 ?o2 ?o3 ?o4 HK4.out).mono ?_); (case o1 => exact HYR.out); (case o2 => exact HYC.out); (case o3 => obtain ⟨A9, c9, e9, _, hC9⟩ := Kd.R_reads HO6.out; injection e9 with e91 e92 e93; subst e91; rw [HX2.out, ← HQ2.out]; exact Kd.C_take hC9 HQX2.out); (case o4 => clear g1 g2; have := HOC.out; have := HQX2.out; rw [HX2.out, List.length_take]; omega); rintro e w12 ⟨rfl, hd7⟩; obtain ⟨nd7, rfl⟩ := hd7; have HB7 := Aside0.mk (pw_below_drewN HB6.out nd7))
                | (go_at_call 6; refine (tombolalaw46_alive.own _ (Tab.later HT HB7.out)).mono ?_; rintro e w13 ⟨rfl, hb⟩; have HB8 := Aside0.mk (below_step HB7.out hb); clear hb))
              go_ret
              exact ⟨rfl, HB8.out⟩
set_option maxHeartbeats 4000000 in
set_option maxRecDepth 100000 in
theorem mainJournalLasts (A0 : Option Addr) (c0 : Nat) (l : List S29) (cut at_ by_ : Int) (w : World) (hr0 : Kd.C k29 w A0 l.length l) (hc0 : l.length ≤ c0) (w0 : (∀ x, x ∈ l → (Lit.int .i64 x.f0).wf = true ∧ (Lit.int .i64 x.f1).wf = true ∧ (Lit.int .i64 x.f2).wf = true ∧ (Lit.int .i64 x.f3).wf = true) ∧ l.length ≤ 9223372036854775807) (_w1 : (Lit.int .i64 cut).wf = true) (_w2 : (Lit.int .i64 at_).wf = true) (w3 : (Lit.int .u8 by_).wf = true) (HT : Aside0 (Tab w)) :
    Calls Tryd.prog 3 #[.slice A0 l.length c0, .int .i64 cut, .int .i64 at_, .int .u8 by_] w fun e w' => e = .returned (.bool true) ∧ Below w.heap.size w w' := by
  have hb : 0 ≤ by_ ∧ by_ ≤ 255 := by simpa [Lit.wf, IntKind.min, IntKind.max, IntKind.signed, IntKind.bits] using w3
  by_cases hl : (l.length : Int) > 60
  · have b1 : decide (60 < (l.length : Int)) = true := decide_eq_true hl
    have b2 : decide (60 < l.length) = true := decide_eq_true (by omega)
    clear hr0 hc0 w0 hb hl
    go_enter Tryd.func3, Tryd.ntmps3
    go_wp2_with (go_at_call 6; refine (tombolalaw46_alive.own _ HT).mono ?_; rintro e w3 ⟨rfl, hb⟩; have HB5 := Aside0.mk hb; clear hb)
    go_ret
    exact ⟨rfl, HB5.out⟩
  · exact tombolalaw46_JournalLasts.own A0 c0 l cut at_ by_ w hr0 hc0 hl w0.1 (by omega) HT
end Go.Proofs.YtocgbbhppegccaaDoor.F
