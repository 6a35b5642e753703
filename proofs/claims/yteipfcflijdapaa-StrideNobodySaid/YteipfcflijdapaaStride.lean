-- Cut for this claim by a program (wip/prune.py) out of the texts that its bench laid or wrote
import Derived.Test.YteipfcflijdapaaF0
import Derived.Deep.RegionWith
import Derived.Test.YteipfcflijdapaaFStrideA
import Derived.Test.YteipfcflijdapaaFSpanA
import Derived.Test.YteipfcflijdapaaFRef04A
section
namespace Go.Proofs.Yteipfcflijdapaa.F
open Go.RowKit Go.Proofs.YteipfcflijdapaaW.PrintWords Go.Proofs.YteipfcflijdapaaW.PrintLast Go.Proofs.YteipfcflijdapaaW.PrintMore
attribute [local go_sem] max2_int min2_int max_two min_two max_three min_three max_four min_four
set_option linter.unusedVariables false
set_option linter.unusedSimpArgs false
def tombolaref11_Ints.l0 : Nat → List Int → List Int → Int → Option (Bool)
 | 0, _, _, _ => none
 | k + 1, x0, x1, x5 => if x5 < (x0.length : Int) then (if 0 ≤ x5 then (if x5 < (x1.length : Int) then (if (rd x0 x5) = (rd x1 x5) then (tombolaref11_Ints.l0 k x0 x1 (wrap64 (x5 + 1))) else (some false)) else (none)) else (none)) else (some true)
def tombolaref11_Ints.f (k : Nat) (l0 : List Int) (l1 : List Int) : Option (Bool) := if (l0.length : Int) = (l1.length : Int) then (tombolaref11_Ints.l0 k l0 l1 0) else (some false)
set_option maxHeartbeats 8000000 in
set_option maxRecDepth 100000 in
theorem tombolaref11_Ints.calls (k : Nat) (A0 : Option Addr) (c0 : Nat) (l0 : List Int) (A1 : Option Addr) (c1 : Nat) (l1 : List Int) (r : Bool) (w : World) (hr0 : Kd.C (Kd.int .i64) w A0 l0.length l0) (hc0 : l0.length ≤ c0) (hr1 : Kd.C (Kd.int .i64) w A1 l1.length l1) (hc1 : l1.length ≤ c1) (h : tombolaref11_Ints.f k l0 l1 = some r) :
  Calls Try.prog 27 #[.slice A0 l0.length c0, .slice A1 l1.length c1] w fun e w' => e = .returned (.bool r) ∧ Drawn0 w w' := by
 have HR0 := Aside0.mk hr0
 have HC0 := Aside0.mk hc0
 clear hr0 hc0
 have HR1 := Aside0.mk hr1
 have HC1 := Aside0.mk hc1
 clear hr1 hc1
 have H : (if (l0.length : Int) = (l1.length : Int) then (tombolaref11_Ints.l0 k l0 l1 0) else (some false)) = some r := h
 clear h
 by_cases c3 : (l0.length : Int) = (l1.length : Int)
 ·rw [if_pos c3] at H
  have c3b0 : ((l0.length : Int) == (l1.length : Int)) = true := beq_iff_eq.mpr c3
  have c3b1 : ((l0.length : Int) != (l1.length : Int)) = false := bne_eq_false_iff_eq.mpr c3
  have c3b2 : (l0.length == l1.length) = true := by first|simpa using c3|(simp at c3 ⊢;omega)
  clear c3
  have H' := Aside0.mk H
  clear H
  go_enter Try.func27, Try.ntmps27
  go_wp2
  repeat (go_quiet (fail);try go_wp2)
  go_loopg [5] k (fun kq v5 w' => ∃ (x5_1 : Int), v5 = .int .i64 x5_1 ∧ Aside0 (tombolaref11_Ints.l0 kq l0 l1 x5_1 = some r) ∧ Aside0 (kq ≤ k) ∧ Drawn0 w w')
  case atStart => exact ⟨(0), (by first|rfl|(simp;done)|(simp [*];done)), H', ⟨Nat.le_refl _⟩, by repeat (first|exact Drawn0.refl _|apply Drawn0.step)⟩
  case round =>
   clear H'
   try clear c1
   try clear c2
   try clear p2
   try clear c3
   try clear c3b0
   try clear c3b1
   try clear c3b2
   obtain ⟨x5_1, rfl, HA, HK1, ⟨m1, rfl⟩⟩ := hrel
   cases gk with
   | zero => exact absurd HA.out (by first|(intro h_;cases h_;done)|simp [tombolaref11_Ints.l0])
   | succ k1 =>
    have H := HA.out
    clear HA
    simp only [tombolaref11_Ints.l0] at H
    by_cases c4 : x5_1 < (l0.length : Int)
    ·rw [if_pos c4] at H
     have c4b0 : decide (x5_1 < (l0.length : Int)) = true := decide_eq_true c4
     clear c4
     by_cases c5 : 0 ≤ x5_1
     ·rw [if_pos c5] at H
      have c5b0 : decide (0 ≤ x5_1) = true := decide_eq_true c5
      clear c5
      by_cases c6 : x5_1 < (l1.length : Int)
      ·rw [if_pos c6] at H
       have c6b0 : decide (x5_1 < (l1.length : Int)) = true := decide_eq_true c6
       clear c6
       by_cases c7 : (rd l0 x5_1) = (rd l1 x5_1)
       ·rw [if_pos c7] at H
        have c7b0 : ((rd l0 x5_1) == (rd l1 x5_1)) = true := beq_iff_eq.mpr c7
        have c7b1 : ((rd l0 x5_1) != (rd l1 x5_1)) = false := bne_eq_false_iff_eq.mpr c7
        clear c7
        have H' := Aside0.mk H
        clear H
        have p101 : 0 ≤ (x5_1 : Int) := of_decide_eq_true (by first|(with_reducible assumption)|assumption)
        have q101 : x5_1 < (l0.length : Int) := of_decide_eq_true (by first|(with_reducible assumption)|assumption)
        obtain ⟨ad101, e101, hx101_0⟩ := Kd.at_int HR0.out x5_1 p101 q101
        cases e101
        replace p101 := eq_true p101
        replace q101 := eq_true q101
        have p102 : 0 ≤ (x5_1 : Int) := of_decide_eq_true (by first|(with_reducible assumption)|assumption)
        have q102 : x5_1 < (l1.length : Int) := of_decide_eq_true (by first|(with_reducible assumption)|assumption)
        obtain ⟨ad102, e102, hx102_0⟩ := Kd.at_int HR1.out x5_1 p102 q102
        cases e102
        replace p102 := eq_true p102
        replace q102 := eq_true q102
        go_wp2
        repeat (go_quiet (fail);try go_wp2)
        go_roundg k1
        case measure => have := HK1.out;omega
        case rel => exact ⟨(wrap64 (x5_1 + 1)), (by first|rfl|(simp;done)|(simp [*];done)), H', ⟨by have := HK1.out;omega⟩, by repeat (first|exact Drawn0.refl _|apply Drawn0.step)⟩
       ·rw [if_neg c7] at H
        have c7b0 : ((rd l0 x5_1) == (rd l1 x5_1)) = false := beq_eq_false_iff_ne.mpr c7
        have c7b1 : ((rd l0 x5_1) != (rd l1 x5_1)) = true := bne_iff_ne.mpr c7
        obtain rfl := Option.some.inj H
        have p101 : 0 ≤ (x5_1 : Int) := of_decide_eq_true (by first|(with_reducible assumption)|assumption)
        have q101 : x5_1 < (l0.length : Int) := of_decide_eq_true (by first|(with_reducible assumption)|assumption)
        obtain ⟨ad101, e101, hx101_0⟩ := Kd.at_int HR0.out x5_1 p101 q101
        cases e101
        replace p101 := eq_true p101
        replace q101 := eq_true q101
        have p102 : 0 ≤ (x5_1 : Int) := of_decide_eq_true (by first|(with_reducible assumption)|assumption)
        have q102 : x5_1 < (l1.length : Int) := of_decide_eq_true (by first|(with_reducible assumption)|assumption)
        obtain ⟨ad102, e102, hx102_0⟩ := Kd.at_int HR1.out x5_1 p102 q102
        cases e102
        replace p102 := eq_true p102
        replace q102 := eq_true q102
        go_wp2
        repeat (go_quiet (fail);try go_wp2)
        go_ret
        exact ⟨by first|rfl|(simp;done)|(simp [*];done), by repeat (first|exact Drawn0.refl _|apply Drawn0.step)⟩
      ·rw [if_neg c6] at H
       exact absurd H (by simp)
     ·rw [if_neg c5] at H
      exact absurd H (by simp)
    ·rw [if_neg c4] at H
     have c4b0 : decide (x5_1 < (l0.length : Int)) = false := decide_eq_false c4
     clear c4
     obtain rfl := Option.some.inj H
     go_wp2
     repeat (go_quiet (fail);try go_wp2)
     go_ret
     exact ⟨by first|rfl|(simp;done)|(simp [*];done), by repeat (first|exact Drawn0.refl _|apply Drawn0.step)⟩
 ·rw [if_neg c3] at H
  have c3b0 : ((l0.length : Int) == (l1.length : Int)) = false := beq_eq_false_iff_ne.mpr c3
  have c3b1 : ((l0.length : Int) != (l1.length : Int)) = true := bne_iff_ne.mpr c3
  have c3b2 : (l0.length == l1.length) = false := by first|simpa using c3|(simp at c3 ⊢;omega)
  obtain rfl := Option.some.inj H
  go_enter Try.func27, Try.ntmps27
  go_wp2
  repeat (go_quiet (fail);try go_wp2)
  go_ret
  exact ⟨by first|rfl|(simp;done)|(simp [*];done), by repeat (first|exact Drawn0.refl _|apply Drawn0.step)⟩
end Go.Proofs.Yteipfcflijdapaa.F
end
section
namespace Go.Proofs.Yteipfcflijdapaa.F
open Go.RowKit Go.Proofs.YteipfcflijdapaaW.PrintWords Go.Proofs.YteipfcflijdapaaW.PrintLast Go.Proofs.YteipfcflijdapaaW.PrintMore
set_option linter.unusedSimpArgs false
set_option linter.unusedVariables false
theorem last_mono {P : Program} {md : Region.Mode} {ops : Array Oper} {Q : Exit → Act → World → Prop} {S S2 : World → Prop} : ∀ {fuel : Nat} {l : Array Bool} {a : Act} {w : World}, S2 w → (∀ w', S2 w' → S w') → wpAnyLast P md ops Q S2 [] fuel l a w → wpAnyLast P md ops Q S [] fuel l a w := by
  intro fuel
  induction fuel with
  | zero => intro l a w _ _ h; exact h
  | succ fuel ih =>
    intro l a w h2 hi h
    refine ⟨h.1, fun i hr => ?_⟩
    refine wpOp_mono ?_ (h.2 i hr)
    intro a' w' ⟨hs, hn⟩
    have h3 := hs (by simp) h2
    exact ⟨fun _ _ => hi _ h3, ih h3 hi hn⟩
end Go.Proofs.Yteipfcflijdapaa.F
end
section
namespace Go.Proofs.Yteipfcflijdapaa.F
open Go.RowKit Go.Proofs.YteipfcflijdapaaW.PrintWords Go.Proofs.YteipfcflijdapaaW.PrintLast Go.Proofs.YteipfcflijdapaaW.PrintMore
set_option linter.unusedSimpArgs false
set_option linter.unusedVariables false
theorem infoC : (Try.prog.info? 73).map (fun i => (i.zero, i.size, i.bytes)) = some (some (.agg #[.int .u64 0, .int .i64 0]), (k73).sz, 16) := by kernel_rfl
def Sd (base : Nat) (W : World) (g : Nat) (v : Value) (cs : List S73) : Prop :=
  W.heap[g]? = some (.cells #[v] 71 (0, 0)) ∧ base ≤ g ∧ Kd.R k73 73 W base (fun _ => True) v cs
theorem Sd.below {base : Nat} {W W' : World} {g : Nat} {v : Value} {cs : List S73} (h : Sd base W g v cs) (hb : Below W.heap.size W W') : Sd base W' g v cs :=
  ⟨blk_below h.1 hb, h.2.1, Kd.R_below h.2.2 hb⟩
theorem V_ofR {α : Type} {d : Kd α} {e e2 b b2 n c : Nat} {W : World} {A : Option Addr} {xs : List α} (h : Kd.R d e W b (fun _ => True) (.slice A n c) xs) : Kd.V d e2 W b2 (fun _ => True) (.slice A xs.length c) xs := by
  obtain ⟨hn, hc, _⟩ := Kd.R_reads' h
  refine Kd.V_mk (by omega) (fun W' hW => ?_)
  have := (Kd.R_reads' (Kd.R_step h (fun k hk hlt => hW k hk hlt))).2.2
  exact this
theorem Sd.put {base : Nat} {W : World} {g : Nat} {v0 v : Value} {cs : List S73} (h : W.heap[g]? = some (.cells #[v0] 71 (0, 0))) (hg : base ≤ g) (hR : Kd.R k73 73 W base (fun _ => True) v cs) : Sd base (W.setCell ⟨g, 0, none⟩ v) g v cs :=
  ⟨blk_put h 0 v rfl, hg, Kd.R_mono (Kd.R_far (Kd.R_types hR h (by decide)) (fun _ hk => hk.2) v) (fun _ _ => trivial)⟩
set_option maxHeartbeats 4000000 in
set_option maxRecDepth 100000 in
theorem stride_New.own (K : Nat) (A : Option Addr) (c : Nat) (l : List Int) (t : Int) (w : World) (hr : Kd.C (Kd.int .u64) w A l.length l) (hc : l.length ≤ c) (hl : l.length ≤ 32) (h : span_Total.f K l = some (t, true)) (ht : t ≠ 0) :
    Calls Try.prog 8 #[.slice A l.length c] w fun e w' => ∃ g v, e = .returned (.tuple #[.pointer (some ⟨g, 0, none⟩), .int .i64 0]) ∧ Sd w.heap.size w' g v (l.map fun x => ⟨x, 0⟩) ∧ Below w.heap.size w w' := by
  have hu := Try.underlying71
  have hu2 := Try.underlying73
  have HR := Aside0.mk hr
  have HC := Aside0.mk hc
  have HT := Aside0.mk h
  have HL := Aside0.mk hl
  have b1 : decide (32 < (l.length : Int)) = false := decide_eq_false (by omega)
  have b2 : decide (32 < l.length) = false := decide_eq_false (by omega)
  have b3 : (t == 0) = false := beq_eq_false_iff_ne.mpr ht
  clear hr hc h ht
  go_enter Try.func8, Try.ntmps8
  go_wp2_with (go_at_call 37; refine (span_Total.calls K A c l t true _ HR.out HC.out HT.out).mono ?_; rintro e w1 ⟨rfl, hb⟩; have HB := Aside0.mk hb; clear hb)
  have HN := Aside0.mk (show (w1.alloc (.cells #[.slice none 0 0] 71)).heap[w1.heap.size]? = some (.cells #[.slice none 0 0] 71 (0, 0)) from heap_alloc_new _ _)
  have HB0 := Aside0.mk (below_alloc HB.out (.cells #[.slice none 0 0] 71))
  go_loopg [27] (l.length + 1) (fun kq v27 W => ∃ (j : Nat) (v : Value), j ≤ l.length ∧ l.length - j < kq ∧ v27 = .int .i64 (j : Int) ∧ Aside0 (Sd w.heap.size W w1.heap.size v ((l.take j).map fun x => ⟨x, 0⟩)) ∧ Aside0 (Below w.heap.size w W))
  case atStart => exact ⟨0, .slice none 0 0, Nat.zero_le _, by omega, rfl, ⟨HN.out, HB.out.size, Kd.R_nil _ _ _ _ _⟩, HB0⟩
  case round =>
    clear HN HB0
    obtain ⟨j, v, hj0, hj1, rfl, HS, HW⟩ := hrel
    cases gk with
    | zero => exact absurd hj1 (by omega)
    | succ gk =>
      by_cases hlt : j < l.length
      · have c1 : decide ((j : Int) < (l.length : Int)) = true := decide_eq_true (by omega)
        have c2 : decide (j < l.length) = true := decide_eq_true hlt
        have c3 : decide (0 ≤ (j : Int)) = true := decide_eq_true (by omega)
        obtain ⟨ad, rfl, hx⟩ := Kd.at_int (Kd.C_below HR.out HW.out) (j : Int) (by omega) (by omega)
        rw [Int.toNat_natCast] at hx
        have he : l.take (j + 1) = l.take j ++ [rd l (j : Int)] := by
          rw [List.take_succ_eq_append_getElem hlt]
          unfold rd
          rw [Int.toNat_natCast, List.getD_eq_getElem?_getD, List.getElem?_eq_getElem hlt]; rfl
        have HE := Aside0.mk he
        generalize rd l (j : Int) = x at hx HE
        obtain ⟨Av, cv, rfl⟩ := Kd.R_slice HS.out.2.2
        have hg0 := (blk_cell HS.out.1 0).trans rfl
        have hf0 := blk_frozen HS.out.1 0
        have hln : ((l.take j).map fun y => (⟨y, 0⟩ : S73)).length = j := by rw [List.length_map, List.length_take]; omega
        have HLN := Aside0.mk hln
        clear he hln
        generalize hD : ((l.take j).map fun y => (⟨y, 0⟩ : S73)) = D at HS HLN hg0
        have HD := Aside0.mk hD
        clear hD
        go_wp2_with ((with_reducible refine gate_builtin (b := .append) (xs := #[.tmp 35, .tmp 38]) rfl ?_);(at_builtin;refine Kd.R_append k73 (w0 := w) w.heap.size rfl (.tmp 35) (.tmp 38) 69 73 (.agg #[(.int .u64 0), (.int .i64 0)]) 16 rfl Try.underlying69 infoC rfl (by decide) (by omega) (.slice Av D.length cv) D (⟨x, 0⟩ : S73) [.int .u64 x, .int .i64 0] (fun _ => True) (fun _ => False) rfl (by first|(go_simp;done)|(go_simp;rfl)) ?aP (fun _ hk => hk.elim) (fun _ _ => trivial) ?aO ?aB ?aS ?aL ?_;(case aP => exact k73_mkM _ _ _ ⟨x, 0⟩);(case aB => exact HW.out);(case aO => exact HS.out.2.2);(case aS => exact HW.out.size);(case aL => have := HL.out;have := HLN.out;omega);intro v3 w3 ho hb hg hat;obtain ⟨A3, c3_, rfl⟩ := Kd.R_slice ho;have hb2 := blk_grown HS.out.1 hg (Kd.R_ne HS.out.2.2 HS.out.1 (by decide));have k0 := (blk_cell hb2 0).trans rfl;have kf := blk_frozen hb2 0;have HH := Aside0.mk hb2;have HO := Aside0.mk ho;have HW3 := Aside0.mk hb;clear ho hb hg hat hb2 hg0 hf0))
        go_roundg gk
        case measure => omega
        case rel =>
          refine ⟨j + 1, .slice A3 (D.length + 1) c3_, hlt, by omega, by rw [Int.natCast_add]; rfl, ⟨?_⟩, ⟨below_set HW3.out HB.out.size⟩⟩
          have hm : (l.take (j + 1)).map (fun y => (⟨y, 0⟩ : S73)) = D ++ [⟨x, 0⟩] := by rw [HE.out, List.map_append, HD.out]; rfl
          rw [hm]
          refine Sd.put HH.out HB.out.size ?_
          have := HO.out
          rw [List.length_append] at this
          exact this
      · have c1 : decide ((j : Int) < (l.length : Int)) = false := decide_eq_false (by omega)
        have c2 : decide (j < l.length) = false := decide_eq_false hlt
        have e0 : l.take j = l := List.take_of_length_le (by omega)
        have E0 := Aside0.mk e0
        clear e0
        go_wp2
        go_ret2
        exact ⟨_, v, rfl, by have := HS.out; rw [E0.out] at this; exact ⟨this.1, HB.out.size, this.2.2⟩, HW.out⟩
theorem Sd.at {base : Nat} {W : World} {g : Nat} {v : Value} {cs : List S73} (h : Sd base W g v cs) : ∃ A c, v = .slice A cs.length c ∧ Kd.C k73 W A cs.length cs := by
  obtain ⟨A, c, rfl⟩ := Kd.R_slice h.2.2
  exact ⟨A, c, rfl, (Kd.R_reads' h.2.2).2.2⟩
theorem Sd.elem {base : Nat} {W : World} {g : Nat} {v : Value} {cs : List S73} (h : Sd base W g v cs) (i : Nat) (hi : i < cs.length) : ∃ ad c, v = .slice (some ad) cs.length c ∧
    W.cell? (ad.add (i * 2)) = some (.int .u64 (rd_T73 cs (i : Int)).f0) ∧ W.cell? ⟨(ad.add (i * 2)).block, (ad.add (i * 2)).off + 1, none⟩ = some (.int .i64 (rd_T73 cs (i : Int)).f1) ∧
    W.frozen? ⟨(ad.add (i * 2)).block, (ad.add (i * 2)).off + 1, none⟩ = false ∧
    ∀ n : Int, Sd base (W.setCell ⟨(ad.add (i * 2)).block, (ad.add (i * 2)).off + 1, none⟩ (.int .i64 n)) g v (cs.set i ⟨(rd_T73 cs (i : Int)).f0, n⟩) ∧ KeepBut W (W.setCell ⟨(ad.add (i * 2)).block, (ad.add (i * 2)).off + 1, none⟩ (.int .i64 n)) g v.ownBlock ∧ Below base W (W.setCell ⟨(ad.add (i * 2)).block, (ad.add (i * 2)).off + 1, none⟩ (.int .i64 n)) := by
  obtain ⟨A, c, rfl⟩ := Kd.R_slice h.2.2
  obtain ⟨inner, ho⟩ := Kd.R_own h.2.2
  rcases ho.2 with ⟨hv, _⟩ | ⟨ga, cap', cur, hv, hb, hh, hnc, hcm, hcs, ht⟩
  · injection hv with ha _ hc
    obtain ⟨ad, hA, _⟩ := at_T73 (Kd.R_reads' h.2.2).2.2 (i : Int) (by omega) (by omega)
    rw [hA] at ha; cases ha
  injection hv with ha _ hc
  subst hc
  subst ha
  obtain ⟨cc, h1, h2, h3, h4⟩ := Kd.R_elem h.2.2 z73 (i : Int) (by omega) (by omega)
  have e := k73_openM h2
  rw [Int.toNat_natCast] at h2 h3 h4 e
  have hz : (k73).sz = 2 := rfl
  rw [hz] at h3 h4
  subst e
  have ea : (⟨ga, 0, none⟩ : Addr).add (i * 2) = ⟨ga, i * 2, none⟩ := by rw [add_plain]
  refine ⟨⟨ga, 0, none⟩, c, rfl, ?_, ?_, ?_, fun n => ?_⟩
  all_goals rw [ea]
  · have := h3 0 _ rfl
    simpa [rd_T73] using this
  · have := h3 1 _ rfl
    simpa [rd_T73] using this
  · have := h4 1
    exact this
  · have hs := Kd.R_seg h.2.2 (i : Int) (by omega) (by omega) (seg := [.int .i64 n]) (j := 1) (x' := ⟨(rd_T73 cs (i : Int)).f0, n⟩) (okp := fun k => k ≠ ga) h1 (by rw [Int.toNat_natCast]; exact h3) (by rw [hz]; simp) (by have := k73_mkM W base (fun k => k ≠ ga) ⟨(rd_T73 cs (i : Int)).f0, n⟩; simpa [rd_T73] using this) (fun k hk => ⟨trivial, hk⟩)
    rw [Int.toNat_natCast] at hs
    have hne : g ≠ ga := by
      rintro rfl
      exact Kd.R_ne h.2.2 h.1 (by decide) rfl
    have e2 : W.setCells ga (i * (k73).sz + 1) [.int .i64 n] = W.setCell ⟨ga, i * 2 + 1, none⟩ (.int .i64 n) := rfl
    rw [e2] at hs
    refine ⟨⟨blk_far h.1 hne _, h.2.1, ?_⟩, KeepBut.of_grown hs.2 g, (Below.refl base W).setCell hb _⟩
    exact hs.1
end Go.Proofs.Yteipfcflijdapaa.F
end
