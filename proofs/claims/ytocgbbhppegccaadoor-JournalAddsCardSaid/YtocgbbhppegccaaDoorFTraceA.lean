-- Cut for this claim by a program (wip/prune.py) out of the texts that its bench laid or wrote
import Derived.Test.YtocgbbhppegccaaDoorFJournalA
import Derived.Test.YtocgbbhppegccaaDoorWFoot
import Derived.Test.YtocgbbhppegccaaDoorProg
import Derived.WalkKit
import Derived.Below
import Derived.Deep.RegionWith
import Derived.Test.YtocgbbhppegccaaDoorFJournalB
section
namespace Go.Proofs.YtocgbbhppegccaaDoor.F
open Go.RowKit Go.Proofs.YtocgbbhppegccaaDoorW.PrintWords Go.Proofs.YtocgbbhppegccaaDoorW.PrintLast Go.Proofs.YtocgbbhppegccaaDoorW.PrintMore
attribute [local go_sem] max2_int min2_int max_two min_two max_three min_three max_four min_four
set_option linter.unusedVariables false
set_option linter.unusedSimpArgs false
def slices_Clone_byte_byte.f (l : List (Int)) : Option (List (Int)) := if l.length ≤ 1099511627776 then some l else none
set_option maxHeartbeats 4000000 in
set_option maxRecDepth 100000 in
theorem slices_Clone_byte_byte.calls (A0 : Option Addr) (c0 : Nat) (l0 : List (Int)) (r : List (Int)) (w : World) (hr0 : Kd.C (Kd.int .u8) w A0 l0.length l0) (hc0 : l0.length ≤ c0) (h : slices_Clone_byte_byte.f l0 = some r) :
  Calls Tryd.prog 19 #[.slice A0 l0.length c0] w fun e w' => ∃ v0_ : Value, e = .returned v0_ ∧ Kd.R (Kd.int .u8) 5 w' w.heap.size (fun _ => True) v0_ r ∧ Below w.heap.size w w' := by
 unfold slices_Clone_byte_byte.f at h
 by_cases hl : l0.length ≤ 1099511627776
 case neg => rw [if_neg hl] at h;cases h
 rw [if_pos hl] at h
 obtain rfl := Option.some.inj h
 have HR := Aside0.mk hr0
 have HC := Aside0.mk hc0
 have HL := Aside0.mk hl
 clear hr0 hc0 hl h
 cases A0 with
 | none =>
  have hnil : l0 = [] := by
   have hn := HR.out.1
   cases l0 with
   | nil => rfl
   | cons x l =>
    exfalso
    obtain ⟨ad, cs, e, _⟩ := ReadsRow.get_ HR.out x 0 (by omega) (by simp)
    cases e
  subst hnil
  have hcmp : ∀ (W : World), (binOp BinOp.eql 30 (.slice none 0 c0) (.slice none 0 0)).run Tryd.prog W = .ok (.bool true) W := fun W => by kernel_rfl
  go_enter Tryd.func19, Tryd.ntmps19
  go_wp2
  go_ret
  exact ⟨_, rfl, Kd.R_nil _ _ _ _ _, Below.refl _ _⟩
 | some ad =>
  have hcmp : ∀ (W : World) (n : Nat), (binOp BinOp.eql 30 (.slice (some ad) n c0) (.slice none 0 0)).run Tryd.prog W = .ok (.bool false) W := fun W n => by kernel_rfl
  go_enter Tryd.func19, Tryd.ntmps19
  go_wp2_with (first|((with_reducible refine gate_dst (N := 5) rfl ?_);(try (refine gate_guard (by rfl) ?_;dsimp only));refine Kd.R_lit (Kd.int .u8) _ 5 ?hg (N := 5) ?hd (xs := ([] : List (Int))) (inner := []) (ok := fun _ => True) (okp := fun _ => True) ?hr ?hp (fun _ hk => hk) trivial (Below.refl _ _) (Nat.le_refl _) (by simp) ?_;(case hd => rfl);(case hg => rfl);(case hr => first|(go_simp;done)|(go_simp;rfl));(case hp => exact (Reps.none _ _));intro v1 w1 ho1 hb1 hg_ hnew_;clear hg_ hnew_;have HB := Aside0.mk hb1;have HO := Aside0.mk ho1;clear hb1 ho1)|((with_reducible refine gate_builtin (b := .append) (xs := #[.tmp 5, .tmp 6]) rfl ?_);(try (refine gate_guard (by rfl) ?_;dsimp only));at_builtin;refine Kd.R_append_rows (Kd.int .u8) (w0 := w) w.heap.size rfl (.tmp 5) (.tmp 6) 30 5 (.int .u8 0) _ rfl Tryd.underlying30 info5 rfl (by decide) (by omega) v1 [] l0 _ _ _ (fun _ => True) (fun _ => False) rfl rfl ?aO ?aR (fun _ _ h => h) (fun _ h => h.elim) ?aF ?aB ?aS ?aL ?_;(case aR => exact Kd.C_below HR.out HB.out);(case aB => exact HB.out);(case aF => exact (fun _ _ => trivial));(case aO => exact HO.out);(case aS => exact HB.out.size);(case aL => have := HL.out;simp only [List.length_nil];omega);intro v2 w2 ho hb hg hat;have HB2 := Aside0.mk (hb);have HO2 := Aside0.mk (ho);clear HO HB ho hb hg hat))
  go_ret
  exact ⟨_, rfl, HO2.out, HB2.out⟩
end Go.Proofs.YtocgbbhppegccaaDoor.F
end
section
namespace Go.Proofs.YtocgbbhppegccaaDoor.F
open Go.RowKit Go.Proofs.YtocgbbhppegccaaDoorW.PrintWords Go.Proofs.YtocgbbhppegccaaDoorW.PrintLast Go.Proofs.YtocgbbhppegccaaDoorW.PrintMore
set_option linter.unusedSimpArgs false
set_option linter.unusedVariables false
def nameTab : List ByteArray := [⟨#[]⟩, ⟨#[109, 105, 110, 116]⟩, ⟨#[109, 101, 108, 116]⟩, ⟨#[105, 115, 115, 117, 101]⟩, ⟨#[114, 101, 118, 111, 107, 101]⟩, ⟨#[102, 117, 110, 100]⟩, ⟨#[117, 110, 102, 117, 110, 100]⟩, ⟨#[111, 110]⟩, ⟨#[111, 102, 102]⟩, ⟨#[97, 109, 111, 117, 110, 116]⟩, ⟨#[115, 112, 97, 119, 110]⟩, ⟨#[101, 110, 100]⟩, ⟨#[119, 97, 107, 101]⟩, ⟨#[115, 116, 111, 112]⟩, ⟨#[100, 114, 97, 119]⟩, ⟨#[121, 105, 101, 108, 100]⟩, ⟨#[115, 108, 101, 101, 112]⟩, ⟨#[99, 97, 108, 108]⟩, ⟨#[108, 105, 115, 116, 101, 110]⟩, ⟨#[114, 101, 112, 108, 121]⟩, ⟨#[108, 111, 99, 107]⟩, ⟨#[117, 110, 108, 111, 99, 107]⟩, ⟨#[109, 97, 107, 101]⟩, ⟨#[115, 99, 114, 97, 112]⟩]
def Tab (w : World) : Prop := 0 < w.heap.size ∧ ∀ j, j < 24 → w.cell? ⟨0, j, none⟩ = some (.string (nameTab.getD j ⟨#[]⟩))
theorem Tab.later {w W : World} (h : Aside0 (Tab w)) (hb : Below w.heap.size w W) : Aside0 (Tab W) :=
  ⟨⟨Nat.lt_of_lt_of_le h.out.1 hb.size, fun j hj => (hb.cell (p := ⟨0, j, none⟩) h.out.1).trans (h.out.2 j hj)⟩⟩
def nameOf (a : Int) : ByteArray := if 0 < a ∧ a < 24 then nameTab.getD a.toNat ⟨#[]⟩ else ⟨#[]⟩
set_option maxHeartbeats 4000000 in
set_option maxRecDepth 100000 in
theorem known_own (a : Int) (w : World) : Calls Tryd.prog 26 #[.int .i64 a] w fun e w' => e = .returned (.bool (decide (0 < a ∧ a < 24))) ∧ w' = w := by
  by_cases h : 0 < a
  · have b0 : decide (0 < a) = true := decide_eq_true h
    by_cases h2 : a < 24
    · have b1 : decide (a < 24) = true := decide_eq_true h2
      rw [show decide (0 < a ∧ a < 24) = true from decide_eq_true ⟨h, h2⟩]
      clear h h2
      go_enter Tryd.func26, Tryd.ntmps26
      go_wp2
      go_ret
      exact ⟨rfl, rfl⟩
    · have b1 : decide (a < 24) = false := decide_eq_false h2
      rw [show decide (0 < a ∧ a < 24) = false from decide_eq_false (fun q => h2 q.2)]
      clear h h2
      go_enter Tryd.func26, Tryd.ntmps26
      go_wp2
      go_ret
      exact ⟨rfl, rfl⟩
  · have b0 : decide (0 < a) = false := decide_eq_false h
    rw [show decide (0 < a ∧ a < 24) = false from decide_eq_false (fun q => h q.1)]
    clear h
    go_enter Tryd.func26, Tryd.ntmps26
    go_wp2
    go_ret
    exact ⟨rfl, rfl⟩
set_option maxHeartbeats 4000000 in
set_option maxRecDepth 100000 in
theorem trace_Name.own (a : Int) (w : World) (HT : Aside0 (Tab w)) :
    Calls Tryd.prog 18 #[.int .i64 a] w fun e w' => e = .returned (.string (nameOf a)) ∧ Drawn0 w w' := by
  by_cases hk : 0 < a ∧ a < 24
  · have e : nameOf a = nameTab.getD a.toNat ⟨#[]⟩ := by unfold nameOf; rw [if_pos hk]
    rw [e]
    obtain ⟨h0, h1⟩ := hk
    obtain ⟨n, rfl⟩ : ∃ n : Nat, a = (n : Int) := ⟨a.toNat, by omega⟩
    have hn : n < 24 := by omega
    rw [Int.toNat_natCast]
    have hc := HT.out.2 n hn
    have hd : decide (0 < (n : Int) ∧ (n : Int) < 24) = true := decide_eq_true ⟨h0, h1⟩
    have K2 := Aside0.mk (fun w => known_own (n : Int) w)
    rw [hd] at K2
    generalize nameTab.getD n ⟨#[]⟩ = s at hc ⊢
    clear e hd h0 h1 HT
    go_enter Tryd.func18, Tryd.ntmps18
    go_wp2_with (go_at_call 26; refine (K2.out _).mono ?_; rintro e w9 ⟨rfl, rfl⟩)
    go_ret
    exact ⟨rfl, by repeat (first | exact Drawn0.refl _ | apply Drawn0.step)⟩
  · have hd : decide (0 < a ∧ a < 24) = false := decide_eq_false hk
    have K2 := Aside0.mk (fun w => known_own a w)
    rw [hd] at K2
    have e : nameOf a = ⟨#[]⟩ := by unfold nameOf; rw [if_neg hk]
    rw [e]
    clear e hd hk HT
    go_enter Tryd.func18, Tryd.ntmps18
    go_wp2_with (go_at_call 26; refine (K2.out _).mono ?_; rintro e w9 ⟨rfl, rfl⟩)
    go_ret
    exact ⟨rfl, by repeat (first | exact Drawn0.refl _ | apply Drawn0.step)⟩
end Go.Proofs.YtocgbbhppegccaaDoor.F
end
section
namespace Go.Proofs.YtocgbbhppegccaaDoor.F
open Go.RowKit Go.Proofs.YtocgbbhppegccaaDoorW.PrintWords Go.Proofs.YtocgbbhppegccaaDoorW.PrintLast Go.Proofs.YtocgbbhppegccaaDoorW.PrintMore
set_option linter.unusedSimpArgs false
set_option linter.unusedVariables false
def Jr (base : Nat) (ok : Nat → Prop) (W : World) (g : Nat) (v : Value) (l : List Int) (s : Int) : Prop :=
  W.heap[g]? = some (.cells #[v, .int .u64 s] 45 (0, 0)) ∧ base ≤ g ∧ Kd.R (Kd.int .u8) 5 W base ok v l
theorem Jr.facts {base : Nat} {ok : Nat → Prop} {W : World} {g : Nat} {v : Value} {l : List Int} {s : Int} (h : Jr base ok W g v l s) :
    ∃ A c, v = .slice A l.length c ∧ l.length ≤ c ∧ Kd.C (Kd.int .u8) W A l.length l ∧ W.cell? ⟨g, 0, none⟩ = some (.slice A l.length c) ∧ W.cell? ⟨g, 1, none⟩ = some (.int .u64 s) ∧ W.frozen? ⟨g, 0, none⟩ = false ∧ W.frozen? ⟨g, 1, none⟩ = false := by
  obtain ⟨hb, hg, hR⟩ := h
  obtain ⟨A, c, rfl, hc, hC⟩ := Kd.R_reads hR
  exact ⟨A, c, rfl, hc, hC, (blk_cell hb 0).trans rfl, (blk_cell hb 1).trans rfl, blk_frozen hb 0, blk_frozen hb 1⟩
theorem Jr.cells {base : Nat} {ok : Nat → Prop} {W : World} {g : Nat} {v : Value} {l : List Int} {s : Int} (h : Jr base ok W g v l s) :
    W.cell? ⟨g, 0, none⟩ = some v ∧ W.cell? ⟨g, 1, none⟩ = some (.int .u64 s) ∧ W.frozen? ⟨g, 0, none⟩ = false ∧ W.frozen? ⟨g, 1, none⟩ = false := by
  obtain ⟨hb, _, _⟩ := h
  exact ⟨(blk_cell hb 0).trans rfl, (blk_cell hb 1).trans rfl, blk_frozen hb 0, blk_frozen hb 1⟩
theorem Jr.below {base : Nat} {ok : Nat → Prop} {W W' : World} {g : Nat} {v : Value} {l : List Int} {s : Int} (h : Jr base ok W g v l s) (hb : Below W.heap.size W W') : Jr base ok W' g v l s :=
  ⟨blk_below h.1 hb, h.2.1, Kd.R_below h.2.2 hb⟩
set_option maxHeartbeats 4000000 in
set_option maxRecDepth 100000 in
theorem journal_New.own (w : World) : Calls Tryd.prog 7 #[] w fun e w' => ∃ g, e = .returned (.pointer (some ⟨g, 0, none⟩)) ∧ Jr w.heap.size (fun _ => True) w' g (.slice none 0 0) [] 0 ∧ Below w.heap.size w w' := by
  have hu := Tryd.underlying45
  go_enter Tryd.func7, Tryd.ntmps7
  go_wp2
  go_ret
  refine ⟨_, rfl, ⟨?_, Nat.le_refl _, Kd.R_nil _ _ _ _ _⟩, below_alloc (Below.refl _ _) _⟩
  simpa using heap_alloc_new _ _
set_option maxHeartbeats 4000000 in
set_option maxRecDepth 100000 in
theorem journal_Journal_Len.own {base : Nat} {ok : Nat → Prop} {w : World} {g : Nat} {v : Value} {l : List Int} {s : Int} (h : Jr base ok w g v l s) (hl : l.length ≤ 1099511627776) :
    Calls Tryd.prog 12 #[.pointer (some ⟨g, 0, none⟩)] w fun e w' => e = .returned (.int .i64 ((l.length : Int) / 33)) ∧ Drawn0 w w' := by
  obtain ⟨A, c, rfl, hc, hC, h0, h1, f0, f1⟩ := h.facts
  have HL : Aside0 (wrap64 ((l.length : Int) / 33) = (l.length : Int) / 33) := ⟨by unfold wrap64; omega⟩
  clear h hc hC hl
  go_enter Tryd.func12, Tryd.ntmps12
  go_wp2
  repeat (go_quiet (fail);try go_wp2)
  go_ret
  exact ⟨by simp; exact HL.out, by repeat (first | exact Drawn0.refl _ | apply Drawn0.step)⟩
set_option maxHeartbeats 4000000 in
set_option maxRecDepth 100000 in
theorem journal_Journal_Bytes.own {base : Nat} {ok : Nat → Prop} {w : World} {g : Nat} {v : Value} {l : List Int} {s : Int} (h : Jr base ok w g v l s) (hl : l.length ≤ 1099511627776) :
    Calls Tryd.prog 9 #[.pointer (some ⟨g, 0, none⟩)] w fun e w' => ∃ u, e = .returned u ∧ Kd.R (Kd.int .u8) 5 w' w.heap.size (fun _ => True) u l ∧ Below w.heap.size w w' := by
  obtain ⟨A, c, rfl, hc, hC, h0, h1, f0, f1⟩ := h.facts
  have HC := Aside0.mk hC
  have Hc := Aside0.mk hc
  have HF : Aside0 (slices_Clone_byte_byte.f l = some l) := ⟨if_pos hl⟩
  clear h hc hC h1 f1 hl
  go_enter Tryd.func9, Tryd.ntmps9
  go_wp2_with (go_at_call 19; refine (slices_Clone_byte_byte.calls A c l l _ HC.out Hc.out HF.out).mono ?_; rintro e w1 ⟨u, rfl, hR, hb⟩; have HR := Aside0.mk hR; have HB := Aside0.mk hb; clear hR hb)
  go_ret
  exact ⟨_, rfl, HR.out, HB.out⟩
set_option maxHeartbeats 4000000 in
set_option maxRecDepth 100000 in
theorem journal_Journal_Add.strange {base : Nat} {ok : Nat → Prop} {w : World} {g : Nat} {v : Value} {l : List Int} {s : Int} (a0 a1 a2 a3 : Int) (hk : (nameOf a0).toList = []) (HT : Aside0 (Tab w)) :
    Calls Tryd.prog 8 #[.pointer (some ⟨g, 0, none⟩), .agg #[.int .i64 a0, .int .i64 a1, .int .i64 a2, .int .i64 a3]] w fun e w' => e = .returned (.int .i64 8) ∧ Below w.heap.size w w' := by
  have hu := Tryd.underlying29
  have hk2 : ((nameOf a0).toList == ([] : List UInt8)) = true := beq_iff_eq.mpr hk
  generalize hx : nameOf a0 = x at hk hk2
  have HX := Aside0.mk hx
  clear hk hx
  go_enter Tryd.func8, Tryd.ntmps8
  go_wp2_with (go_at_call 18; refine (trace_Name.own a0 _ (Tab.later HT (by repeat (first | exact Below.refl _ _ | apply below_alloc | apply pw_below_drewN)))).mono ?_; rintro e w9 ⟨rfl, ⟨nd, rfl⟩⟩; rw [HX.out])
  go_ret
  exact ⟨rfl, by repeat (first | exact Below.refl _ _ | apply below_alloc | apply pw_below_drewN)⟩
set_option maxHeartbeats 4000000 in
set_option maxRecDepth 100000 in
theorem journal_Journal_Add.own {base : Nat} {ok : Nat → Prop} {w : World} {g : Nat} {v : Value} {l : List Int} {s : Int} (k : Nat) (a0 a1 a2 a3 : Int) (bs : List Int) (s' : Int) (h : Jr base ok w g v l s) (hfr : ∀ k, w.heap.size ≤ k → ok k) (hk : (nameOf a0).toList ≠ []) (hl : l.length ≤ 1000000) (hbl : bs.length ≤ 1000000) (hf : (l.length : Int) / 33 < 4096) (hF : journal_Frame.f k s a0 a1 a2 a3 = some (bs, s')) (HT : Aside0 (Tab w)) :
    Calls Tryd.prog 8 #[.pointer (some ⟨g, 0, none⟩), .agg #[.int .i64 a0, .int .i64 a1, .int .i64 a2, .int .i64 a3]] w fun e w' => e = .returned (.int .i64 0) ∧ ∃ v', Jr base ok w' g v' (l ++ bs) s' ∧ KeepBut w w' g v.ownBlock ∧ Below base w w' ∧ (v'.ownBlock = v.ownBlock ∨ ∃ b, v'.ownBlock = some b ∧ w.heap.size ≤ b) := by
  have hu := Tryd.underlying29
  have hk2 : ((nameOf a0).toList == ([] : List UInt8)) = false := beq_eq_false_iff_ne.mpr hk
  have HS := Aside0.mk h
  have HL := Aside0.mk hl
  have HBL := Aside0.mk hbl
  have HFr := Aside0.mk hF
  have HOK := Aside0.mk hfr
  generalize hx : nameOf a0 = x at hk hk2
  have HX := Aside0.mk hx
  have b1 : decide (4096 ≤ (l.length : Int) / 33) = false := decide_eq_false (by omega)
  clear hk hx h hl hf hF hbl hfr
  go_enter Tryd.func8, Tryd.ntmps8
  go_upto_region 7 with (first
    | (go_at_call 18; refine (trace_Name.own a0 _ (Tab.later HT (by repeat (first | exact Below.refl _ _ | apply below_alloc | apply pw_below_drewN)))).mono ?_; rintro e w9 ⟨rfl, ⟨nd, rfl⟩⟩; rw [HX.out])
    | (go_at_call 12; refine (journal_Journal_Len.own (HS.out.below (by repeat (first | exact Below.refl _ _ | apply below_alloc | apply pw_below_drewN))) (by have := HL.out; omega)).mono ?_; rintro e w9 ⟨rfl, ⟨nd, rfl⟩⟩))
  have hgl : g < w.heap.size := blk_lt HS.out.1
  have hbase : base ≤ w.heap.size := Nat.le_trans HS.out.2.1 (Nat.le_of_lt hgl)
  obtain ⟨A, c, ev⟩ := Kd.R_slice HS.out.2.2
  subst ev
  obtain ⟨h0, h1, f0, f1⟩ := HS.out.cells
  clear f0 f1 h0
  have HBS := Aside0.mk hbase
  clear hbase
  go_region_with (go_at_call 14; refine (journal_Frame.calls k _ a0 a1 a2 a3 bs s' _ HFr.out).mono ?_; rintro e w1 ⟨u, rfl, hR, hb⟩; have HB1 := Aside0.mk (below_step (show Below w.heap.size w _ from by repeat (first | exact Below.refl _ _ | apply below_alloc | apply pw_below_drewN | apply below_drew1)) hb); have HS1 := Aside0.mk (HS.out.below HB1.out); have HU := Aside0.mk hR; clear hR hb; obtain ⟨Au, cu, eu⟩ := Kd.R_slice HU.out; subst eu; obtain ⟨k0, k1, q0, q1⟩ := HS1.out.cells)
  all_goals (try clear h1 hgl)
  all_goals (go_wp2_with ((with_reducible refine gate_builtin (b := .append) (xs := #[.tmp 33, .tmp 34]) rfl ?_);(try (refine gate_guard (by rfl) ?_;dsimp only));at_builtin;refine Kd.R_append_rows (Kd.int .u8) (w0 := w) base rfl (.tmp 33) (.tmp 34) 30 5 (.int .u8 0) 1 rfl Tryd.underlying30 info5 rfl (by decide) (by omega) _ l bs _ _ _ ok (fun _ => False) rfl rfl ?aO ?aR (fun _ _ h => h) (fun _ h => h.elim) ?aF ?aB ?aS ?aL ?_;(case aR => repeat (first|exact (Kd.R_reads' HU.out).2.2|(with_reducible refine Kd.C_alloc ?_ _)|(with_reducible refine Kd.C_drewN ?_ _)|(with_reducible refine Kd.C_drew ?_)));(case aB => exact (show Below base w _ from by repeat (first|exact HB1.out.mono HBS.out|apply below_drew|apply pw_below_drewN)));(case aF => exact fun k hk => HOK.out k (Nat.le_trans HB1.out.size hk));(case aO => exact (by (with_reducible repeat (first|apply Kd.R_alloc|apply Kd.R_drewN|apply Kd.R_drew));exact HS1.out.2.2));(case aS => exact Nat.le_trans HBS.out HB1.out.size);(case aL => have := HL.out;have := HBL.out;omega);intro v2 w2 ho hb hg hat;have HB2 := Aside0.mk (hb);have HO2 := Aside0.mk (ho);have HG2 := Aside0.mk hg;have HA2 := Aside0.mk hat;obtain ⟨A9, c9, rfl⟩ := Kd.R_slice ho;have hb2 := blk_grown (show _ from (by first|exact HS1.out.1|(repeat (first|refine blk_drewN ?_ _|refine blk_drew ?_));exact HS1.out.1)) hg (Kd.R_ne HS1.out.2.2 HS1.out.1 (by decide));have f2 := blk_frozen hb2 0;have c2 := (blk_cell hb2 0).trans rfl;have f3 := blk_frozen hb2 1;have c3 := (blk_cell hb2 1).trans rfl;have HH := Aside0.mk hb2;clear hb ho hg hat hb2 k0 q0))
  all_goals go_ret
  all_goals have e9 : (l ++ bs).length = l.length + bs.length := List.length_append
  all_goals rw [e9] at HO2 HA2
  all_goals refine ⟨rfl, .slice A9 (l.length + bs.length) c9, ⟨?_, HS1.out.2.1, ?_⟩, ?_, ?_, ?_⟩
  all_goals first
    | (have hx := HH.out; simpa using blk_set (blk_set hx 0 _) 1 _)
    | (have hx := HH.out; simpa using blk_set (blk_set hx 1 _) 0 _)
    | exact Kd.R_set (Kd.R_set HO2.out HH.out (by simp [Kd.int, Kd.scalar]) 0 _) (blk_set HH.out 0 _) (by simp [Kd.int, Kd.scalar]) 1 _
    | exact Kd.R_set (Kd.R_set HO2.out HH.out (by simp [Kd.int, Kd.scalar]) 1 _) (blk_set HH.out 1 _) (by simp [Kd.int, Kd.scalar]) 0 _
    | exact (((KeepBut.of_below HB1.out g _).trans (KeepBut.of_grown HG2.out g) (.inl rfl)).set_ 0 _).set_ 1 _
    | exact (((KeepBut.of_below HB1.out g _).trans (KeepBut.of_grown HG2.out g) (.inl rfl)).set_ 1 _).set_ 0 _
    | exact (HB2.out.setCell HS1.out.2.1 _).setCell HS1.out.2.1 _
    | exact HA2.out.imp_right fun ⟨b, h1, h2⟩ => ⟨b, h1, Nat.le_trans HB1.out.size h2⟩
end Go.Proofs.YtocgbbhppegccaaDoor.F
end
section
namespace Go.Proofs.YtocgbbhppegccaaDoor.F
open Go.RowKit Go.Proofs.YtocgbbhppegccaaDoorW.PrintWords Go.Proofs.YtocgbbhppegccaaDoorW.PrintLast Go.Proofs.YtocgbbhppegccaaDoorW.PrintMore
attribute [local go_sem] max2_int min2_int max_two min_two max_three min_three max_four min_four
set_option linter.unusedVariables false
set_option linter.unusedSimpArgs false
section
def trace_Name.f (a0 : Int) : Option ByteArray := some (nameOf a0)
theorem trace_Name.calls (a0 : Int) (r : ByteArray) (w : World) (h : trace_Name.f a0 = some r) (HT : Aside0 (Tab w)) :
  Calls Tryd.prog 18 #[.int .i64 a0] w fun e w' => e = .returned (.string r) ∧ Drawn0 w w' := by
 obtain rfl := Option.some.inj h
 exact trace_Name.own a0 w HT
end
end Go.Proofs.YtocgbbhppegccaaDoor.F
end
