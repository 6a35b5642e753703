import Derived.Test.YtogdooclldoomaaWirePureC
import Derived.Test.YtogdooclldoomaaWireBack
namespace Go.Proofs.Ytogdooclldoomaa.F
open Go.RowKit Go.Proofs.YtogdooclldoomaaW.PrintWords Go.Proofs.YtogdooclldoomaaW.PrintLast Go.Proofs.YtogdooclldoomaaW.PrintMore
set_option linter.unusedSimpArgs false
set_option linter.unusedVariables false
set_option maxHeartbeats 16000000 in
set_option maxRecDepth 100000 in
theorem wire_NewReader.own2 (A : Option Addr) (c : Nat) (l : List Int) (w : World) (hr : Kd.C (Kd.int .u8) w A l.length l) (hc : l.length ≤ c) (hl : l.length ≤ 1099511627776) :
    Calls Try.prog 57 #[.slice A l.length c] w fun e w' => ∃ g A' c', e = .returned (.pointer (some ⟨g, 0, none⟩)) ∧ w'.heap[g]? = some (.cells #[.slice A' l.length c', .int .i64 0] 114 (0, 0)) ∧ Kd.R (Kd.int .u8) 5 w' w.heap.size (fun k => w.heap.size ≤ k ∧ k < g) (.slice A' l.length c') l ∧ l.length ≤ c' ∧ Below w.heap.size w w' ∧ w.heap.size ≤ g := by
  have hu := Try.underlying114
  have HR := Aside0.mk hr
  have HC := Aside0.mk hc
  have HL : Aside0 (slices_Clone_byte_byte.f l = some l) := ⟨if_pos hl⟩
  clear hr hc hl
  go_enter Try.func57, Try.ntmps57
  go_wp2_with (go_at_call 79; refine (slices_Clone_byte_byte.calls A c l l _ HR.out HC.out HL.out).mono ?_; rintro e w1 ⟨v, rfl, hR, hb⟩; have HB := Aside0.mk hb; obtain ⟨A1, c1, rfl, hc1, hC1⟩ := Kd.R_reads hR; have HV := Aside0.mk hR; have HC1 := Aside0.mk hc1; clear hR hb hc1 hC1)
  go_ret
  have hb2 : Below w1.heap.size w1 (w1.alloc (.cells #[.slice A1 l.length c1, .int .i64 0] 114)) := below_alloc (Below.refl _ _) _
  exact ⟨_, A1, c1, rfl, by simpa using heap_alloc_new _ _, Kd.R_below (Kd.R_mono (Kd.R_bound HV.out) (fun k hk => ⟨hk.2.1, hk.2.2.1⟩)) hb2, HC1.out, HB.out.trans (hb2.mono HB.out.size), HB.out.size⟩
theorem mkRd {W : World} {g base : Nat} {ok : Nat → Prop} {A : Option Addr} {c : Nat} {l : List Int} {e : Int} (hb : W.heap[g]? = some (.cells #[.slice A l.length c, .int .i64 e] 114 (0, 0))) (hR : Kd.R (Kd.int .u8) 5 W base ok (.slice A l.length c) l) (hok : ∀ k, ok k → k < g) (hc : l.length ≤ c) : Rd (trunc W g) W g l e := by
  have hg := Nat.le_of_lt (blk_lt hb)
  exact ⟨A, c, hb, by rw [trunc_size hg]; exact Nat.le_refl _, (Kd.R_reads' (Kd.R_step hR (fun k hk _ => trunc_get hg (hok k hk)))).2.2, hc⟩
theorem mkR5 {W : World} {g base : Nat} {ok : Nat → Prop} {A : Option Addr} {c : Nat} {l : List Int} {at_ e : Int} (hb : W.heap[g]? = some (.cells #[.slice A l.length c, .int .i64 at_, .int .i64 e] 95 (0, 0))) (hR : Kd.R (Kd.int .u8) 5 W base ok (.slice A l.length c) l) (hok : ∀ k, ok k → k < g) : R5 W g l at_ e := by
  have hg := Nat.le_of_lt (blk_lt hb)
  exact ⟨A, c, hb, by rw [trunc_size hg]; exact Nat.le_refl _, (Kd.R_reads' (Kd.R_step hR (fun k hk _ => trunc_get hg (hok k hk)))).2.2⟩
set_option maxHeartbeats 16000000 in
set_option maxRecDepth 100000 in
theorem ref05_New.own2 (A : Option Addr) (c : Nat) (l : List Int) (w : World) (hr : Kd.C (Kd.int .u8) w A l.length l) (hc : l.length ≤ c) (hl : l.length ≤ 1099511627776) :
    Calls Try.prog 58 #[.slice A l.length c] w fun e w' => ∃ g A' c', e = .returned (.pointer (some ⟨g, 0, none⟩)) ∧ w'.heap[g]? = some (.cells #[.slice A' l.length c', .int .i64 0, .int .i64 0] 95 (0, 0)) ∧ Kd.R (Kd.int .u8) 5 w' w.heap.size (fun k => w.heap.size ≤ k ∧ k < g) (.slice A' l.length c') l ∧ Below w.heap.size w w' ∧ w.heap.size ≤ g := by
  have hu := Try.underlying95
  have HR := Aside0.mk hr
  have HC := Aside0.mk hc
  have HL := Aside0.mk hl
  clear hr hc hl
  go_enter Try.func58, Try.ntmps58
  go_wp2_with (first
    | ((with_reducible refine gate_dst (N := 3) rfl ?_);(try (refine gate_guard (by rfl) ?_;dsimp only));refine Kd.R_lit (Kd.int .u8) _ 5 ?hg (N := 3) ?hd (xs := ([] : List Int)) (inner := []) (ok := fun _ => True) (okp := fun _ => True) ?hr ?hp (fun _ hk => hk) trivial (Below.refl _ _) (Nat.le_refl _) (by simp) ?_;(case hd => rfl);(case hg => rfl);(case hr => first|(go_simp;done)|(go_simp;rfl));(case hp => exact (Reps.none _ _));intro v1 w1 ho1 hb1 hg_ hnew_;clear hg_ hnew_;have HB := Aside0.mk hb1;have HO := Aside0.mk ho1;clear hb1 ho1)
    | ((with_reducible refine gate_builtin (b := .append) (xs := #[.tmp 3, .tmp 4]) rfl ?_);(try (refine gate_guard (by rfl) ?_;dsimp only));at_builtin;refine Kd.R_append_rows (Kd.int .u8) (w0 := w) w.heap.size rfl (.tmp 3) (.tmp 4) 78 5 (.int .u8 0) 1 rfl Try.underlying78 info5 rfl (by decide) (by omega) v1 [] l _ _ _ (fun _ => True) (fun _ => False) rfl rfl ?aO ?aR (fun _ _ h => h) (fun _ h => h.elim) ?aF ?aB ?aS ?aL ?_;(case aR => exact Kd.C_below HR.out HB.out);(case aB => exact HB.out);(case aF => exact (fun _ _ => trivial));(case aO => exact HO.out);(case aS => exact HB.out.size);(case aL => have := HL.out;simp only [List.length_nil];omega);intro v2 w2 ho hb hg hat;clear HB HO;have HB := Aside0.mk (hb);have HO := Aside0.mk (show Kd.R (Kd.int .u8) 5 w2 w.heap.size (fun _ => True) v2 l from ho);obtain ⟨A2, c2, rfl⟩ := Kd.R_slice HO.out;clear hb ho hg hat))
  go_ret
  have hb2 : Below w2.heap.size w2 (w2.alloc (.cells #[.slice A2 l.length c2, .int .i64 0, .int .i64 0] 95)) := below_alloc (Below.refl _ _) _
  exact ⟨_, A2, c2, rfl, by simpa using heap_alloc_new _ _, Kd.R_below (Kd.R_mono (Kd.R_bound HO.out) (fun k hk => ⟨hk.2.1, hk.2.2.1⟩)) hb2, HB.out.trans (hb2.mono HB.out.size), HB.out.size⟩
/-- Both readers, at the same place. -/
structure Both (w W : World) (wa : World) (gr gf : Nat) (b : List Int) (a : Nat) (e : Int) : Prop where
  rd : Rd wa W gr (b.drop a) e
  rb : Below wa.heap.size wa W
  r5 : R5 W gf b (a : Int) e
  wb : Below w.heap.size w W
theorem Both.below {w W W' wa : World} {gr gf a : Nat} {b : List Int} {e : Int} (h : Both w W wa gr gf b a e) (hb : Below W.heap.size W W') : Both w W' wa gr gf b a e :=
  ⟨h.rd.below hb, h.rb.trans (hb.mono h.rb.size), h.r5.below hb, h.wb.trans (hb.mono h.wb.size)⟩
/-- Behind a call of the program's: it stands elsewhere than the document's. -/
structure Half (w W : World) (wa : World) (gr gf : Nat) (b l2 : List Int) (a : Nat) (e e2 : Int) : Prop where
  rd : Rd wa W gr l2 e2
  rb : Below wa.heap.size wa W
  r5 : R5 W gf b (a : Int) e
  wb : Below w.heap.size w W
theorem Both.r {w W W' wa : World} {gr gf a : Nat} {b l2 : List Int} {e e2 : Int} (h : Both w W wa gr gf b a e) (hlt : gr < gf) (hw : w.heap.size ≤ gr) (hd : RdW wa W W' gr l2 e2) : Half w W' wa gr gf b l2 a e e2 := by
  have hos : W'.os = W.os ∧ W'.tape = W.tape ∧ W'.output = W.output := ⟨hd.below.os.trans h.rb.os.symm, hd.below.tape.trans h.rb.tape.symm, hd.below.output.trans h.rb.output.symm⟩
  exact ⟨hd.rd, hd.below, h.r5.over h.rd hd.keep hlt hos, h.wb.trans ⟨hos.1, hos.2.1, hos.2.2, hd.keep.1, fun k hk => hd.keep.2 k (by have := h.wb.size; omega) (by omega) (by simp)⟩⟩
theorem Half.f {w W W' wa : World} {gr gf a a2 : Nat} {b l2 : List Int} {e e2 : Int} (h : Half w W wa gr gf b l2 a e e2) (hlt : gr < gf) (hw : w.heap.size ≤ gr) (hs : wa.heap.size ≤ gr) (hl : l2 = b.drop a2) (hd : R5W W W' gf b (a2 : Int) e2) : Both w W' wa gr gf b a2 e2 := by
  subst hl
  exact ⟨h.rd.beside hd.keep (by omega), below_beside h.rb hd.below hd.keep (by omega) h.rb.size, hd.r5, below_beside h.wb hd.below hd.keep (by omega) h.wb.size⟩
end Go.Proofs.Ytogdooclldoomaa.F
