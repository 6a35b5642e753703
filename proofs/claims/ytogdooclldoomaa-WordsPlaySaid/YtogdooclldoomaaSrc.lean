import Derived.Test.YtogdooclldoomaaFWordsA
import Derived.Shelf.Abstract
namespace Go.Proofs.Ytogdooclldoomaa.F
open Go.RowKit Go.Proofs.YtogdooclldoomaaW.PrintWords Go.Proofs.YtogdooclldoomaaW.PrintLast Go.Proofs.YtogdooclldoomaaW.PrintMore
set_option linter.unusedSimpArgs false
set_option linter.unusedVariables false
/-! Sources of words, walked by hand: what the print does not walk (states that are made, slices.Clone). -/
/-- A row that came in has an address, or is empty. -/
theorem Kd.C_none {α : Type} {d : Kd α} {w : World} {n : Nat} {l : List α} (h : Kd.C d w none n l) : l = [] := by
  have hn : l.length = n := h.1
  cases l with
  | nil => rfl
  | cons x l =>
    exfalso
    obtain ⟨ad, cs, e, _⟩ := ReadsRow.get_ h x 0 (by omega) (by simp at hn; omega)
    cases e
set_option maxHeartbeats 4000000 in
set_option maxRecDepth 100000 in
theorem clone64.calls (A : Option Addr) (c : Nat) (l : List Int) (w : World) (hr : Kd.C (Kd.int .u64) w A l.length l) (hc : l.length ≤ c) (hl : l.length ≤ 17592186044416) :
    Calls Try.prog 78 #[.slice A l.length c] w fun e w' => ∃ v, e = .returned v ∧ Kd.R (Kd.int .u64) 23 w' w.heap.size (fun _ => True) v l ∧ Below w.heap.size w w' := by
  have HR := Aside0.mk hr
  have HC := Aside0.mk hc
  have HL := Aside0.mk hl
  clear hr hc hl
  cases A with
  | none =>
    obtain rfl := Kd.C_none HR.out
    have hcmp : ∀ (W : World), (binOp BinOp.eql 22 (.slice none 0 c) (.slice none 0 0)).run Try.prog W = .ok (.bool true) W := fun W => by kernel_rfl
    go_enter Try.func78, Try.ntmps78
    go_wp2
    go_ret
    exact ⟨_, rfl, Kd.R_nil _ _ _ _ _, Below.refl _ _⟩
  | some ad =>
    have hcmp : ∀ (W : World) (n : Nat), (binOp BinOp.eql 22 (.slice (some ad) n c) (.slice none 0 0)).run Try.prog W = .ok (.bool false) W := fun W n => by kernel_rfl
    go_enter Try.func78, Try.ntmps78
    go_wp2_with (first|((with_reducible refine gate_dst (N := 5) rfl ?_);(try (refine gate_guard (by rfl) ?_;dsimp only));refine Kd.R_lit (Kd.int .u64) _ 23 ?hg (N := 5) ?hd (xs := ([] : List Int)) (inner := []) (ok := fun _ => True) (okp := fun _ => True) ?hr ?hp (fun _ hk => hk) trivial (Below.refl _ _) (Nat.le_refl _) (by simp) ?_;(case hd => rfl);(case hg => rfl);(case hr => first|(go_simp;done)|(go_simp;rfl));(case hp => exact (Reps.none _ _));intro v1 w1 ho1 hb1 hg_ hnew_;clear hg_ hnew_;have HB := Aside0.mk hb1;have HO := Aside0.mk ho1;clear hb1 ho1)|((with_reducible refine gate_builtin (b := .append) (xs := #[.tmp 5, .tmp 6]) rfl ?_);(try (refine gate_guard (by rfl) ?_;dsimp only));at_builtin;refine Kd.R_append_rows (Kd.int .u64) (w0 := w) w.heap.size rfl (.tmp 5) (.tmp 6) 22 23 (.int .u64 0) 8 rfl Try.underlying22 info23 rfl (by decide) (by omega) v1 [] l _ _ _ (fun _ => True) (fun _ => False) rfl rfl ?aO ?aR (fun _ _ h => h) (fun _ h => h.elim) ?aF ?aB ?aS ?aL ?_;(case aR => exact Kd.C_below HR.out HB.out);(case aB => exact HB.out);(case aF => exact (fun _ _ => trivial));(case aO => exact HO.out);(case aS => exact HB.out.size);(case aL => have := HL.out;simp only [List.length_nil];omega);intro v2 w2 ho hb hg hat;have HB2 := Aside0.mk (hb);have HO2 := Aside0.mk (ho);clear hb ho hg hat))
    go_ret
    exact ⟨_, rfl, HO2.out, HB2.out⟩
/-- A source at block g: its list is v, of which l can be read; at is where it stands. -/
def Src (base : Nat) (ok : Nat → Prop) (W : World) (g : Nat) (v : Value) (l : List Int) (at_ : Int) : Prop :=
  W.heap[g]? = some (.cells #[v, .int .i64 at_] 111 (0, 0)) ∧ base ≤ g ∧ Kd.R (Kd.int .u64) 23 W base ok v l
theorem Src.below {base : Nat} {ok : Nat → Prop} {W W1 : World} {g : Nat} {v : Value} {l : List Int} {at_ : Int} (h : Src base ok W g v l at_) (hb : Below W.heap.size W W1) : Src base ok W1 g v l at_ :=
  ⟨blk_below h.1 hb, h.2.1, Kd.R_below h.2.2 hb⟩
set_option maxHeartbeats 4000000 in
set_option maxRecDepth 100000 in
theorem words_New.calls (A : Option Addr) (c : Nat) (l : List Int) (w : World) (hr : Kd.C (Kd.int .u64) w A l.length l) (hc : l.length ≤ c) (hl : l.length ≤ 17592186044416) :
    Calls Try.prog 42 #[.slice A l.length c] w fun e w' => ∃ g v, e = .returned (.pointer (some ⟨g, 0, none⟩)) ∧ Src w.heap.size (fun _ => True) w' g v l 0 ∧ Below w.heap.size w w' := by
  have hu := Try.underlying111
  have HR := Aside0.mk hr
  have HC := Aside0.mk hc
  have HL := Aside0.mk hl
  clear hr hc hl
  go_enter Try.func42, Try.ntmps42
  go_wp2_with (go_at_call 78; refine (clone64.calls A c l _ HR.out HC.out HL.out).mono ?_; rintro e w1 ⟨v, rfl, hR, hb⟩; have HV := Aside0.mk hR; have HB := Aside0.mk hb; obtain ⟨A1, c1, rfl⟩ := Kd.R_slice hR; clear hR hb)
  go_ret
  refine ⟨_, _, rfl, ⟨?_, HB.out.size, Kd.R_below HV.out (below_alloc (Below.refl _ _) _)⟩, below_alloc HB.out _⟩
  simpa using heap_alloc_new _ _
set_option maxHeartbeats 4000000 in
set_option maxRecDepth 100000 in
/-- .. and as the printed contracts of its methods have it. -/
theorem words_New.state (A : Option Addr) (c : Nat) (l : List Int) (w : World) (hr : Kd.C (Kd.int .u64) w A l.length l) (hc : l.length ≤ c) (hl : l.length ≤ 17592186044416) :
    Calls Try.prog 42 #[.slice A l.length c] w fun e w' => ∃ g w0, e = .returned (.pointer (some ⟨g, 0, none⟩)) ∧ IsS111 w0 w' g l 0 ∧ Below w.heap.size w w0 ∧ Below w0.heap.size w0 w' := by
  have hu := Try.underlying111
  have HR := Aside0.mk hr
  have HC := Aside0.mk hc
  have HL := Aside0.mk hl
  clear hr hc hl
  go_enter Try.func42, Try.ntmps42
  go_wp2_with (go_at_call 78; refine (clone64.calls A c l _ HR.out HC.out HL.out).mono ?_; rintro e w1 ⟨v, rfl, hR, hb⟩; have HB := Aside0.mk hb; obtain ⟨A1, c1, rfl, hc1, hC1⟩ := Kd.R_reads hR; have HV := Aside0.mk hC1; clear hR hb hc1 hC1)
  go_ret
  exact ⟨_, w1, rfl, IsS111.new w1 w1 _ _ _ _ (Below.refl _ _) HV.out, HB.out, below_alloc (Below.refl _ _) _⟩
set_option maxHeartbeats 4000000 in
set_option maxRecDepth 100000 in
theorem words_Source_Peek.nobody (w : World) : Calls Try.prog 43 #[.pointer none] w fun e w' => e = .returned (.tuple #[.int .u64 0, .int .i64 2]) ∧ w' = w := by
  go_enter Try.func43, Try.ntmps43
  go_wp2
  first | go_ret2 | go_ret
  all_goals exact ⟨rfl, rfl⟩
set_option maxHeartbeats 4000000 in
set_option maxRecDepth 100000 in
theorem words_Source_Take.nobody (w : World) : Calls Try.prog 44 #[.pointer none] w fun e w' => e = .returned (.tuple #[.int .u64 0, .int .i64 2]) ∧ w' = w := by
  go_enter Try.func44, Try.ntmps44
  go_wp2_with (go_at_call 43; refine (words_Source_Peek.nobody _).mono ?_; rintro e w1 ⟨rfl, rfl⟩)
  first | go_ret2 | go_ret
  all_goals exact ⟨rfl, rfl⟩
set_option maxHeartbeats 4000000 in
set_option maxRecDepth 100000 in
theorem words_Source_Seek.nobody (n : Int) (w : World) : Calls Try.prog 45 #[.pointer none, .int .i64 n] w fun e w' => e = .returned (.int .i64 2) ∧ w' = w := by
  go_enter Try.func45, Try.ntmps45
  go_wp2
  first | go_ret2 | go_ret
  all_goals exact ⟨rfl, rfl⟩
set_option maxHeartbeats 4000000 in
set_option maxRecDepth 100000 in
theorem words_Source_At.nobody (w : World) : Calls Try.prog 50 #[.pointer none] w fun e w' => e = .returned (.int .i64 0) ∧ w' = w := by
  go_enter Try.func50, Try.ntmps50
  go_wp2
  first | go_ret2 | go_ret
  all_goals exact ⟨rfl, rfl⟩
set_option maxHeartbeats 4000000 in
set_option maxRecDepth 100000 in
theorem words_Source_Left.nobody (w : World) : Calls Try.prog 51 #[.pointer none] w fun e w' => e = .returned (.int .i64 0) ∧ w' = w := by
  go_enter Try.func51, Try.ntmps51
  go_wp2
  first | go_ret2 | go_ret
  all_goals exact ⟨rfl, rfl⟩
set_option maxHeartbeats 4000000 in
set_option maxRecDepth 100000 in
theorem words_Source_All.nobody (w : World) : Calls Try.prog 49 #[.pointer none] w fun e w' => e = .returned (.slice none 0 0) ∧ w' = w := by
  go_enter Try.func49, Try.ntmps49
  go_wp2
  first | go_ret2 | go_ret
  all_goals exact ⟨rfl, rfl⟩
set_option maxHeartbeats 4000000 in
set_option maxRecDepth 100000 in
theorem words_Source_Fork.nobody (w : World) : Calls Try.prog 47 #[.pointer none] w fun e w' => e = .returned (.pointer none) ∧ w' = w := by
  go_enter Try.func47, Try.ntmps47
  go_wp2
  first | go_ret2 | go_ret
  all_goals exact ⟨rfl, rfl⟩
set_option maxHeartbeats 4000000 in
set_option maxRecDepth 100000 in
theorem words_Source_Add.nobody (v : Value) (w : World) : Calls Try.prog 46 #[.pointer none, v] w fun e w' => e = .returned (.tuple #[]) ∧ w' = w := by
  go_enter Try.func46, Try.ntmps46
  go_wp2
  first | go_end0 | ((try simp only [Exit.inBlock, Exit.then]); refine bodyPost_ret (results_none rfl _ _ _) rfl ?_)
  all_goals exact ⟨rfl, rfl⟩
end Go.Proofs.Ytogdooclldoomaa.F
