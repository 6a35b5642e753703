import Derived.Test.YtogdooclldoomaaSrc
namespace Go.Proofs.Ytogdooclldoomaa.F
open Go.RowKit Go.Proofs.YtogdooclldoomaaW.PrintWords Go.Proofs.YtogdooclldoomaaW.PrintLast Go.Proofs.YtogdooclldoomaaW.PrintMore
set_option linter.unusedSimpArgs false
set_option linter.unusedVariables false
theorem take56 : words_Source_Take.f [5, 6] 0 = some (5, 0, 1) := by kernel_rfl
theorem seek56 : words_Source_Seek.f [5, 6] 1 0 = some (0, 0) := by decide
theorem seek56' : words_Source_Seek.f [5, 6] 1 3 = some (6, 1) := by decide
theorem left56 : words_Source_Left.f [5, 6] 1 = some (1, 1) := by kernel_rfl
set_option maxHeartbeats 8000000 in
set_option maxRecDepth 100000 in
theorem tombolalaw07_alive.calls (w : World) : Calls Try.prog 41 #[] w fun e w' => e = .returned (.bool true) ∧ Below w.heap.size w w' := by
  go_enter Try.func41, Try.ntmps41
  go_wp2_with (first|((with_reducible refine gate_dst (N := 7) rfl ?_);(try (refine gate_guard (by rfl) ?_;dsimp only));refine Kd.R_lit (Kd.int .u64) _ 23 ?hg (N := 7) ?hd (xs := ([5, 6] : List Int)) (inner := [.int .u64 5, .int .u64 6]) (ok := fun _ => True) (okp := fun _ => True) ?hr ?hp (fun _ hk => hk) trivial (Below.refl _ _) (Nat.le_refl _) (by simp) ?_;(case hd => rfl);(case hg => rfl);(case hr => first|(go_simp;done)|(go_simp;rfl));(case hp => exact (Reps.one (show Kd.M (Kd.int .u64) _ _ _ 5 [.int .u64 5] from rfl) (Reps.one (show Kd.M (Kd.int .u64) _ _ _ 6 [.int .u64 6] from rfl) (Reps.none _ _))));intro v1 w1 ho1 hb1 hg_ hnew_;clear hg_ hnew_;have HBa := Aside0.mk hb1;obtain ⟨A1, c1, ev1, hc1, hC1⟩ := Kd.R_reads ho1;have HC1 := Aside0.mk hC1;have Hc1 := Aside0.mk hc1;subst ev1;clear hb1 ho1 hc1 hC1)|(go_at_call 42; refine (words_New.state A1 c1 [5, 6] _ HC1.out Hc1.out (by simp)).mono ?_; rintro e w2 ⟨g, wb, rfl, hi, hb0, hb⟩; have HI := Aside0.mk hi; have HB := Aside0.mk hb; have HB0 := Aside0.mk (HBa.out.trans (hb0.mono HBa.out.size)); clear HBa HC1 Hc1 hi hb hb0)|(go_at_call 44; refine (words_Source_Take.calls g [5, 6] 0 5 0 1 wb _ HI.out HB.out take56).mono ?_; rintro e w9 ⟨rfl, hi, hb, hk⟩; clear HI HB; have HI := Aside0.mk hi; have HB := Aside0.mk hb; clear hi hb hk)|(go_at_call 51; refine (words_Source_Left.calls g [5, 6] 1 1 1 wb _ HI.out HB.out left56).mono ?_; rintro e w9 ⟨rfl, hi, hb, hk⟩; clear HI HB; have HI := Aside0.mk hi; have HB := Aside0.mk hb; clear hi hb hk)|(go_at_call 45; with_reducible refine (words_Source_Seek.calls g [5, 6] 1 0 0 0 wb _ HI.out HB.out seek56).mono ?_; rintro e w9 ⟨rfl, hi, hb, hk⟩; clear HI HB; have HI := Aside0.mk hi; have HB := Aside0.mk hb; clear hi hb hk)|(go_at_call 45; with_reducible refine (words_Source_Seek.calls g [5, 6] 1 3 6 1 wb _ HI.out HB.out seek56').mono ?_; rintro e w9 ⟨rfl, hi, hb, hk⟩; clear HI HB; have HI := Aside0.mk hi; have HB := Aside0.mk hb; clear hi hb hk))
  go_ret
  exact ⟨rfl, HB0.out.trans (HB.out.mono HB0.out.size)⟩
set_option maxHeartbeats 8000000 in
set_option maxRecDepth 100000 in
theorem tombolalaw07_WordsNobody.calls (n : Int) (w : World) : Calls Try.prog 9 #[.int .i64 n] w fun e w' => e = .returned (.bool true) ∧ Below w.heap.size w w' := by
  go_enter Try.func9, Try.ntmps9
  go_wp2_with (first|(go_at_call 46; refine (words_Source_Add.nobody _ _).mono ?_; rintro e w9 ⟨rfl, rfl⟩)|(go_at_call 44; refine (words_Source_Take.nobody _).mono ?_; rintro e w9 ⟨rfl, rfl⟩)|(go_at_call 43; refine (words_Source_Peek.nobody _).mono ?_; rintro e w9 ⟨rfl, rfl⟩)|(go_at_call 45; refine (words_Source_Seek.nobody _ _).mono ?_; rintro e w9 ⟨rfl, rfl⟩)|(go_at_call 50; refine (words_Source_At.nobody _).mono ?_; rintro e w9 ⟨rfl, rfl⟩)|(go_at_call 51; refine (words_Source_Left.nobody _).mono ?_; rintro e w9 ⟨rfl, rfl⟩)|(go_at_call 49; refine (words_Source_All.nobody _).mono ?_; rintro e w9 ⟨rfl, rfl⟩)|(go_at_call 47; refine (words_Source_Fork.nobody _).mono ?_; rintro e w9 ⟨rfl, rfl⟩)|(go_at_call 41; refine (tombolalaw07_alive.calls _).mono ?_; rintro e w9 ⟨rfl, hb⟩; have HB := Aside0.mk hb; clear hb))
  go_ret
  exact ⟨rfl, (below_alloc (Below.refl _ _) _).trans (HB.out.mono (by simp))⟩
theorem mainWordsNobody (a0 : Int) (w : World) (_ : (Lit.int .i64 a0).wf = true) : Calls Try.prog 9 #[.int .i64 a0] w fun e w' => e = .returned (.bool true) ∧ Below w.heap.size w w' := tombolalaw07_WordsNobody.calls a0 w
end Go.Proofs.Ytogdooclldoomaa.F
