import Derived.Test.YtjphoempoinedaaNew
import Derived.Test.YtjphoempoinedaaFDrawA
namespace Go.Proofs.Ytjphoempoinedaa.F
open Go.RowKit Go.Proofs.YtjphoempoinedaaW.PrintWords Go.Proofs.YtjphoempoinedaaW.PrintLast Go.Proofs.YtjphoempoinedaaW.PrintMore
set_option linter.unusedSimpArgs false
set_option linter.unusedVariables false
theorem da_tell : draw_Tell.f 3 5 = some (2, true) := by kernel_rfl
theorem da_from : draw_From.f 5 [18446744073709551615, 5] 0 3 = some (2, 0, 2) := by kernel_rfl
theorem da_taken : draw_Taken.f 3 18446744073709551615 = some false := by kernel_rfl
theorem da_each3 : draw_Each.f 200 3 = some (0, 6148914691236517205) := by kernel_rfl
theorem da_each1 : draw_Each.f 200 1 = some (1, 0) := by kernel_rfl
theorem da_at : words_Source_At.f [18446744073709551615, 5] 2 = some (2, 2) := by kernel_rfl
set_option maxHeartbeats 8000000 in
set_option maxRecDepth 100000 in
theorem tombolalaw08_alive.own (w : World) : Calls Try.prog 18 #[] w fun e w' => e = .returned (.bool true) ∧ Below w.heap.size w w' := by
  have hu := Try.underlying26
  go_enter Try.func18, Try.ntmps18
  go_wp2_with (first
    | (go_at_call 10; with_reducible refine (draw_Tell.calls 3 5 2 true _ da_tell).mono ?_; rintro e w9 ⟨rfl, hd⟩; have H0 := Aside0.mk hd.below; clear hd)
    | ((with_reducible refine gate_dst (N := 10) rfl ?_);(try (refine gate_guard (by rfl) ?_;dsimp only));refine Kd.R_lit (Kd.int .u64) _ 22 ?hg (N := 10) ?hd (xs := ([18446744073709551615, 5] : List Int)) (inner := [.int .u64 18446744073709551615, .int .u64 5]) (ok := fun _ => True) (okp := fun _ => True) ?hr ?hp (fun _ hk => hk) trivial (Below.refl _ _) (Nat.le_refl _) (by simp) ?_;(case hd => rfl);(case hg => rfl);(case hr => first|(go_simp;done)|(go_simp;rfl));(case hp => exact (Reps.one (show Kd.M (Kd.int .u64) _ _ _ 18446744073709551615 [.int .u64 18446744073709551615] from rfl) (Reps.one (show Kd.M (Kd.int .u64) _ _ _ 5 [.int .u64 5] from rfl) (Reps.none _ _))));intro v1 w1 ho1 hb1 hg_ hnew_;clear hg_ hnew_;have HBa := Aside0.mk (H0.out.trans (hb1.mono H0.out.size));obtain ⟨A1, c1, ev1, hc1, hC1⟩ := Kd.R_reads ho1;have HC1 := Aside0.mk hC1;have Hc1 := Aside0.mk hc1;subst ev1;clear hb1 ho1 hc1 hC1 H0)
    | (go_at_call 20; refine (words_New.state A1 c1 [18446744073709551615, 5] _ HC1.out Hc1.out (by simp)).mono ?_; rintro e w2 ⟨g, wb, rfl, hi, hb0, hb⟩; have HI := Aside0.mk hi; have HB := Aside0.mk hb; have HB0 := Aside0.mk (HBa.out.trans (hb0.mono HBa.out.size)); clear HBa HC1 Hc1 hi hb hb0)
    | (go_at_call 22; refine (draw_From.calls 5 g [18446744073709551615, 5] 0 3 2 0 2 wb _ HI.out HB.out da_from).mono ?_; rintro e w9 ⟨rfl, hi, hb, hk⟩; clear HI HB; have HI := Aside0.mk hi; have HB := Aside0.mk hb; clear hi hb hk)
    | (go_at_call 16; refine (draw_Taken.calls 3 18446744073709551615 false _ da_taken).mono ?_; rintro e w9 ⟨rfl, hd⟩; have hb := hd.below; have n1 := Aside0.mk (HI.out.below hb); have n2 := Aside0.mk (HB.out.trans (hb.mono HB.out.size)); clear HI HB hd hb; have HI := n1; have HB := n2; clear n1 n2)
    | (go_at_call 17; with_reducible refine (draw_Each.calls 200 3 0 6148914691236517205 _ da_each3).mono ?_; rintro e w9 ⟨rfl, hb⟩; have n1 := Aside0.mk (HI.out.below hb); have n2 := Aside0.mk (HB.out.trans (hb.mono HB.out.size)); clear HI HB hb; have HI := n1; have HB := n2; clear n1 n2)
    | (go_at_call 17; with_reducible refine (draw_Each.calls 200 1 1 0 _ da_each1).mono ?_; rintro e w9 ⟨rfl, hb⟩; have n1 := Aside0.mk (HI.out.below hb); have n2 := Aside0.mk (HB.out.trans (hb.mono HB.out.size)); clear HI HB hb; have HI := n1; have HB := n2; clear n1 n2)
    | (go_at_call 25; refine (words_Source_At.calls g [18446744073709551615, 5] 2 2 2 wb _ HI.out HB.out da_at).mono ?_; rintro e w9 ⟨rfl, hi, hb, hk⟩; clear HI HB; have HI := Aside0.mk hi; have HB := Aside0.mk hb; clear hi hb hk))
  go_ret
  exact ⟨rfl, HB0.out.trans (HB.out.mono HB0.out.size)⟩
end Go.Proofs.Ytjphoempoinedaa.F
