import Derived.Test.YtjphoempoinedaaNew
import Derived.Test.YtjphoempoinedaaFLoserA
import Derived.Test.YtjphoempoinedaaFRef07A
namespace Go.Proofs.Ytjphoempoinedaa.F
open Go.RowKit Go.Proofs.YtjphoempoinedaaW.PrintWords Go.Proofs.YtjphoempoinedaaW.PrintLast Go.Proofs.YtjphoempoinedaaW.PrintMore
set_option linter.unusedSimpArgs false
set_option linter.unusedVariables false
theorem la_keep {w1 W : World} {A : Option Addr} {n g : Nat} {l : List S79} (hC : Kd.C k79 w1 A n l) (hge : w1.heap.size ≤ g) (hb : Below w1.heap.size w1 W) : ∀ W', KeepBut W W' g none → Kd.C k79 W' A n l :=
  Kd.C_kept_keep (Kd.C_kept_came (Kd.heap_iso (d := Kd.pair (Kd.int .u64) (Kd.int .u64)) (fun x : S79 => (x.f0, x.f1)) (Kd.heap_pair (Kd.heap_int _) (Kd.heap_int _))) hC hb (S := fun k => k = g) (fun k hk => by subst hk; exact hge)) (Kept.refl _ _) (.inl rfl)
def la_l : List S79 := [⟨1, 1⟩, ⟨2, 1⟩]
theorem la_risks : loser_Risks.f 10 la_l = some ([2, 1], 3, 0) := by kernel_rfl
theorem la_at2 : loser_At.f 10 la_l 2 = some (1, 0) := by kernel_rfl
theorem la_at3 : loser_At.f 10 la_l 3 = some (-1, 1) := by kernel_rfl
theorem la_draw : loser_Draw.f 10 la_l [0] 0 = some (0, 0, 1) := by kernel_rfl
theorem la_words : tombolaref07_Words.f 5 [2, 1] [2, 1] = some true := by kernel_rfl
theorem la_At2 (A : Option Addr) (c : Nat) (w : World) (h : Kd.C k79 w A 2 la_l) (hc : 2 ≤ c) : Calls Try.prog 42 #[.slice A 2 c, .int .u64 2] w fun e w' => e = .returned (.tuple #[.int .i64 1, .int .i64 0]) ∧ Below w.heap.size w w' := loser_At.calls 10 A c la_l 2 1 0 w h hc la_at2
theorem la_At3 (A : Option Addr) (c : Nat) (w : World) (h : Kd.C k79 w A 2 la_l) (hc : 2 ≤ c) : Calls Try.prog 42 #[.slice A 2 c, .int .u64 3] w fun e w' => e = .returned (.tuple #[.int .i64 (-1), .int .i64 1]) ∧ Below w.heap.size w w' := loser_At.calls 10 A c la_l 3 (-1) 1 w h hc la_at3
set_option maxHeartbeats 8000000 in
set_option maxRecDepth 100000 in
theorem tombolalaw44_alive.own (w : World) : Calls Try.prog 40 #[] w fun e w' => e = .returned (.bool true) ∧ Below w.heap.size w w' := by
  have hu := Try.underlying79
  go_enter Try.func40, Try.ntmps40
  go_wp2_with (first
    | ((with_reducible refine gate_dst (N := 13) rfl ?_);(try (refine gate_guard (by rfl) ?_;dsimp only));refine Kd.R_lit k79 _ 79 ?hg (N := 13) ?hd (xs := ([⟨1, 1⟩, ⟨2, 1⟩] : List S79)) (inner := [.int .u64 1, .int .u64 1, .int .u64 2, .int .u64 1]) (ok := fun _ => True) (okp := fun _ => True) ?hr ?hp (fun _ hk => hk) trivial (Below.refl _ _) (Nat.le_refl _) (by simp) ?_;(case hd => rfl);(case hg => rfl);(case hr => first|(go_simp;done)|(go_simp;rfl));(case hp => exact (Reps.snoc (Reps.snoc (Reps.none _ _) (k79_mkM _ _ _ ⟨1, 1⟩) rfl) (k79_mkM _ _ _ ⟨2, 1⟩) rfl));intro v1 w1 ho1 hb1 hg_ hnew_;clear hg_ hnew_;have HB := Aside0.mk hb1;obtain ⟨A1, c1, ev1, hc1, hC1⟩ := Kd.R_reads ho1;have H1 := Aside0.mk (show Kd.C k79 w1 A1 2 la_l from hC1);have I1 := Aside0.mk (show 2 ≤ c1 from hc1);subst ev1;clear hb1 ho1 hc1 hC1)
    | (go_at_call 41; refine (loser_Risks.calls 10 A1 c1 la_l [2, 1] 3 0 _ H1.out I1.out la_risks).mono ?_; rintro e w9 ⟨v, rfl, hR, hb⟩; have n1 := Aside0.mk (HB.out.trans (hb.mono HB.out.size)); have n2 := Aside0.mk (Kd.C_below H1.out hb); obtain ⟨A2, c2, ev2, hc2, hC2⟩ := Kd.R_reads hR; have H2 := Aside0.mk hC2; have I2 := Aside0.mk hc2; subst ev2; clear HB H1 hR hb hc2 hC2; have HB := n1; have H1 := n2; clear n1 n2)
    | (go_at_call 42; with_reducible refine (la_At2 A1 c1 _ H1.out I1.out).mono ?_; rintro e w9 ⟨rfl, hb⟩; have n1 := Aside0.mk (HB.out.trans (hb.mono HB.out.size)); have n2 := Aside0.mk (Kd.C_below H1.out hb); have n3 := Aside0.mk (Kd.C_below H2.out hb); clear HB H1 H2 hb; have HB := n1; have H1 := n2; have H2 := n3; clear n1 n2 n3)
    | ((with_reducible refine gate_dst (N := 27) rfl ?_);(try (refine gate_guard (by rfl) ?_;dsimp only));refine Kd.R_lit (Kd.int .u64) _ 22 ?hg (N := 27) ?hd (xs := ([0] : List Int)) (inner := [.int .u64 0]) (ok := fun _ => True) (okp := fun _ => True) ?hr ?hp (fun _ hk => hk) trivial (Below.refl _ _) (Nat.le_refl _) (by simp) ?_;(case hd => rfl);(case hg => rfl);(case hr => first|(go_simp;done)|(go_simp;rfl));(case hp => exact (Reps.one (show Kd.M (Kd.int .u64) _ _ _ 0 [.int .u64 0] from rfl) (Reps.none _ _)));intro v3 w3 ho1 hb1 hg_ hnew_;clear hg_ hnew_;obtain ⟨A3, c3, ev3, hc3, hC3⟩ := Kd.R_reads ho1;have H3 := Aside0.mk hC3;have I3 := Aside0.mk hc3;subst ev3;have n1 := Aside0.mk (HB.out.trans (hb1.mono HB.out.size)); have n2 := Aside0.mk (Kd.C_below H1.out hb1); have n3 := Aside0.mk (Kd.C_below H2.out hb1); clear HB H1 H2 hb1 ho1 hc3 hC3; have HB := n1; have H1 := n2; have H2 := n3; clear n1 n2 n3)
    | (go_at_call 20; refine (words_New.state A3 c3 [0] _ H3.out I3.out (by simp)).mono ?_; rintro e w4 ⟨g, wb, rfl, hi, hb0, hb⟩; have hbx := hb0.trans (hb.mono hb0.size); have n1 := Aside0.mk (HB.out.trans (hb0.mono HB.out.size)); have n2 := Aside0.mk (Kd.C_below H1.out hb0); have n3 := Aside0.mk (Kd.C_below H2.out hb0); clear HB H1 H2 H3 I3; have HB := n1; have H1 := n2; have H2 := n3; have HI := Aside0.mk hi; have HJ := Aside0.mk hb; clear n1 n2 n3 hi hb0 hb hbx)
    | (go_at_call 47; refine (loser_Draw.calls 10 A1 c1 la_l g [0] 0 0 0 1 wb _ HI.out HJ.out (la_keep H1.out (IsS103.ge HI.out) HJ.out) I1.out la_draw).mono ?_; rintro e w9 ⟨rfl, hi, hb, hk⟩; clear HI HJ hi hk; have HJ := Aside0.mk hb; clear hb)
    | (go_at_call 42; with_reducible refine (la_At3 A1 c1 _ (Kd.C_below H1.out HJ.out) I1.out).mono ?_; rintro e w9 ⟨rfl, hb⟩; have n1 := Aside0.mk (HJ.out.trans (hb.mono HJ.out.size)); clear HJ hb; have HJ := n1; clear n1)
    | ((with_reducible refine gate_dst (N := 38) rfl ?_);(try (refine gate_guard (by rfl) ?_;dsimp only));refine Kd.R_lit (Kd.int .u64) _ 22 ?hg (N := 38) ?hd (xs := ([2, 1] : List Int)) (inner := [.int .u64 2, .int .u64 1]) (ok := fun _ => True) (okp := fun _ => True) ?hr ?hp (fun _ hk => hk) trivial (Below.refl _ _) (Nat.le_refl _) (by simp) ?_;(case hd => rfl);(case hg => rfl);(case hr => first|(go_simp;done)|(go_simp;rfl));(case hp => exact (Reps.one (show Kd.M (Kd.int .u64) _ _ _ 2 [.int .u64 2] from rfl) (Reps.one (show Kd.M (Kd.int .u64) _ _ _ 1 [.int .u64 1] from rfl) (Reps.none _ _))));intro v5 w5 ho1 hb1 hg_ hnew_;clear hg_ hnew_;obtain ⟨A5, c5, ev5, hc5, hC5⟩ := Kd.R_reads ho1;have H5 := Aside0.mk hC5;have I5 := Aside0.mk hc5;subst ev5;have n1 := Aside0.mk (HJ.out.trans (hb1.mono HJ.out.size)); clear HJ hb1 ho1 hc5 hC5; have HJ := n1; clear n1)
    | (go_at_call 43; refine (tombolaref07_Words.calls 5 A2 c2 [2, 1] A5 c5 [2, 1] true _ (Kd.C_below H2.out HJ.out) I2.out H5.out I5.out la_words).mono ?_; rintro e w9 ⟨rfl, hd⟩; have hb := hd.below; have n1 := Aside0.mk (HJ.out.trans (hb.mono HJ.out.size)); clear HJ hb hd; have HJ := n1; clear n1))
  go_ret
  exact ⟨rfl, HB.out.trans (HJ.out.mono HB.out.size)⟩
end Go.Proofs.Ytjphoempoinedaa.F
