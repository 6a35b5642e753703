-- Cut for this claim by a program (wip/prune.py) out of the texts that its bench laid or wrote
import Derived.Test.YteipfcflijdapaaDoorPureEuclid
import Derived.Test.YteipfcflijdapaaDoorCmp
import Derived.Test.YteipfcflijdapaaDoorFLaw02EuclidInverse
import Derived.SizedLaws
import Derived.ChangeSlices
section
namespace Go.Proofs.YteipfcflijdapaaDoor.N
open Go Go.RowKit Go.Proofs.YteipfcflijdapaaDoor.F Go.Proofs.YteipfcflijdapaaDoorW.PrintWords Go.Proofs.YteipfcflijdapaaDoorW.PrintLast Go.Proofs.YteipfcflijdapaaDoorW.PrintMore Go.Proofs.YteipfcflijdapaaDoor.Digs
set_option linter.unusedSimpArgs false
set_option linter.unusedVariables false
theorem inv_j1 (a m n : Nat) (ha : a < 18446744073709551616) (hm : m < 18446744073709551616) (hn : n < 18446744073709551616) (h : n * Nat.gcd a m = a * m) : Ev (fun k => tombolalaw02_EuclidInverse.j1 k a m n false) true := by
  have al : Ev (fun k => (tombolalaw02_alive.f k).bind fun t => some t) true := Ev.bind alive02_ev (Ev.now _)
  have hg64 := gcd_word a m ha hm
  have e2 := gcdAll_ev [a, m] (words_pair a m ha hm) (by simp)
  have v2 : (([a, m] : List Nat).foldl Nat.gcd 0 : Nat) = Nat.gcd a m := by simp
  rw [v2] at e2
  have la := u64_len ha
  have lm := u64_len hm
  have ln := u64_len hn
  have lg := u64_len hg64
  have hp : (digs (a * m)).length ≤ 8 := (digs_len_le _ 8).2 (by
    have h1 := Nat.mul_le_mul (show a ≤ 18446744073709551615 by omega) (show m ≤ 18446744073709551615 by omega)
    have h2 : 18446744073709551615 * 18446744073709551615 < 65536 ^ 8 := by decide
    omega)
  have hc := cmp_ev (a * m) (a * m) (by omega) (by omega)
  have hc0 : cmpN (a * m) (a * m) = 0 := by simp [cmpN]
  rw [hc0] at hc
  have hmul := mul_ev n (Nat.gcd a m) (by omega) (by omega)
  rw [h] at hmul
  apply Ev.step
  case h => intro k; simp only [tombolalaw02_EuclidInverse.j1]; rw [if_neg (by decide)]
  exact Ev.bind (of_ev n hn) (Ev.bind e2 (Ev.bind (of_ev _ hg64) (Ev.bind hmul (Ev.bind (of_ev a ha) (Ev.bind (of_ev m hm) (Ev.bind (mul_ev a m (by omega) (by omega)) (Ev.bind hc (Ev.congr (fun k => if_pos rfl) al))))))))
theorem inv_j1_true (x0 x1 x7 : Int) : Ev (fun k => tombolalaw02_EuclidInverse.j1 k x0 x1 x7 true) true := by
  have al : Ev (fun k => (tombolalaw02_alive.f k).bind fun t => some t) true := Ev.bind alive02_ev (Ev.now _)
  refine Ev.step (fun k => ?_) al
  simp only [tombolalaw02_EuclidInverse.j1]
  rw [if_pos trivial]
theorem inv_j0 (a m : Nat) (ha : a < 18446744073709551616) (hm : m < 18446744073709551616) : Ev (fun k => tombolalaw02_EuclidInverse.j0 k a m false) true := by
  have e1 := lcm_ev [a, m] (words_pair a m ha hm) (by simp)
  refine Ev.step (f := fun k => (euclid_Lcm.f k (([(a : Int), (m : Int)] : List Int))).bind fun bt109 => (if bt109.2 = true then (if (a : Int) = 0 then (tombolalaw02_EuclidInverse.j1 k a m bt109.1 true) else (tombolalaw02_EuclidInverse.j1 k a m bt109.1 ((m : Int) == 0))) else (tombolalaw02_EuclidInverse.j1 k a m bt109.1 true))) (fun k => ?_) ?_
  · simp only [tombolalaw02_EuclidInverse.j0]
    rw [if_neg (by decide)]
  · refine Ev.bind e1 ?_
    by_cases ha0 : a = 0
    · have v : lcmAll [a, m] = (0, true) := by unfold lcmAll; rw [if_pos (by simp [ha0])]
      rw [v]
      refine Ev.congr (fun k => ?_) (inv_j1_true a m 0)
      show (if true = true then _ else _) = _
      rw [if_pos rfl, if_pos (by omega)]; rfl
    · by_cases hm0 : m = 0
      · have v : lcmAll [a, m] = (0, true) := by unfold lcmAll; rw [if_pos (by simp [hm0])]
        rw [v]
        refine Ev.congr (fun k => ?_) (inv_j1_true a m 0)
        show (if true = true then _ else _) = _
        rw [if_pos rfl, if_neg (by omega), show ((m : Int) == 0) = true from by simp [hm0]]; rfl
      · have hz : ¬ 0 ∈ [a, m] := by simp; omega
        have hdv := Nat.gcd_dvd_right a m
        have v : lcmAll [a, m] = if a * (m / Nat.gcd a m) < 18446744073709551616 then (a * (m / Nat.gcd a m), true) else (0, false) := by
          unfold lcmAll
          rw [if_neg hz, lcmW, Nat.gcd_one_left, Nat.div_one, Nat.one_mul, if_pos ha, lcmW]
          by_cases hf : a * (m / Nat.gcd a m) < 18446744073709551616
          · rw [if_pos hf, if_pos hf, lcmW]
          · rw [if_neg hf, if_neg hf]
        rw [v]
        by_cases hf : a * (m / Nat.gcd a m) < 18446744073709551616
        · rw [if_pos hf]
          refine Ev.congr (fun k => ?_) (inv_j1 a m _ ha hm hf (by rw [Nat.mul_assoc, Nat.div_mul_cancel hdv]))
          show (if true = true then _ else _) = _
          rw [if_pos rfl, if_neg (by omega), show ((m : Int) == 0) = false from by simp; omega]; rfl
        · rw [if_neg hf]
          refine Ev.congr (fun k => ?_) (inv_j1_true a m 0)
          show (if false = true then _ else _) = _
          rw [if_neg (by decide)]; rfl
theorem pureEuclidInverse (a m : Nat) (ha : a < 18446744073709551616) (hm : m < 18446744073709551616) : Ev (fun k => tombolalaw02_EuclidInverse.f k a m) true := by
  have e0 := inv_j0 a m ha hm
  by_cases h2 : m < 2
  · refine Ev.congr (fun k => by unfold tombolalaw02_EuclidInverse.f; rfl) (Ev.bind (inverse_small a m h2) (Ev.congr (fun k => ?_) e0))
    rw [if_neg (by omega), if_neg (by decide), if_neg (by decide), if_pos rfl]
  · obtain ⟨res, er, ok⟩ := inverse_ev a m (by omega) hm
    have eg := rgcd_ev a m
    refine Ev.congr (fun k => by unfold tombolalaw02_EuclidInverse.f; rfl) (Ev.bind er (Ev.congr (fun k => by rw [if_pos (by omega)]) (Ev.bind eg ?_)))
    unfold InvOk at ok
    by_cases hg : Nat.gcd a m = 1
    · rw [if_pos hg] at ok
      obtain ⟨i, rfl, hi, hi1⟩ := ok
      have em := rmulMod_ev a i m ha (by omega) (by omega) hm
      rw [hi1] at em
      have e1 : Ev (fun k => tombolalaw02_EuclidInverse.j0 k a m (((1 : Nat) : Int) != 1)) true := e0
      refine Ev.congr (fun k => ?_) (Ev.bind em (f := fun k t104 => tombolalaw02_EuclidInverse.j0 k a m (t104 != 1)) e1)
      rw [hg]
      show (if (true != (((1 : Nat) : Int) == 1)) = true then _ else (if true = true then (if (i : Int) ≥ (m : Int) then _ else _) else _)) = _
      rw [if_neg (by decide), if_pos rfl, if_neg (by omega)]
    · rw [if_neg hg] at ok
      subst ok
      refine Ev.congr (fun k => ?_) e0
      have hne : (((Nat.gcd a m : Nat) : Int) == 1) = false := by simp; omega
      rw [hne, if_neg (by decide), if_neg (by decide), if_pos rfl]
theorem mainEuclidInverse (a m : Int) (w : World) (wa : (Lit.int .u64 a).wf = true) (wm : (Lit.int .u64 m).wf = true) (HT : Aside0 (Tab w)) :
    Calls Tryd.prog 3 #[.int .u64 a, .int .u64 m] w fun e w' => e = .returned (.bool true) ∧ Below w.heap.size w w' := by
  obtain ⟨a, rfl, ha⟩ := word_of wa
  obtain ⟨m, rfl, hm⟩ := word_of wm
  obtain ⟨k, hk⟩ := (pureEuclidInverse a m ha hm).rounds
  exact tombolalaw02_EuclidInverse.calls k a m true ⟨rfl⟩ w hk HT
end Go.Proofs.YteipfcflijdapaaDoor.N
end
section
namespace Go.Proofs.YteipfcflijdapaaDoorW.PrintWords
open Go.ChangeShapes Go.WideShapes
end Go.Proofs.YteipfcflijdapaaDoorW.PrintWords
end
