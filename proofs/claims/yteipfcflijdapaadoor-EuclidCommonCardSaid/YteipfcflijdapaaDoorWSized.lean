-- Cut for this claim by a program (wip/prune.py) out of the texts that its bench laid or wrote
import Derived.Test.YteipfcflijdapaaDoorPureEuclid
import Derived.Test.YteipfcflijdapaaDoorFLaw02EuclidCommon
import Derived.SizedLaws
import Derived.ChangeSlices
section
namespace Go.Proofs.YteipfcflijdapaaDoor.N
open Go Go.RowKit Go.Proofs.YteipfcflijdapaaDoor.F Go.Proofs.YteipfcflijdapaaDoorW.PrintWords Go.Proofs.YteipfcflijdapaaDoorW.PrintLast Go.Proofs.YteipfcflijdapaaDoorW.PrintMore Go.Proofs.YteipfcflijdapaaDoor.Digs
set_option linter.unusedSimpArgs false
set_option linter.unusedVariables false
theorem pureEuclidCommon (l : List Nat) (a b : Nat) (hl : Words l) (ha : a < 18446744073709551616) (hb : b < 18446744073709551616) : Ev (fun k => tombolalaw02_EuclidCommon.f k (ofN l) a b) true := by
  have al : Ev (fun k => (tombolalaw02_alive.f k).bind fun t => some t) true := Ev.bind alive02_ev (Ev.now _)
  by_cases hlen : l.length > 50
  · refine Ev.congr (fun k => ?_) al
    unfold tombolalaw02_EuclidCommon.f
    rw [if_pos (by rw [ofN_length]; omega)]
  · have e1 := lcm_ev l hl (by omega)
    have e2 := rlcm_ev l hl (by omega)
    have e3 := reduce_ev a b ha hb
    have e4 := rgcd_ev a b
    have e5 := gcdAll_ev l hl (by omega)
    have e6 := rall_ev l (by omega)
    have q1 : a / Nat.gcd a b ≤ a := Nat.div_le_self _ _
    have q2 : b / Nat.gcd a b ≤ b := Nat.div_le_self _ _
    by_cases hg : Nat.gcd a b = 0
    · rw [if_pos hg] at e3
      have a0 : a = 0 := Nat.eq_zero_of_gcd_eq_zero_left hg
      have b0 : b = 0 := Nat.eq_zero_of_gcd_eq_zero_right hg
      refine Ev.congr (fun k => by unfold tombolalaw02_EuclidCommon.f; rw [if_neg (by rw [ofN_length]; omega)]) (Ev.bind e1 (Ev.bind e2 (Ev.bind e3 (Ev.bind e4 (Ev.congr (fun k => ?_) al)))))
      rw [if_pos (by omega), if_pos (by omega), if_pos (by omega)]
    · rw [if_neg hg] at e3
      refine Ev.congr (fun k => by unfold tombolalaw02_EuclidCommon.f; rw [if_neg (by rw [ofN_length]; omega)]) (Ev.bind e1 (Ev.bind e2 (Ev.bind e3 (Ev.bind e4 ?_))))
      apply Ev.congr
      case h => intro k; rw [if_neg (by omega)]
      refine Ev.bind e5 (Ev.bind e6 ?_)
      refine Ev.congr (fun k => ?_) al
      rw [if_pos rfl, if_pos rfl, if_pos (by simp), tdiv_nat, tdiv_nat, u64n _ (by omega), u64n _ (by omega), if_pos rfl, if_pos rfl]
theorem mainEuclidCommon (A0 : Option Addr) (c0 : Nat) (l : List Int) (a b : Int) (w : World) (hr0 : Kd.C (Kd.int .u64) w A0 l.length l) (hc0 : l.length ≤ c0) (hw : (∀ x, x ∈ l → (Lit.int .u64 x).wf = true) ∧ l.length ≤ 9223372036854775807) {Q : Prop} (_ : Q)
    (wa : (Lit.int .u64 a).wf = true) (wb : (Lit.int .u64 b).wf = true) (HT : Aside0 (Tab w)) :
    Calls Tryd.prog 4 #[.slice A0 l.length c0, .int .u64 a, .int .u64 b] w fun e w' => e = .returned (.bool true) ∧ Below w.heap.size w w' := by
  obtain ⟨a, rfl, ha⟩ := word_of wa
  obtain ⟨b, rfl, hb⟩ := word_of wb
  obtain ⟨m, rfl, hm⟩ := ofN_of l hw.1
  obtain ⟨k, hk⟩ := (pureEuclidCommon m a b hm ha hb).rounds
  exact tombolalaw02_EuclidCommon.calls k A0 c0 (ofN m) a b true ⟨rfl⟩ w hr0 hc0 hk HT
end Go.Proofs.YteipfcflijdapaaDoor.N
end
section
namespace Go.Proofs.YteipfcflijdapaaDoorW.PrintWords
open Go.ChangeShapes Go.WideShapes
theorem sized_ints {H : Type} {enc : TypeId × Value → H} {P : Program} {W : World} {base : Nat} {spare : Nat → Bool} {held : Bool} {t e : TypeId} {k : IntKind} {a : Option Addr} {len cap : Nat} {d : DataW H} {ps : List MemPlace} {ts : List TypeId} {ds : List (DataW H)} {j : Nat}
    (hsz : (DataW.weightsEach P ts ds).all (· ≤ reachBytes) = true) (ht : ts[j]? = some t) (hd : ds[j]? = some d) (hu : P.underlying t = some (.slice e)) (he : P.underlying e = some (.int k)) (hc : P.cellsOf e = 1) {B : Nat} (hB : P.bytesOf e = B)
    (h : DataW.Trod enc P W base spare held t (.slice a len cap) d ps) : len * B ≤ 140737488351232 := by
  obtain ⟨fuel, hf⟩ := h
  rcases open_ints hu he hc hf with ⟨hcs, _⟩ | ⟨x, l, c, zs, hcs, _, hl, _, hz, hx, _, _⟩
  · simp [Value.cells] at hcs
    obtain ⟨rfl, rfl, rfl⟩ := hcs
    simp
  · simp [Value.cells] at hcs
    obtain ⟨rfl, rfl, rfl⟩ := hcs
    obtain ⟨hx, _⟩ := Prod.mk.inj hx
    subst hx
    have z := sized_slice hsz ht hd hu
    rw [hB] at z
    have hl2 : len ≤ zs.length := by
      rw [hz]
      split
      · exact hl
      · exact Nat.le_refl _
    have h1 : (lits (H := H) k (zs.take len)).length + (lits (H := H) k (zs.drop len)).length = zs.length := by
      simp [lits]
      omega
    rw [h1] at z
    exact Nat.le_trans (Nat.mul_le_mul_right _ hl2) z
end Go.Proofs.YteipfcflijdapaaDoorW.PrintWords
end
