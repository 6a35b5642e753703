/- Sums, differences and products of two words are what the document says of them, and whether they fit is. Conditions: none beyond the row's own. -/
import Derived.Test.YtogdooclldoomaaWide
import Derived.Test.YtogdooclldoomaaFLaw01WideSmall
namespace Go.Proofs.Ytogdooclldoomaa.Pure
open Go Go.RowKit Go.Proofs.Ytogdooclldoomaa.F Go.Proofs.YtogdooclldoomaaW.PrintWords Go.Proofs.YtogdooclldoomaaW.PrintLast Go.Proofs.Ytogdooclldoomaa.Digs Go.Proofs.Ytogdooclldoomaa.N

theorem wf_u64 {x : Int} (h : (Lit.int .u64 x).wf = true) : ∃ n : Nat, x = n ∧ n < 18446744073709551616 := by
  have h2 : 0 ≤ x ∧ x ≤ 18446744073709551615 := by simpa [Lit.wf, IntKind.min, IntKind.max, IntKind.signed, IntKind.bits] using h
  exact ⟨x.toNat, by omega, by omega⟩
theorem len_of {n m : Nat} (h : n < 65536 ^ m) : (digs n).length ≤ m := (digs_len_le n m).2 h
theorem small_end (a b : Nat) (ha : a < 18446744073709551616) (hb : b < 18446744073709551616) (x : Int) (y : Bool) (hxy : (x, y) = if (b : Int) ≤ a then ((a : Int) - b, true) else (0, false)) :
    Ev (fun k => tombolalaw01_WideSmall.j0 k a b x y false (digs a) (digs b)) true := by
  have halive := alive01_ev
  by_cases h : a < b
  · rw [if_neg (by omega)] at hxy
    obtain ⟨rfl, rfl⟩ := Prod.mk.inj hxy
    refine Ev.step (f := fun k => (tombolalaw01_alive.f k).bind fun t237 => some t237) (fun k => ?_) (Ev.bindN halive rfl)
    simp only [tombolalaw01_WideSmall.j0]
    rw [if_neg (by decide), if_pos (by omega)]
    simp
  · rw [if_pos (by omega)] at hxy
    obtain ⟨rfl, rfl⟩ := Prod.mk.inj hxy
    have hs := sub_ev a b (by omega) (by have := u64_len ha; omega)
    have hsm := small_yes (a - b) (by omega) ((a : Int) - b) (by omega)
    refine Ev.step (f := fun k => (tombolaref01_Sub.f k (digs a) (digs b)).bind fun t238 => ((tombolalaw01_small.f k ((a : Int) - b) true t238).bind fun t241 => (if t241 = true then ((tombolalaw01_alive.f k).bind fun t242 => (some t242)) else (some false)))) (fun k => ?_) ?_
    · simp only [tombolalaw01_WideSmall.j0]
      rw [if_neg (by decide), if_neg (by omega)]
    · refine Ev.bind hs (Ev.bind hsm ?_)
      exact Ev.congr (fun k => if_pos rfl) (Ev.bindN halive rfl)
theorem WideSmall : tombolalaw01_WideSmall.Pure := by
  intro a0 b0 h1 h2
  obtain ⟨a, rfl, ha⟩ := wf_u64 h1
  obtain ⟨b, rfl, hb⟩ := wf_u64 h2
  have hla := u64_len ha
  have hlb := u64_len hb
  apply Ev.rounds
  unfold tombolalaw01_WideSmall.f
  refine Ev.bind (of_ev a ha) (Ev.bind (of_ev b hb) ?_)
  rw [add_nat a b ha hb, subw_eq (wd a ha) (wd b hb), mul_nat a b ha hb, full_nat a b ha hb]
  simp only [Option.bind_some]
  refine Ev.bind (add_ev a b (by omega) (by omega)) ?_
  have s1 : Ev (fun k => tombolalaw01_small.f k (if a + b < 18446744073709551616 then (((a + b : Nat) : Int), true) else (0, false)).1 (if a + b < 18446744073709551616 then (((a + b : Nat) : Int), true) else (0, false)).2 (digs (a + b))) true := by
    by_cases h : a + b < 18446744073709551616
    · rw [if_pos h]; exact small_yes _ h _ rfl
    · rw [if_neg h]; exact small_no _ (by omega)
  have s2 : Ev (fun k => tombolalaw01_small.f k (if a * b < 18446744073709551616 then (((a * b : Nat) : Int), true) else (0, false)).1 (if a * b < 18446744073709551616 then (((a * b : Nat) : Int), true) else (0, false)).2 (digs (a * b))) true := by
    by_cases h : a * b < 18446744073709551616
    · rw [if_pos h]; exact small_yes _ h _ rfl
    · rw [if_neg h]; exact small_no _ (by omega)
  have hp := prod_lt a b ha hb
  refine Ev.bind s1 (Ev.congr (fun k => if_pos rfl) ?_)
  refine Ev.bind (mul_ev a b (by omega) (by omega)) (Ev.bind s2 (Ev.congr (fun k => if_pos rfl) ?_))
  refine Ev.bind (mul_ev a b (by omega) (by omega)) (Ev.bind (big_yes (a * b) hp _ _ rfl rfl) ?_)
  exact small_end a b ha hb _ _ rfl
/-- The walk. -/
theorem mainWideSmall (a0 a1 : Int) (w : World) (w0 : (Lit.int .u64 a0).wf = true) (w1 : (Lit.int .u64 a1).wf = true) :
    Calls Try.prog 5 #[.int .u64 a0, .int .u64 a1] w fun e w' => e = .returned (.bool true) ∧ Below w.heap.size w w' :=
  tombolalaw01_WideSmall.walk WideSmall a0 a1 w w0 w1
end Go.Proofs.Ytogdooclldoomaa.Pure
