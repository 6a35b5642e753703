import Derived.Test.YtjphoempoinedaaDrawVal
import Derived.Test.YtjphoempoinedaaFLaw08DrawTells
import Derived.Test.YtjphoempoinedaaFLaw08DrawWords
namespace Go.Proofs.Ytjphoempoinedaa.N
open Go Go.RowKit Go.Proofs.Ytjphoempoinedaa.F Go.Proofs.YtjphoempoinedaaW.PrintWords Go.Proofs.YtjphoempoinedaaW.PrintLast Go.Proofs.YtjphoempoinedaaW.PrintMore Go.Proofs.Ytjphoempoinedaa.Digs
set_option linter.unusedSimpArgs false
set_option linter.unusedVariables false
theorem wfD {x : Int} (h : (Lit.int .u64 x).wf = true) : ∃ n : Nat, x = n ∧ n < 18446744073709551616 := by
  have h2 : 0 ≤ x ∧ x ≤ 18446744073709551615 := by simpa [Lit.wf, IntKind.min, IntKind.max, IntKind.signed, IntKind.bits] using h
  exact ⟨x.toNat, by omega, by omega⟩
theorem alive08 : tombolalaw08_alive.f = some true := rfl
theorem pureDrawTells : tombolalaw08_DrawTells.Pure := by
  intro a0 a1 w0 w1
  obtain ⟨t, rfl, ht⟩ := wfD w0
  obtain ⟨x, rfl, hx⟩ := wfD w1
  refine Ev.rounds ?_
  unfold tombolalaw08_DrawTells.f
  rw [tell_eq t x ht]
  refine Ev.congr (fun k => by rw [Option.bind_some]) ?_
  refine Ev.bind (refTell_ev t x ht hx) ?_
  refine Ev.bind (refEach_ev t ht) ?_
  have hq : 18446744073709551616 / t < 340282366920938463463374607431768211456 := Nat.lt_of_le_of_lt (Nat.div_le_self _ _) (by decide)
  refine Ev.bind (back_ev _ hq) ?_
  rw [rest_eq t ht, taken_eq t x ht, alive08]
  refine Ev.congr (fun k => by rw [Option.bind_some]) ?_
  refine Ev.bind (refRest_ev t ht) ?_
  have e1 : (takenN t x == (tellN t x).2) = true := by
    unfold tellN
    cases takenN t x <;> rfl
  refine Ev.congr (fun k => by rw [if_pos rfl, Option.bind_some, if_pos e1, if_pos rfl, if_pos (beq_self_eq_true _)]) ?_
  refine Ev.bindN (each_ev t ht) ?_
  simp
theorem mainDrawTells (a0 a1 : Int) (w : World) (w0 : (Lit.int .u64 a0).wf = true) (w1 : (Lit.int .u64 a1).wf = true) :
    Calls Try.prog 3 #[.int .u64 a0, .int .u64 a1] w fun e w' => e = .returned (.bool true) ∧ Below w.heap.size w w' := tombolalaw08_DrawTells.walk pureDrawTells a0 a1 w w0 w1
end Go.Proofs.Ytjphoempoinedaa.N
