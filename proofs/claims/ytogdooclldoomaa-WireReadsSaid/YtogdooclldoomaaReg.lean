import Derived.Test.YtogdooclldoomaaF0
namespace Go.Proofs.Ytogdooclldoomaa.F
open Go.RowKit Go.Proofs.YtogdooclldoomaaW.PrintWords Go.Proofs.YtogdooclldoomaaW.PrintLast Go.Proofs.YtogdooclldoomaaW.PrintMore
set_option linter.unusedSimpArgs false
set_option linter.unusedVariables false
/-! Regions that draw their order: what is held may be told more of. -/
theorem last_mono {P : Program} {md : Region.Mode} {ops : Array Oper} {Q : Exit → Act → World → Prop} {S S2 : World → Prop} : ∀ {fuel : Nat} {l : Array Bool} {a : Act} {w : World}, S2 w → (∀ w', S2 w' → S w') → wpAnyLast P md ops Q S2 [] fuel l a w → wpAnyLast P md ops Q S [] fuel l a w := by
  intro fuel
  induction fuel with
  | zero => intro l a w _ _ h; exact h
  | succ fuel ih =>
    intro l a w h2 hi h
    refine ⟨h.1, fun i hr => ?_⟩
    refine wpOp_mono ?_ (h.2 i hr)
    intro a' w' ⟨hs, hn⟩
    have h3 := hs (by simp) h2
    exact ⟨fun _ _ => hi _ h3, ih h3 hi hn⟩
end Go.Proofs.Ytogdooclldoomaa.F
