-- Cut for this claim by a program (wip/prune.py) out of the texts that its bench laid or wrote
import Derived.Test.YteipfcflijdapaaWWords
import Derived.Deep.Slices
import Derived.Carry
namespace Go.Proofs.Yteipfcflijdapaa.Open
open Go Go.RowKit Go.ChangeShapes Go.WideShapes Go.Deep Go.Proofs.YteipfcflijdapaaW.PrintWords
set_option linter.unusedSimpArgs false
set_option linter.unusedVariables false
def Opens {α : Type} (P : Program) (d : Kd α) (t : TypeId) (wf : α → Prop) : Prop :=
  ∀ {H : Type} (enc : TypeId × Value → H) (w : World) (base : Nat) (spare : Nat → Bool) (held : Bool) (fuel : Nat) (cs : List Value) (x : DataW H × List MemPlace),
    DataW.trod enc P w base spare held fuel t cs = some x → ∃ a, d.K w a cs ∧ wf a
theorem Opens.mono {α : Type} {P : Program} {d : Kd α} {t : TypeId} {wf wf' : α → Prop} (h : Opens P d t wf) (hw : ∀ a, wf a → wf' a) : Opens P d t wf' :=
  fun enc w base spare held fuel cs x hx => let ⟨a, k, q⟩ := h enc w base spare held fuel cs x hx; ⟨a, k, hw a q⟩
end Go.Proofs.Yteipfcflijdapaa.Open
