-- Contracts of functions, laid by a program of this session (wip/xp/xp.py)
import Derived.Test.YtjphoempoinedaaF0
import Derived.Test.YtjphoempoinedaaLoserAlive
namespace Go.Proofs.Ytjphoempoinedaa.F
open Go.RowKit Go.Proofs.YtjphoempoinedaaW.PrintWords Go.Proofs.YtjphoempoinedaaW.PrintLast Go.Proofs.YtjphoempoinedaaW.PrintMore
attribute [local go_sem] max2_int min2_int max_two min_two max_three min_three max_four min_four   -- for this text's walks alone
set_option linter.unusedVariables false
set_option linter.unusedSimpArgs false

/-! ### tombolalaw44_alive: function 40 -/
def tombolalaw44_alive.f : Option Bool := some true
theorem tombolalaw44_alive.calls (r : Bool) (w : World) (h : tombolalaw44_alive.f = some r) :
  Calls Try.prog 40 #[] w fun e w' => e = .returned (.bool r) ∧ Below w.heap.size w w' := by
 obtain rfl := Option.some.inj h
 exact tombolalaw44_alive.own w

end Go.Proofs.Ytjphoempoinedaa.F
