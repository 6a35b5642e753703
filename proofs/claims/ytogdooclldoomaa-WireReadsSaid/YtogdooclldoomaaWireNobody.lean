import Derived.Deep.RegionWith
import Derived.Test.YtogdooclldoomaaWireAlive
import Derived.Test.YtogdooclldoomaaWirePureB
namespace Go.Proofs.Ytogdooclldoomaa.F
open Go.RowKit Go.Proofs.YtogdooclldoomaaW.PrintWords Go.Proofs.YtogdooclldoomaaW.PrintLast Go.Proofs.YtogdooclldoomaaW.PrintMore
set_option linter.unusedSimpArgs false
set_option linter.unusedVariables false
set_option maxHeartbeats 8000000 in
set_option maxRecDepth 100000 in
theorem tombolalaw05_WireNobody.calls (n : Int) (w : World) : Calls Try.prog 13 #[.int .i64 n] w fun e w' => e = .returned (.bool true) ∧ Below w.heap.size w w' := by
  go_enter Try.func13, Try.ntmps13
  go_wp2_with (first
    | (go_at_call 65; with_reducible refine (wire_Reader_Fail.nobody _ _).mono ?_; rintro e w1 ⟨rfl, rfl⟩)
    | (go_at_call 59; with_reducible refine (wire_Reader_Num.nobody _ _).mono ?_; rintro e w1 ⟨rfl, rfl⟩)
    | (go_at_call 61; with_reducible refine (wire_Reader_Int.nobody _ _).mono ?_; rintro e w1 ⟨rfl, rfl⟩)
    | (go_at_call 63; with_reducible refine (wire_Reader_Text.nobody _ _).mono ?_; rintro e w1 ⟨rfl, rfl⟩)
    | (go_at_call 67; with_reducible refine (wire_Reader_Left.nobody _).mono ?_; rintro e w1 ⟨rfl, rfl⟩)
    | (go_at_call 68; with_reducible refine (wire_Reader_Err.nobody _).mono ?_; rintro e w1 ⟨rfl, rfl⟩)
    | (go_at_call 52; refine (tombolalaw05_alive.own _).mono ?_; rintro e w9 ⟨rfl, hb⟩; have HA := Aside0.mk hb; clear hb))
  go_ret
  exact ⟨rfl, HA.out⟩
theorem mainWireNobody (a0 : Int) (w : World) (_ : (Lit.int .i64 a0).wf = true) : Calls Try.prog 13 #[.int .i64 a0] w fun e w' => e = .returned (.bool true) ∧ Below w.heap.size w w' := tombolalaw05_WireNobody.calls a0 w
end Go.Proofs.Ytogdooclldoomaa.F
