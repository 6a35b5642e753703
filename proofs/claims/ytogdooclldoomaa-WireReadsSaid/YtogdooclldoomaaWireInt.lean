import Derived.Test.YtogdooclldoomaaWireNum
namespace Go.Proofs.Ytogdooclldoomaa.F
open Go.RowKit Go.Proofs.YtogdooclldoomaaW.PrintWords Go.Proofs.YtogdooclldoomaaW.PrintLast Go.Proofs.YtogdooclldoomaaW.PrintMore
set_option linter.unusedSimpArgs false
set_option linter.unusedVariables false
/-- What Int reads. -/
def intR (l : List Int) (e top : Int) : Int × List Int × Int :=
  (wrap64 (numR l e (IntKind.u64.wrap (mx top 0))).1, (numR l e (IntKind.u64.wrap (mx top 0))).2)
set_option maxHeartbeats 4000000 in
set_option maxRecDepth 100000 in
theorem wire_Reader_Int.own {g : Nat} {l : List Int} {e : Int} {w0 w : World} (top : Int) (hI : Rd w0 w g l e) (hB : Below w0.heap.size w0 w) :
    Calls Try.prog 61 #[.pointer (some ⟨g, 0, none⟩), .int .i64 top] w fun en w' => en = .returned (.int .i64 (intR l e top).1) ∧ RdW w0 w w' g (intR l e top).2.1 (intR l e top).2.2 := by
  have HW := Aside0.mk (RdW.refl hI hB)
  clear hI hB
  unfold intR
  obtain ⟨m, hm⟩ : ∃ m, mx top 0 = m := ⟨_, rfl⟩
  rw [hm]
  have hm_ : (if top < 0 then 0 else top) = m := hm
  clear hm
  go_enter Try.func61, Try.ntmps61
  go_wp2_with (go_at_call 59; with_reducible refine (wire_Reader_Num.own (IntKind.u64.wrap m) HW.out.rd HW.out.below).mono ?_; rintro en w9 ⟨rfl, hd⟩; have n1 := Aside0.mk (HW.out.trans hd); clear HW hd; have HW := n1; clear n1)
  go_ret
  exact ⟨rfl, HW.out⟩
end Go.Proofs.Ytogdooclldoomaa.F
