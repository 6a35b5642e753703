-- Cut for this claim by a program (wip/prune.py) out of the texts that its bench laid or wrote
import Derived.Test.YtjphoempoinedaaPureAliasPicksB
namespace Go.Proofs.Ytjphoempoinedaa.N
open Go Go.RowKit Go.Proofs.Ytjphoempoinedaa.F Go.Proofs.YtjphoempoinedaaW.PrintWords Go.Proofs.YtjphoempoinedaaW.PrintLast Go.Proofs.YtjphoempoinedaaW.PrintMore Go.Proofs.Ytjphoempoinedaa.Digs
set_option linter.unusedSimpArgs false
set_option linter.unusedVariables false
theorem mainAliasPicks (T : Int) (A0 : Option Addr) (c0 : Nat) (l : List S107) (r i : Int) (A3 : Option Addr) (c3 : Nat) (l3 : List Int) (w : World) (hr0 : Kd.C k107 w A0 l.length l) (hc0 : l.length ≤ c0)
    (hw0 : (Lit.int .u64 T).wf = true ∧ ((∀ x, x ∈ l → (Lit.int .u64 x.f0).wf = true ∧ (Lit.int .i64 x.f1).wf = true) ∧ l.length ≤ 9223372036854775807)) (wr : (Lit.int .u64 r).wf = true) {P : Prop} (_ : P)
    (hr3 : Kd.C (Kd.int .u64) w A3 l3.length l3) (hc3 : l3.length ≤ c3) (w3 : (∀ x, x ∈ l3 → (Lit.int .u64 x).wf = true) ∧ l3.length ≤ 9223372036854775807) {Q : Prop} (_ : Q) :
    Calls Try.prog 6 #[.agg #[.int .u64 T, .slice A0 l.length c0], .int .u64 r, .int .i64 i, .slice A3 l3.length c3] w fun e w' => e = .returned (.bool true) ∧ Below w.heap.size w w' := by
  obtain ⟨k, hk⟩ := pureAliasPicks T l r i l3 hw0.1 (fun x hx => (hw0.2.1 x hx).1) wr w3.1
  exact tombolalaw12_AliasPicks.calls k T A0 c0 l r i A3 c3 l3 true ⟨rfl⟩ w hr0 hc0 hr3 hc3 hk
end Go.Proofs.Ytjphoempoinedaa.N
