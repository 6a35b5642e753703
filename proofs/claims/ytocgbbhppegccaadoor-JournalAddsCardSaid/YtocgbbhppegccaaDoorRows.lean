/-
  NARROWER THAN 'FOR EVERY INPUT', by the rows' own cells (each row's printed sentence says how): JournalLasts: laid · JournalNobody: laid · JournalAdds: laid.
  DERIVED. THE GIVEN ROWS OF THIS SEAT. 3 by the template 'for every input the law returns true; each argument reads behind the call as it read before'; 0 by the template 'total and deterministic' (their statements: YtocgbbhppegccaaDoorTotals.lean).
  GIVEN WITH THE SEED: the statements are not yours to turn. If you find one false, say at which input.
  Laid BY PROGRAM, IN A SANDBOX (cutbox-rows.mjs): the forced cells as the released guide's own fill.sh prints them over the translation 64bf4b246efd28c0… (all of the seat's roots in one cut). By AI agents, Wed Nov 11 2026. No macro, syntax, notation, axiom, sorry.
-/
import Derived.Test.YtocgbbhppegccaaDoorChecked
import GoSem.Claim
import GoSem.ClaimJoined
import GoSem.ClaimMapViews
import Derived.JoinedTies
import Derived.KernelRfl
namespace Go.Proofs.YtocgbbhppegccaaDoor
/- THE CELL 'sum', in the pinned program and in every row, IS THE sha256 OF THE DUMP (.gsa) THAT YtocgbbhppegccaaDoorProg.lean LOADS. Nothing in Lean hashes anything: it is a label: what it is worth is what the hold of that sum in a sandbox is worth. -/
noncomputable def Tryd.pinned : Pinned := { name := "ytocgbbhppegccaadoor", sum := "64bf4b246efd28c047e08f3c5ee2c3a8c9a819c8378e11c40f751057d787ff12", checked := Tryd.checked }
namespace Rows
def none {H : Type} : Left H := { results := [], args := [] }

/- WHAT THE LISTED PACKAGE-LEVEL VARIABLES READ AS WHEN THE CALL BEGINS. Each datum BY PROGRAM (the guide's laid-datum.mjs) off the statement by which the dump's own 'gosem.cut.vars' lays the variable. In a bare row this is a premise. The card (YtocgbbhppegccaaDoorCards.lean) ties it to the program's text. -/
def laid_tombola_trace_names {H : Type} : DataW H := .agg [.lit (.string []), .lit (.string [109, 105, 110, 116]), .lit (.string [109, 101, 108, 116]), .lit (.string [105, 115, 115, 117, 101]), .lit (.string [114, 101, 118, 111, 107, 101]), .lit (.string [102, 117, 110, 100]), .lit (.string [117, 110, 102, 117, 110, 100]), .lit (.string [111, 110]), .lit (.string [111, 102, 102]), .lit (.string [97, 109, 111, 117, 110, 116]), .lit (.string [115, 112, 97, 119, 110]), .lit (.string [101, 110, 100]), .lit (.string [119, 97, 107, 101]), .lit (.string [115, 116, 111, 112]), .lit (.string [100, 114, 97, 119]), .lit (.string [121, 105, 101, 108, 100]), .lit (.string [115, 108, 101, 101, 112]), .lit (.string [99, 97, 108, 108]), .lit (.string [108, 105, 115, 116, 101, 110]), .lit (.string [114, 101, 112, 108, 121]), .lit (.string [108, 111, 99, 107]), .lit (.string [117, 110, 108, 111, 99, 107]), .lit (.string [109, 97, 107, 101]), .lit (.string [115, 99, 114, 97, 112])]

/-- 'tombolalaw46.JournalLasts': WHATEVER THE INPUT: true; the input reads as it did. -/
def journalLastsSpec : ChangeSpec := { name := "journalLasts", fn := fun _ => fun
  | [d1, d2, d3, d4] => { results := [.lit (.bool true)], args := [d1, d2, d3, d4] }
  | _ => none }
def journalLastsRow : OpenClaim := { program := "ytocgbbhppegccaadoor", sum := "64bf4b246efd28c047e08f3c5ee2c3a8c9a819c8378e11c40f751057d787ff12", func := "tombola/tombolalaw46.JournalLasts", spec := "journalLasts", named := ["tombola/trace.names"], apart := false, laid := [("tombola/trace.names", laid_tombola_trace_names)] }
def JournalLastsSaid : Prop := journalLastsRow.holds Tryd.pinned (OpenSpec.ofChange journalLastsSpec)

/-- ITS FALSE NEIGHBOUR: 'it returns false'. Refute it at one input. -/
def journalLastsWrong : ChangeSpec := { name := "journalLasts", fn := fun _ => fun
  | [d1, d2, d3, d4] => { results := [.lit (.bool false)], args := [d1, d2, d3, d4] }
  | _ => none }
def JournalLastsWrongFalsely : Prop := journalLastsRow.holds Tryd.pinned (OpenSpec.ofChange journalLastsWrong)

/-- 'tombolalaw46.JournalNobody': WHATEVER THE INPUT: true; the input reads as it did. -/
def journalNobodySpec : ChangeSpec := { name := "journalNobody", fn := fun _ => fun
  | [d] => { results := [.lit (.bool true)], args := [d] }
  | _ => none }
def journalNobodyRow : OpenClaim := { program := "ytocgbbhppegccaadoor", sum := "64bf4b246efd28c047e08f3c5ee2c3a8c9a819c8378e11c40f751057d787ff12", func := "tombola/tombolalaw46.JournalNobody", spec := "journalNobody", named := ["tombola/trace.names"], apart := false, laid := [("tombola/trace.names", laid_tombola_trace_names)] }
def JournalNobodySaid : Prop := journalNobodyRow.holds Tryd.pinned (OpenSpec.ofChange journalNobodySpec)

/-- ITS FALSE NEIGHBOUR: 'it returns false'. Refute it at one input. -/
def journalNobodyWrong : ChangeSpec := { name := "journalNobody", fn := fun _ => fun
  | [d] => { results := [.lit (.bool false)], args := [d] }
  | _ => none }
def JournalNobodyWrongFalsely : Prop := journalNobodyRow.holds Tryd.pinned (OpenSpec.ofChange journalNobodyWrong)

/-- 'tombolalaw46.JournalAdds': WHATEVER THE INPUT: true; the input reads as it did. -/
def journalAddsSpec : ChangeSpec := { name := "journalAdds", fn := fun _ => fun
  | [d1, d2, d3] => { results := [.lit (.bool true)], args := [d1, d2, d3] }
  | _ => none }
def journalAddsRow : OpenClaim := { program := "ytocgbbhppegccaadoor", sum := "64bf4b246efd28c047e08f3c5ee2c3a8c9a819c8378e11c40f751057d787ff12", func := "tombola/tombolalaw46.JournalAdds", spec := "journalAdds", named := ["tombola/trace.names"], apart := false, laid := [("tombola/trace.names", laid_tombola_trace_names)] }
def JournalAddsSaid : Prop := journalAddsRow.holds Tryd.pinned (OpenSpec.ofChange journalAddsSpec)

/-- ITS FALSE NEIGHBOUR: 'it returns false'. Refute it at one input. -/
def journalAddsWrong : ChangeSpec := { name := "journalAdds", fn := fun _ => fun
  | [d1, d2, d3] => { results := [.lit (.bool false)], args := [d1, d2, d3] }
  | _ => none }
def JournalAddsWrongFalsely : Prop := journalAddsRow.holds Tryd.pinned (OpenSpec.ofChange journalAddsWrong)

/- THE SECOND FORM. 'bulk': how many values and letters a reading holds, each counted each time it is reached (what is shared counts as often as it is met; a slice's spare places count too). A statement '..UptoSaid' is the law's where the arguments, and the package variables that the reading takes, are together of bulk at most 1048576: NARROWER than '..Said'. Prove '..Said' where nothing that the law and all that it calls make is longer than what came in: it says more and counts as full. Else prove '..UptoSaid'. A law counts once. -/
mutual
def uptoBulk {H : Type} : DataW H → Nat
  | .lit (.string bytes) => bytes.length + 1
  | .lit _ => 1
  | .nil => 1
  | .ptr d => uptoBulk d + 1
  | .slice elems spare => uptoBulkAll elems + uptoBulkAll spare + 1
  | .agg parts => uptoBulkAll parts + 1
  | .iface _ d => uptoBulk d + 1
  | .map entries => uptoBulkEntries entries + 1
  | .held _ => 1
def uptoBulkAll {H : Type} : List (DataW H) → Nat
  | [] => 0
  | d :: r => uptoBulk d + uptoBulkAll r
def uptoBulkEntries {H : Type} : List (Lit × DataW H) → Nat
  | [] => 0
  | x :: r => uptoBulkEntry x + uptoBulkEntries r
def uptoBulkEntry {H : Type} : Lit × DataW H → Nat
  | (.string bytes, d) => bytes.length + uptoBulk d + 1
  | (_, d) => uptoBulk d + 1
 end
def uptoSmall : (H : Type) → List (DataW H) → Bool := fun _ ds => decide (uptoBulkAll ds ≤ 1048576)
def OpenSpec.upto (s : _root_.Go.ChangeSpec) : _root_.Go.OpenSpec := { _root_.Go.OpenSpec.ofChange s with cond := some uptoSmall }

/-- 'tombolalaw46.JournalLasts', WHERE WHAT IT READS IS OF BULK AT MOST 1048576: true; the input reads as it did. -/
def journalLastsUptoRow : OpenClaim := { program := "ytocgbbhppegccaadoor", sum := "64bf4b246efd28c047e08f3c5ee2c3a8c9a819c8378e11c40f751057d787ff12", func := "tombola/tombolalaw46.JournalLasts", spec := "journalLasts", named := ["tombola/trace.names"], apart := false, laid := [("tombola/trace.names", laid_tombola_trace_names)], narrowed := true }
def JournalLastsUptoSaid : Prop := journalLastsUptoRow.holds Tryd.pinned (OpenSpec.upto journalLastsSpec)

/-- 'tombolalaw46.JournalNobody', WHERE WHAT IT READS IS OF BULK AT MOST 1048576: true; the input reads as it did. -/
def journalNobodyUptoRow : OpenClaim := { program := "ytocgbbhppegccaadoor", sum := "64bf4b246efd28c047e08f3c5ee2c3a8c9a819c8378e11c40f751057d787ff12", func := "tombola/tombolalaw46.JournalNobody", spec := "journalNobody", named := ["tombola/trace.names"], apart := false, laid := [("tombola/trace.names", laid_tombola_trace_names)], narrowed := true }
def JournalNobodyUptoSaid : Prop := journalNobodyUptoRow.holds Tryd.pinned (OpenSpec.upto journalNobodySpec)

/-- 'tombolalaw46.JournalAdds', WHERE WHAT IT READS IS OF BULK AT MOST 1048576: true; the input reads as it did. -/
def journalAddsUptoRow : OpenClaim := { program := "ytocgbbhppegccaadoor", sum := "64bf4b246efd28c047e08f3c5ee2c3a8c9a819c8378e11c40f751057d787ff12", func := "tombola/tombolalaw46.JournalAdds", spec := "journalAdds", named := ["tombola/trace.names"], apart := false, laid := [("tombola/trace.names", laid_tombola_trace_names)], narrowed := true }
def JournalAddsUptoSaid : Prop := journalAddsUptoRow.holds Tryd.pinned (OpenSpec.upto journalAddsSpec)

end Rows
end Go.Proofs.YtocgbbhppegccaaDoor
