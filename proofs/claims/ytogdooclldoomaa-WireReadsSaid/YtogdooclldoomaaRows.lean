/-
  No cell of these rows narrows 'for every input' (looked for: loops, veiled, ifaces, maps, wideKeys, modest, calm, conditions, laid).
  DERIVED. THE GIVEN ROWS OF THIS SEAT. 11 by the template 'for every input the law returns true; each argument reads behind the call as it read before'; 0 by the template 'total and deterministic' (their statements: YtogdooclldoomaaTotals.lean).
  GIVEN WITH THE SEED: the statements are not yours to turn. If you find one false, say at which input.
  Laid BY PROGRAM, IN A SANDBOX (cutbox-rows.mjs): the forced cells as the released guide's own fill.sh prints them over the translation ea75a6b12818922c… (all of the seat's roots in one cut). By AI agents, Wed Nov 11 2026. No macro, syntax, notation, axiom, sorry.
-/
import Derived.Test.YtogdooclldoomaaChecked
import GoSem.Claim
import GoSem.ClaimJoined
import GoSem.ClaimMapViews
import Derived.JoinedTies
import Derived.KernelRfl
namespace Go.Proofs.Ytogdooclldoomaa
/- THE CELL 'sum', in the pinned program and in every row, IS THE sha256 OF THE DUMP (.gsa) THAT YtogdooclldoomaaProg.lean LOADS. Nothing in Lean hashes anything: it is a label: what it is worth is what the hold of that sum in a sandbox is worth. -/
noncomputable def Try.pinned : Pinned := { name := "ytogdooclldoomaa", sum := "ea75a6b12818922c5fc65f96c099b58b5a2798ce5e8f101baa0a0c068cef3c32", checked := Try.checked }
namespace Rows
def none {H : Type} : Left H := { results := [], args := [] }

/-- 'tombolalaw09.SpanTells': WHATEVER THE INPUT: true; the input reads as it did. -/
def spanTellsSpec : ChangeSpec := { name := "spanTells", fn := fun _ => fun
  | [d1, d2] => { results := [.lit (.bool true)], args := [d1, d2] }
  | _ => none }
def spanTellsRow : OpenClaim := { program := "ytogdooclldoomaa", sum := "ea75a6b12818922c5fc65f96c099b58b5a2798ce5e8f101baa0a0c068cef3c32", func := "tombola/tombolalaw09.SpanTells", spec := "spanTells", unfollowed := true, recurses := true, apart := false }
def SpanTellsSaid : Prop := spanTellsRow.holds Try.pinned (OpenSpec.ofChange spanTellsSpec)

/-- ITS FALSE NEIGHBOUR: 'it returns false'. Refute it at one input. -/
def spanTellsWrong : ChangeSpec := { name := "spanTells", fn := fun _ => fun
  | [d1, d2] => { results := [.lit (.bool false)], args := [d1, d2] }
  | _ => none }
def SpanTellsWrongFalsely : Prop := spanTellsRow.holds Try.pinned (OpenSpec.ofChange spanTellsWrong)

/-- 'tombolalaw09.SpanShifts': WHATEVER THE INPUT: true; the input reads as it did. -/
def spanShiftsSpec : ChangeSpec := { name := "spanShifts", fn := fun _ => fun
  | [d1, d2, d3] => { results := [.lit (.bool true)], args := [d1, d2, d3] }
  | _ => none }
def spanShiftsRow : OpenClaim := { program := "ytogdooclldoomaa", sum := "ea75a6b12818922c5fc65f96c099b58b5a2798ce5e8f101baa0a0c068cef3c32", func := "tombola/tombolalaw09.SpanShifts", spec := "spanShifts", unfollowed := true, recurses := true, apart := false }
def SpanShiftsSaid : Prop := spanShiftsRow.holds Try.pinned (OpenSpec.ofChange spanShiftsSpec)

/-- ITS FALSE NEIGHBOUR: 'it returns false'. Refute it at one input. -/
def spanShiftsWrong : ChangeSpec := { name := "spanShifts", fn := fun _ => fun
  | [d1, d2, d3] => { results := [.lit (.bool false)], args := [d1, d2, d3] }
  | _ => none }
def SpanShiftsWrongFalsely : Prop := spanShiftsRow.holds Try.pinned (OpenSpec.ofChange spanShiftsWrong)

/-- 'tombolalaw01.WideSmall': WHATEVER THE INPUT: true; the input reads as it did. -/
def wideSmallSpec : ChangeSpec := { name := "wideSmall", fn := fun _ => fun
  | [d1, d2] => { results := [.lit (.bool true)], args := [d1, d2] }
  | _ => none }
def wideSmallRow : OpenClaim := { program := "ytogdooclldoomaa", sum := "ea75a6b12818922c5fc65f96c099b58b5a2798ce5e8f101baa0a0c068cef3c32", func := "tombola/tombolalaw01.WideSmall", spec := "wideSmall", apart := false }
def WideSmallSaid : Prop := wideSmallRow.holds Try.pinned (OpenSpec.ofChange wideSmallSpec)

/-- ITS FALSE NEIGHBOUR: 'it returns false'. Refute it at one input. -/
def wideSmallWrong : ChangeSpec := { name := "wideSmall", fn := fun _ => fun
  | [d1, d2] => { results := [.lit (.bool false)], args := [d1, d2] }
  | _ => none }
def WideSmallWrongFalsely : Prop := wideSmallRow.holds Try.pinned (OpenSpec.ofChange wideSmallWrong)

/-- 'tombolalaw01.WideDivides': WHATEVER THE INPUT: true; the input reads as it did. -/
def wideDividesSpec : ChangeSpec := { name := "wideDivides", fn := fun _ => fun
  | [d1, d2] => { results := [.lit (.bool true)], args := [d1, d2] }
  | _ => none }
def wideDividesRow : OpenClaim := { program := "ytogdooclldoomaa", sum := "ea75a6b12818922c5fc65f96c099b58b5a2798ce5e8f101baa0a0c068cef3c32", func := "tombola/tombolalaw01.WideDivides", spec := "wideDivides", apart := false }
def WideDividesSaid : Prop := wideDividesRow.holds Try.pinned (OpenSpec.ofChange wideDividesSpec)

/-- ITS FALSE NEIGHBOUR: 'it returns false'. Refute it at one input. -/
def wideDividesWrong : ChangeSpec := { name := "wideDivides", fn := fun _ => fun
  | [d1, d2] => { results := [.lit (.bool false)], args := [d1, d2] }
  | _ => none }
def WideDividesWrongFalsely : Prop := wideDividesRow.holds Try.pinned (OpenSpec.ofChange wideDividesWrong)

/-- 'tombolalaw01.WideBig': WHATEVER THE INPUT: true; the input reads as it did. -/
def wideBigSpec : ChangeSpec := { name := "wideBig", fn := fun _ => fun
  | [d1, d2, d3] => { results := [.lit (.bool true)], args := [d1, d2, d3] }
  | _ => none }
def wideBigRow : OpenClaim := { program := "ytogdooclldoomaa", sum := "ea75a6b12818922c5fc65f96c099b58b5a2798ce5e8f101baa0a0c068cef3c32", func := "tombola/tombolalaw01.WideBig", spec := "wideBig", apart := false }
def WideBigSaid : Prop := wideBigRow.holds Try.pinned (OpenSpec.ofChange wideBigSpec)

/-- ITS FALSE NEIGHBOUR: 'it returns false'. Refute it at one input. -/
def wideBigWrong : ChangeSpec := { name := "wideBig", fn := fun _ => fun
  | [d1, d2, d3] => { results := [.lit (.bool false)], args := [d1, d2, d3] }
  | _ => none }
def WideBigWrongFalsely : Prop := wideBigRow.holds Try.pinned (OpenSpec.ofChange wideBigWrong)

/-- 'tombolalaw07.WordsPlay': WHATEVER THE INPUT: true; the input reads as it did. -/
def wordsPlaySpec : ChangeSpec := { name := "wordsPlay", fn := fun _ => fun
  | [d1, d2] => { results := [.lit (.bool true)], args := [d1, d2] }
  | _ => none }
def wordsPlayRow : OpenClaim := { program := "ytogdooclldoomaa", sum := "ea75a6b12818922c5fc65f96c099b58b5a2798ce5e8f101baa0a0c068cef3c32", func := "tombola/tombolalaw07.WordsPlay", spec := "wordsPlay", apart := false }
def WordsPlaySaid : Prop := wordsPlayRow.holds Try.pinned (OpenSpec.ofChange wordsPlaySpec)

/-- ITS FALSE NEIGHBOUR: 'it returns false'. Refute it at one input. -/
def wordsPlayWrong : ChangeSpec := { name := "wordsPlay", fn := fun _ => fun
  | [d1, d2] => { results := [.lit (.bool false)], args := [d1, d2] }
  | _ => none }
def WordsPlayWrongFalsely : Prop := wordsPlayRow.holds Try.pinned (OpenSpec.ofChange wordsPlayWrong)

/-- 'tombolalaw07.WordsNobody': WHATEVER THE INPUT: true; the input reads as it did. -/
def wordsNobodySpec : ChangeSpec := { name := "wordsNobody", fn := fun _ => fun
  | [d] => { results := [.lit (.bool true)], args := [d] }
  | _ => none }
def wordsNobodyRow : OpenClaim := { program := "ytogdooclldoomaa", sum := "ea75a6b12818922c5fc65f96c099b58b5a2798ce5e8f101baa0a0c068cef3c32", func := "tombola/tombolalaw07.WordsNobody", spec := "wordsNobody", apart := false }
def WordsNobodySaid : Prop := wordsNobodyRow.holds Try.pinned (OpenSpec.ofChange wordsNobodySpec)

/-- ITS FALSE NEIGHBOUR: 'it returns false'. Refute it at one input. -/
def wordsNobodyWrong : ChangeSpec := { name := "wordsNobody", fn := fun _ => fun
  | [d] => { results := [.lit (.bool false)], args := [d] }
  | _ => none }
def WordsNobodyWrongFalsely : Prop := wordsNobodyRow.holds Try.pinned (OpenSpec.ofChange wordsNobodyWrong)

/-- 'tombolalaw05.WirePuts': WHATEVER THE INPUT: true; the input reads as it did. -/
def wirePutsSpec : ChangeSpec := { name := "wirePuts", fn := fun _ => fun
  | [d1, d2, d3] => { results := [.lit (.bool true)], args := [d1, d2, d3] }
  | _ => none }
def wirePutsRow : OpenClaim := { program := "ytogdooclldoomaa", sum := "ea75a6b12818922c5fc65f96c099b58b5a2798ce5e8f101baa0a0c068cef3c32", func := "tombola/tombolalaw05.WirePuts", spec := "wirePuts", apart := false }
def WirePutsSaid : Prop := wirePutsRow.holds Try.pinned (OpenSpec.ofChange wirePutsSpec)

/-- ITS FALSE NEIGHBOUR: 'it returns false'. Refute it at one input. -/
def wirePutsWrong : ChangeSpec := { name := "wirePuts", fn := fun _ => fun
  | [d1, d2, d3] => { results := [.lit (.bool false)], args := [d1, d2, d3] }
  | _ => none }
def WirePutsWrongFalsely : Prop := wirePutsRow.holds Try.pinned (OpenSpec.ofChange wirePutsWrong)

/-- 'tombolalaw05.WireReads': WHATEVER THE INPUT: true; the input reads as it did. -/
def wireReadsSpec : ChangeSpec := { name := "wireReads", fn := fun _ => fun
  | [d1, d2] => { results := [.lit (.bool true)], args := [d1, d2] }
  | _ => none }
def wireReadsRow : OpenClaim := { program := "ytogdooclldoomaa", sum := "ea75a6b12818922c5fc65f96c099b58b5a2798ce5e8f101baa0a0c068cef3c32", func := "tombola/tombolalaw05.WireReads", spec := "wireReads", apart := false }
def WireReadsSaid : Prop := wireReadsRow.holds Try.pinned (OpenSpec.ofChange wireReadsSpec)

/-- ITS FALSE NEIGHBOUR: 'it returns false'. Refute it at one input. -/
def wireReadsWrong : ChangeSpec := { name := "wireReads", fn := fun _ => fun
  | [d1, d2] => { results := [.lit (.bool false)], args := [d1, d2] }
  | _ => none }
def WireReadsWrongFalsely : Prop := wireReadsRow.holds Try.pinned (OpenSpec.ofChange wireReadsWrong)

/-- 'tombolalaw05.WireBack': WHATEVER THE INPUT: true; the input reads as it did. -/
def wireBackSpec : ChangeSpec := { name := "wireBack", fn := fun _ => fun
  | [d1, d2] => { results := [.lit (.bool true)], args := [d1, d2] }
  | _ => none }
def wireBackRow : OpenClaim := { program := "ytogdooclldoomaa", sum := "ea75a6b12818922c5fc65f96c099b58b5a2798ce5e8f101baa0a0c068cef3c32", func := "tombola/tombolalaw05.WireBack", spec := "wireBack", apart := false }
def WireBackSaid : Prop := wireBackRow.holds Try.pinned (OpenSpec.ofChange wireBackSpec)

/-- ITS FALSE NEIGHBOUR: 'it returns false'. Refute it at one input. -/
def wireBackWrong : ChangeSpec := { name := "wireBack", fn := fun _ => fun
  | [d1, d2] => { results := [.lit (.bool false)], args := [d1, d2] }
  | _ => none }
def WireBackWrongFalsely : Prop := wireBackRow.holds Try.pinned (OpenSpec.ofChange wireBackWrong)

/-- 'tombolalaw05.WireNobody': WHATEVER THE INPUT: true; the input reads as it did. -/
def wireNobodySpec : ChangeSpec := { name := "wireNobody", fn := fun _ => fun
  | [d] => { results := [.lit (.bool true)], args := [d] }
  | _ => none }
def wireNobodyRow : OpenClaim := { program := "ytogdooclldoomaa", sum := "ea75a6b12818922c5fc65f96c099b58b5a2798ce5e8f101baa0a0c068cef3c32", func := "tombola/tombolalaw05.WireNobody", spec := "wireNobody", apart := false }
def WireNobodySaid : Prop := wireNobodyRow.holds Try.pinned (OpenSpec.ofChange wireNobodySpec)

/-- ITS FALSE NEIGHBOUR: 'it returns false'. Refute it at one input. -/
def wireNobodyWrong : ChangeSpec := { name := "wireNobody", fn := fun _ => fun
  | [d] => { results := [.lit (.bool false)], args := [d] }
  | _ => none }
def WireNobodyWrongFalsely : Prop := wireNobodyRow.holds Try.pinned (OpenSpec.ofChange wireNobodyWrong)

/- THE SECOND FORM. 'bulk': how many values and letters a reading holds, each counted each time it is reached (what is shared counts as often as it is met; a slice's spare places count too). A statement '..UptoSaid' is the law's where the arguments, and the package variables that the reading takes, are together of bulk at most 1048576: NARROWER than '..Said'. Prove '..Said' where nothing that the law and all that it calls make is longer than what came in: it says more and counts as full. Else prove '..UptoSaid'. A law counts once. -/
mutual
def uptoBulk {H : Type} : DataW H → Nat
  | .lit (.string bytes) => bytes.length + 1
  | .lit _ => 1
  | .nil => 1
  | .ptr d => uptoBulk d + 1
  | .slice elems spare => uptoBulkAll elems + uptoBulkAll spare + 1
  | .agg parts => uptoBulkAll parts + 1
  | .iface _ d => uptoBulk d + 1
  | .map entries => uptoBulkEntries entries + 1
  | .held _ => 1
def uptoBulkAll {H : Type} : List (DataW H) → Nat
  | [] => 0
  | d :: r => uptoBulk d + uptoBulkAll r
def uptoBulkEntries {H : Type} : List (Lit × DataW H) → Nat
  | [] => 0
  | x :: r => uptoBulkEntry x + uptoBulkEntries r
def uptoBulkEntry {H : Type} : Lit × DataW H → Nat
  | (.string bytes, d) => bytes.length + uptoBulk d + 1
  | (_, d) => uptoBulk d + 1
 end
def uptoSmall : (H : Type) → List (DataW H) → Bool := fun _ ds => decide (uptoBulkAll ds ≤ 1048576)
def OpenSpec.upto (s : _root_.Go.ChangeSpec) : _root_.Go.OpenSpec := { _root_.Go.OpenSpec.ofChange s with cond := some uptoSmall }

/-- 'tombolalaw09.SpanTells', WHERE WHAT IT READS IS OF BULK AT MOST 1048576: true; the input reads as it did. -/
def spanTellsUptoRow : OpenClaim := { program := "ytogdooclldoomaa", sum := "ea75a6b12818922c5fc65f96c099b58b5a2798ce5e8f101baa0a0c068cef3c32", func := "tombola/tombolalaw09.SpanTells", spec := "spanTells", unfollowed := true, recurses := true, apart := false, narrowed := true }
def SpanTellsUptoSaid : Prop := spanTellsUptoRow.holds Try.pinned (OpenSpec.upto spanTellsSpec)

/-- 'tombolalaw09.SpanShifts', WHERE WHAT IT READS IS OF BULK AT MOST 1048576: true; the input reads as it did. -/
def spanShiftsUptoRow : OpenClaim := { program := "ytogdooclldoomaa", sum := "ea75a6b12818922c5fc65f96c099b58b5a2798ce5e8f101baa0a0c068cef3c32", func := "tombola/tombolalaw09.SpanShifts", spec := "spanShifts", unfollowed := true, recurses := true, apart := false, narrowed := true }
def SpanShiftsUptoSaid : Prop := spanShiftsUptoRow.holds Try.pinned (OpenSpec.upto spanShiftsSpec)

/-- 'tombolalaw01.WideSmall', WHERE WHAT IT READS IS OF BULK AT MOST 1048576: true; the input reads as it did. -/
def wideSmallUptoRow : OpenClaim := { program := "ytogdooclldoomaa", sum := "ea75a6b12818922c5fc65f96c099b58b5a2798ce5e8f101baa0a0c068cef3c32", func := "tombola/tombolalaw01.WideSmall", spec := "wideSmall", apart := false, narrowed := true }
def WideSmallUptoSaid : Prop := wideSmallUptoRow.holds Try.pinned (OpenSpec.upto wideSmallSpec)

/-- 'tombolalaw01.WideDivides', WHERE WHAT IT READS IS OF BULK AT MOST 1048576: true; the input reads as it did. -/
def wideDividesUptoRow : OpenClaim := { program := "ytogdooclldoomaa", sum := "ea75a6b12818922c5fc65f96c099b58b5a2798ce5e8f101baa0a0c068cef3c32", func := "tombola/tombolalaw01.WideDivides", spec := "wideDivides", apart := false, narrowed := true }
def WideDividesUptoSaid : Prop := wideDividesUptoRow.holds Try.pinned (OpenSpec.upto wideDividesSpec)

/-- 'tombolalaw01.WideBig', WHERE WHAT IT READS IS OF BULK AT MOST 1048576: true; the input reads as it did. -/
def wideBigUptoRow : OpenClaim := { program := "ytogdooclldoomaa", sum := "ea75a6b12818922c5fc65f96c099b58b5a2798ce5e8f101baa0a0c068cef3c32", func := "tombola/tombolalaw01.WideBig", spec := "wideBig", apart := false, narrowed := true }
def WideBigUptoSaid : Prop := wideBigUptoRow.holds Try.pinned (OpenSpec.upto wideBigSpec)

/-- 'tombolalaw07.WordsPlay', WHERE WHAT IT READS IS OF BULK AT MOST 1048576: true; the input reads as it did. -/
def wordsPlayUptoRow : OpenClaim := { program := "ytogdooclldoomaa", sum := "ea75a6b12818922c5fc65f96c099b58b5a2798ce5e8f101baa0a0c068cef3c32", func := "tombola/tombolalaw07.WordsPlay", spec := "wordsPlay", apart := false, narrowed := true }
def WordsPlayUptoSaid : Prop := wordsPlayUptoRow.holds Try.pinned (OpenSpec.upto wordsPlaySpec)

/-- 'tombolalaw07.WordsNobody', WHERE WHAT IT READS IS OF BULK AT MOST 1048576: true; the input reads as it did. -/
def wordsNobodyUptoRow : OpenClaim := { program := "ytogdooclldoomaa", sum := "ea75a6b12818922c5fc65f96c099b58b5a2798ce5e8f101baa0a0c068cef3c32", func := "tombola/tombolalaw07.WordsNobody", spec := "wordsNobody", apart := false, narrowed := true }
def WordsNobodyUptoSaid : Prop := wordsNobodyUptoRow.holds Try.pinned (OpenSpec.upto wordsNobodySpec)

/-- 'tombolalaw05.WirePuts', WHERE WHAT IT READS IS OF BULK AT MOST 1048576: true; the input reads as it did. -/
def wirePutsUptoRow : OpenClaim := { program := "ytogdooclldoomaa", sum := "ea75a6b12818922c5fc65f96c099b58b5a2798ce5e8f101baa0a0c068cef3c32", func := "tombola/tombolalaw05.WirePuts", spec := "wirePuts", apart := false, narrowed := true }
def WirePutsUptoSaid : Prop := wirePutsUptoRow.holds Try.pinned (OpenSpec.upto wirePutsSpec)

/-- 'tombolalaw05.WireReads', WHERE WHAT IT READS IS OF BULK AT MOST 1048576: true; the input reads as it did. -/
def wireReadsUptoRow : OpenClaim := { program := "ytogdooclldoomaa", sum := "ea75a6b12818922c5fc65f96c099b58b5a2798ce5e8f101baa0a0c068cef3c32", func := "tombola/tombolalaw05.WireReads", spec := "wireReads", apart := false, narrowed := true }
def WireReadsUptoSaid : Prop := wireReadsUptoRow.holds Try.pinned (OpenSpec.upto wireReadsSpec)

/-- 'tombolalaw05.WireBack', WHERE WHAT IT READS IS OF BULK AT MOST 1048576: true; the input reads as it did. -/
def wireBackUptoRow : OpenClaim := { program := "ytogdooclldoomaa", sum := "ea75a6b12818922c5fc65f96c099b58b5a2798ce5e8f101baa0a0c068cef3c32", func := "tombola/tombolalaw05.WireBack", spec := "wireBack", apart := false, narrowed := true }
def WireBackUptoSaid : Prop := wireBackUptoRow.holds Try.pinned (OpenSpec.upto wireBackSpec)

/-- 'tombolalaw05.WireNobody', WHERE WHAT IT READS IS OF BULK AT MOST 1048576: true; the input reads as it did. -/
def wireNobodyUptoRow : OpenClaim := { program := "ytogdooclldoomaa", sum := "ea75a6b12818922c5fc65f96c099b58b5a2798ce5e8f101baa0a0c068cef3c32", func := "tombola/tombolalaw05.WireNobody", spec := "wireNobody", apart := false, narrowed := true }
def WireNobodyUptoSaid : Prop := wireNobodyUptoRow.holds Try.pinned (OpenSpec.upto wireNobodySpec)

end Rows
end Go.Proofs.Ytogdooclldoomaa
