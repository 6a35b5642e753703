/-
  No cell of these rows narrows 'for every input' (looked for: loops, veiled, ifaces, maps, wideKeys, modest, calm, conditions, laid).
  DERIVED. THE GIVEN ROWS OF THIS SEAT. 7 by the template 'for every input the law returns true; each argument reads behind the call as it read before'; 0 by the template 'total and deterministic' (their statements: YtjphoempoinedaaTotals.lean).
  GIVEN WITH THE SEED: the statements are not yours to turn. If you find one false, say at which input.
  Laid BY PROGRAM, IN A SANDBOX (cutbox-rows.mjs): the forced cells as the released guide's own fill.sh prints them over the translation 591318422abb5b43… (all of the seat's roots in one cut). By AI agents, Wed Nov 11 2026. No macro, syntax, notation, axiom, sorry.
-/
import Derived.Test.YtjphoempoinedaaChecked
import GoSem.Claim
import GoSem.ClaimJoined
import GoSem.ClaimMapViews
import Derived.JoinedTies
import Derived.KernelRfl
namespace Go.Proofs.Ytjphoempoinedaa
/- THE CELL 'sum', in the pinned program and in every row, IS THE sha256 OF THE DUMP (.gsa) THAT YtjphoempoinedaaProg.lean LOADS. Nothing in Lean hashes anything: it is a label: what it is worth is what the hold of that sum in a sandbox is worth. -/
noncomputable def Try.pinned : Pinned := { name := "ytjphoempoinedaa", sum := "591318422abb5b437b3df108f7a9b378595448340031521de6e141c62b781f22", checked := Try.checked }
namespace Rows
def none {H : Type} : Left H := { results := [], args := [] }

/-- 'tombolalaw08.DrawTells': WHATEVER THE INPUT: true; the input reads as it did. -/
def drawTellsSpec : ChangeSpec := { name := "drawTells", fn := fun _ => fun
  | [d1, d2] => { results := [.lit (.bool true)], args := [d1, d2] }
  | _ => none }
def drawTellsRow : OpenClaim := { program := "ytjphoempoinedaa", sum := "591318422abb5b437b3df108f7a9b378595448340031521de6e141c62b781f22", func := "tombola/tombolalaw08.DrawTells", spec := "drawTells", apart := false }
def DrawTellsSaid : Prop := drawTellsRow.holds Try.pinned (OpenSpec.ofChange drawTellsSpec)

/-- ITS FALSE NEIGHBOUR: 'it returns false'. Refute it at one input. -/
def drawTellsWrong : ChangeSpec := { name := "drawTells", fn := fun _ => fun
  | [d1, d2] => { results := [.lit (.bool false)], args := [d1, d2] }
  | _ => none }
def DrawTellsWrongFalsely : Prop := drawTellsRow.holds Try.pinned (OpenSpec.ofChange drawTellsWrong)

/-- 'tombolalaw08.DrawWords': WHATEVER THE INPUT: true; the input reads as it did. -/
def drawWordsSpec : ChangeSpec := { name := "drawWords", fn := fun _ => fun
  | [d1, d2, d3, d4] => { results := [.lit (.bool true)], args := [d1, d2, d3, d4] }
  | _ => none }
def drawWordsRow : OpenClaim := { program := "ytjphoempoinedaa", sum := "591318422abb5b437b3df108f7a9b378595448340031521de6e141c62b781f22", func := "tombola/tombolalaw08.DrawWords", spec := "drawWords", apart := false }
def DrawWordsSaid : Prop := drawWordsRow.holds Try.pinned (OpenSpec.ofChange drawWordsSpec)

/-- ITS FALSE NEIGHBOUR: 'it returns false'. Refute it at one input. -/
def drawWordsWrong : ChangeSpec := { name := "drawWords", fn := fun _ => fun
  | [d1, d2, d3, d4] => { results := [.lit (.bool false)], args := [d1, d2, d3, d4] }
  | _ => none }
def DrawWordsWrongFalsely : Prop := drawWordsRow.holds Try.pinned (OpenSpec.ofChange drawWordsWrong)

/-- 'tombolalaw08.DrawFrom': WHATEVER THE INPUT: true; the input reads as it did. -/
def drawFromSpec : ChangeSpec := { name := "drawFrom", fn := fun _ => fun
  | [d1, d2, d3] => { results := [.lit (.bool true)], args := [d1, d2, d3] }
  | _ => none }
def drawFromRow : OpenClaim := { program := "ytjphoempoinedaa", sum := "591318422abb5b437b3df108f7a9b378595448340031521de6e141c62b781f22", func := "tombola/tombolalaw08.DrawFrom", spec := "drawFrom", unfollowed := true, recurses := true, apart := false }
def DrawFromSaid : Prop := drawFromRow.holds Try.pinned (OpenSpec.ofChange drawFromSpec)

/-- ITS FALSE NEIGHBOUR: 'it returns false'. Refute it at one input. -/
def drawFromWrong : ChangeSpec := { name := "drawFrom", fn := fun _ => fun
  | [d1, d2, d3] => { results := [.lit (.bool false)], args := [d1, d2, d3] }
  | _ => none }
def DrawFromWrongFalsely : Prop := drawFromRow.holds Try.pinned (OpenSpec.ofChange drawFromWrong)

/-- 'tombolalaw12.AliasPicks': WHATEVER THE INPUT: true; the input reads as it did. -/
def aliasPicksSpec : ChangeSpec := { name := "aliasPicks", fn := fun _ => fun
  | [d1, d2, d3, d4] => { results := [.lit (.bool true)], args := [d1, d2, d3, d4] }
  | _ => none }
def aliasPicksRow : OpenClaim := { program := "ytjphoempoinedaa", sum := "591318422abb5b437b3df108f7a9b378595448340031521de6e141c62b781f22", func := "tombola/tombolalaw12.AliasPicks", spec := "aliasPicks", unfollowed := true, recurses := true, apart := false }
def AliasPicksSaid : Prop := aliasPicksRow.holds Try.pinned (OpenSpec.ofChange aliasPicksSpec)

/-- ITS FALSE NEIGHBOUR: 'it returns false'. Refute it at one input. -/
def aliasPicksWrong : ChangeSpec := { name := "aliasPicks", fn := fun _ => fun
  | [d1, d2, d3, d4] => { results := [.lit (.bool false)], args := [d1, d2, d3, d4] }
  | _ => none }
def AliasPicksWrongFalsely : Prop := aliasPicksRow.holds Try.pinned (OpenSpec.ofChange aliasPicksWrong)

/-- 'tombolalaw12.AliasBuilds': WHATEVER THE INPUT: true; the input reads as it did. -/
def aliasBuildsSpec : ChangeSpec := { name := "aliasBuilds", fn := fun _ => fun
  | [d] => { results := [.lit (.bool true)], args := [d] }
  | _ => none }
def aliasBuildsRow : OpenClaim := { program := "ytjphoempoinedaa", sum := "591318422abb5b437b3df108f7a9b378595448340031521de6e141c62b781f22", func := "tombola/tombolalaw12.AliasBuilds", spec := "aliasBuilds", unfollowed := true, recurses := true, apart := false }
def AliasBuildsSaid : Prop := aliasBuildsRow.holds Try.pinned (OpenSpec.ofChange aliasBuildsSpec)

/-- ITS FALSE NEIGHBOUR: 'it returns false'. Refute it at one input. -/
def aliasBuildsWrong : ChangeSpec := { name := "aliasBuilds", fn := fun _ => fun
  | [d] => { results := [.lit (.bool false)], args := [d] }
  | _ => none }
def AliasBuildsWrongFalsely : Prop := aliasBuildsRow.holds Try.pinned (OpenSpec.ofChange aliasBuildsWrong)

/-- 'tombolalaw44.LoserCounts': WHATEVER THE INPUT: true; the input reads as it did. -/
def loserCountsSpec : ChangeSpec := { name := "loserCounts", fn := fun _ => fun
  | [d] => { results := [.lit (.bool true)], args := [d] }
  | _ => none }
def loserCountsRow : OpenClaim := { program := "ytjphoempoinedaa", sum := "591318422abb5b437b3df108f7a9b378595448340031521de6e141c62b781f22", func := "tombola/tombolalaw44.LoserCounts", spec := "loserCounts", unfollowed := true, recurses := true, apart := false }
def LoserCountsSaid : Prop := loserCountsRow.holds Try.pinned (OpenSpec.ofChange loserCountsSpec)

/-- ITS FALSE NEIGHBOUR: 'it returns false'. Refute it at one input. -/
def loserCountsWrong : ChangeSpec := { name := "loserCounts", fn := fun _ => fun
  | [d] => { results := [.lit (.bool false)], args := [d] }
  | _ => none }
def LoserCountsWrongFalsely : Prop := loserCountsRow.holds Try.pinned (OpenSpec.ofChange loserCountsWrong)

/-- 'tombolalaw44.LoserTells': WHATEVER THE INPUT: true; the input reads as it did. -/
def loserTellsSpec : ChangeSpec := { name := "loserTells", fn := fun _ => fun
  | [d1, d2, d3, d4] => { results := [.lit (.bool true)], args := [d1, d2, d3, d4] }
  | _ => none }
def loserTellsRow : OpenClaim := { program := "ytjphoempoinedaa", sum := "591318422abb5b437b3df108f7a9b378595448340031521de6e141c62b781f22", func := "tombola/tombolalaw44.LoserTells", spec := "loserTells", unfollowed := true, recurses := true, apart := false }
def LoserTellsSaid : Prop := loserTellsRow.holds Try.pinned (OpenSpec.ofChange loserTellsSpec)

/-- ITS FALSE NEIGHBOUR: 'it returns false'. Refute it at one input. -/
def loserTellsWrong : ChangeSpec := { name := "loserTells", fn := fun _ => fun
  | [d1, d2, d3, d4] => { results := [.lit (.bool false)], args := [d1, d2, d3, d4] }
  | _ => none }
def LoserTellsWrongFalsely : Prop := loserTellsRow.holds Try.pinned (OpenSpec.ofChange loserTellsWrong)

/- THE SECOND FORM. 'bulk': how many values and letters a reading holds, each counted each time it is reached (what is shared counts as often as it is met; a slice's spare places count too). A statement '..UptoSaid' is the law's where the arguments, and the package variables that the reading takes, are together of bulk at most 1048576: NARROWER than '..Said'. Prove '..Said' where nothing that the law and all that it calls make is longer than what came in: it says more and counts as full. Else prove '..UptoSaid'. A law counts once. -/
mutual
def uptoBulk {H : Type} : DataW H → Nat
  | .lit (.string bytes) => bytes.length + 1
  | .lit _ => 1
  | .nil => 1
  | .ptr d => uptoBulk d + 1
  | .slice elems spare => uptoBulkAll elems + uptoBulkAll spare + 1
  | .agg parts => uptoBulkAll parts + 1
  | .iface _ d => uptoBulk d + 1
  | .map entries => uptoBulkEntries entries + 1
  | .held _ => 1
def uptoBulkAll {H : Type} : List (DataW H) → Nat
  | [] => 0
  | d :: r => uptoBulk d + uptoBulkAll r
def uptoBulkEntries {H : Type} : List (Lit × DataW H) → Nat
  | [] => 0
  | x :: r => uptoBulkEntry x + uptoBulkEntries r
def uptoBulkEntry {H : Type} : Lit × DataW H → Nat
  | (.string bytes, d) => bytes.length + uptoBulk d + 1
  | (_, d) => uptoBulk d + 1
 end
def uptoSmall : (H : Type) → List (DataW H) → Bool := fun _ ds => decide (uptoBulkAll ds ≤ 1048576)
def OpenSpec.upto (s : _root_.Go.ChangeSpec) : _root_.Go.OpenSpec := { _root_.Go.OpenSpec.ofChange s with cond := some uptoSmall }

/-- 'tombolalaw08.DrawTells', WHERE WHAT IT READS IS OF BULK AT MOST 1048576: true; the input reads as it did. -/
def drawTellsUptoRow : OpenClaim := { program := "ytjphoempoinedaa", sum := "591318422abb5b437b3df108f7a9b378595448340031521de6e141c62b781f22", func := "tombola/tombolalaw08.DrawTells", spec := "drawTells", apart := false, narrowed := true }
def DrawTellsUptoSaid : Prop := drawTellsUptoRow.holds Try.pinned (OpenSpec.upto drawTellsSpec)

/-- 'tombolalaw08.DrawWords', WHERE WHAT IT READS IS OF BULK AT MOST 1048576: true; the input reads as it did. -/
def drawWordsUptoRow : OpenClaim := { program := "ytjphoempoinedaa", sum := "591318422abb5b437b3df108f7a9b378595448340031521de6e141c62b781f22", func := "tombola/tombolalaw08.DrawWords", spec := "drawWords", apart := false, narrowed := true }
def DrawWordsUptoSaid : Prop := drawWordsUptoRow.holds Try.pinned (OpenSpec.upto drawWordsSpec)

/-- 'tombolalaw08.DrawFrom', WHERE WHAT IT READS IS OF BULK AT MOST 1048576: true; the input reads as it did. -/
def drawFromUptoRow : OpenClaim := { program := "ytjphoempoinedaa", sum := "591318422abb5b437b3df108f7a9b378595448340031521de6e141c62b781f22", func := "tombola/tombolalaw08.DrawFrom", spec := "drawFrom", unfollowed := true, recurses := true, apart := false, narrowed := true }
def DrawFromUptoSaid : Prop := drawFromUptoRow.holds Try.pinned (OpenSpec.upto drawFromSpec)

/-- 'tombolalaw12.AliasPicks', WHERE WHAT IT READS IS OF BULK AT MOST 1048576: true; the input reads as it did. -/
def aliasPicksUptoRow : OpenClaim := { program := "ytjphoempoinedaa", sum := "591318422abb5b437b3df108f7a9b378595448340031521de6e141c62b781f22", func := "tombola/tombolalaw12.AliasPicks", spec := "aliasPicks", unfollowed := true, recurses := true, apart := false, narrowed := true }
def AliasPicksUptoSaid : Prop := aliasPicksUptoRow.holds Try.pinned (OpenSpec.upto aliasPicksSpec)

/-- 'tombolalaw12.AliasBuilds', WHERE WHAT IT READS IS OF BULK AT MOST 1048576: true; the input reads as it did. -/
def aliasBuildsUptoRow : OpenClaim := { program := "ytjphoempoinedaa", sum := "591318422abb5b437b3df108f7a9b378595448340031521de6e141c62b781f22", func := "tombola/tombolalaw12.AliasBuilds", spec := "aliasBuilds", unfollowed := true, recurses := true, apart := false, narrowed := true }
def AliasBuildsUptoSaid : Prop := aliasBuildsUptoRow.holds Try.pinned (OpenSpec.upto aliasBuildsSpec)

/-- 'tombolalaw44.LoserCounts', WHERE WHAT IT READS IS OF BULK AT MOST 1048576: true; the input reads as it did. -/
def loserCountsUptoRow : OpenClaim := { program := "ytjphoempoinedaa", sum := "591318422abb5b437b3df108f7a9b378595448340031521de6e141c62b781f22", func := "tombola/tombolalaw44.LoserCounts", spec := "loserCounts", unfollowed := true, recurses := true, apart := false, narrowed := true }
def LoserCountsUptoSaid : Prop := loserCountsUptoRow.holds Try.pinned (OpenSpec.upto loserCountsSpec)

/-- 'tombolalaw44.LoserTells', WHERE WHAT IT READS IS OF BULK AT MOST 1048576: true; the input reads as it did. -/
def loserTellsUptoRow : OpenClaim := { program := "ytjphoempoinedaa", sum := "591318422abb5b437b3df108f7a9b378595448340031521de6e141c62b781f22", func := "tombola/tombolalaw44.LoserTells", spec := "loserTells", unfollowed := true, recurses := true, apart := false, narrowed := true }
def LoserTellsUptoSaid : Prop := loserTellsUptoRow.holds Try.pinned (OpenSpec.upto loserTellsSpec)

end Rows
end Go.Proofs.Ytjphoempoinedaa
