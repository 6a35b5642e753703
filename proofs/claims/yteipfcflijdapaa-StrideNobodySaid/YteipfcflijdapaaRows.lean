/-
  No cell of these rows narrows 'for every input' (looked for: loops, veiled, ifaces, maps, wideKeys, modest, calm, conditions, laid).
  DERIVED. THE GIVEN ROWS OF THIS SEAT. 5 by the template 'for every input the law returns true; each argument reads behind the call as it read before'; 0 by the template 'total and deterministic' (their statements: YteipfcflijdapaaTotals.lean).
  GIVEN WITH THE SEED: the statements are not yours to turn. If you find one false, say at which input.
  Laid BY PROGRAM, IN A SANDBOX (cutbox-rows.mjs): the forced cells as the released guide's own fill.sh prints them over the translation 07bedfa4bd85a727… (all of the seat's roots in one cut). By AI agents, Wed Nov 11 2026. No macro, syntax, notation, axiom, sorry.
-/
import Derived.Test.YteipfcflijdapaaChecked
import GoSem.Claim
import GoSem.ClaimJoined
import GoSem.ClaimMapViews
import Derived.JoinedTies
import Derived.KernelRfl
namespace Go.Proofs.Yteipfcflijdapaa
/- THE CELL 'sum', in the pinned program and in every row, IS THE sha256 OF THE DUMP (.gsa) THAT YteipfcflijdapaaProg.lean LOADS. Nothing in Lean hashes anything: it is a label: what it is worth is what the hold of that sum in a sandbox is worth. -/
noncomputable def Try.pinned : Pinned := { name := "yteipfcflijdapaa", sum := "07bedfa4bd85a7271a3594c1aad3100132bee3cd02624021d6b7efc00c1b697b", checked := Try.checked }
namespace Rows
def none {H : Type} : Left H := { results := [], args := [] }

/-- 'tombolalaw43.StrideFair': WHATEVER THE INPUT: true; the input reads as it did. -/
def strideFairSpec : ChangeSpec := { name := "strideFair", fn := fun _ => fun
  | [d] => { results := [.lit (.bool true)], args := [d] }
  | _ => none }
def strideFairRow : OpenClaim := { program := "yteipfcflijdapaa", sum := "07bedfa4bd85a7271a3594c1aad3100132bee3cd02624021d6b7efc00c1b697b", func := "tombola/tombolalaw43.StrideFair", spec := "strideFair", apart := false }
def StrideFairSaid : Prop := strideFairRow.holds Try.pinned (OpenSpec.ofChange strideFairSpec)

/-- ITS FALSE NEIGHBOUR: 'it returns false'. Refute it at one input. -/
def strideFairWrong : ChangeSpec := { name := "strideFair", fn := fun _ => fun
  | [d] => { results := [.lit (.bool false)], args := [d] }
  | _ => none }
def StrideFairWrongFalsely : Prop := strideFairRow.holds Try.pinned (OpenSpec.ofChange strideFairWrong)

/-- 'tombolalaw43.StrideNobody': WHATEVER THE INPUT: true; the input reads as it did. -/
def strideNobodySpec : ChangeSpec := { name := "strideNobody", fn := fun _ => fun
  | [d] => { results := [.lit (.bool true)], args := [d] }
  | _ => none }
def strideNobodyRow : OpenClaim := { program := "yteipfcflijdapaa", sum := "07bedfa4bd85a7271a3594c1aad3100132bee3cd02624021d6b7efc00c1b697b", func := "tombola/tombolalaw43.StrideNobody", spec := "strideNobody", apart := false }
def StrideNobodySaid : Prop := strideNobodyRow.holds Try.pinned (OpenSpec.ofChange strideNobodySpec)

/-- ITS FALSE NEIGHBOUR: 'it returns false'. Refute it at one input. -/
def strideNobodyWrong : ChangeSpec := { name := "strideNobody", fn := fun _ => fun
  | [d] => { results := [.lit (.bool false)], args := [d] }
  | _ => none }
def StrideNobodyWrongFalsely : Prop := strideNobodyRow.holds Try.pinned (OpenSpec.ofChange strideNobodyWrong)

/-- 'tombolalaw55.PoolTells': WHATEVER THE INPUT: true; the input reads as it did. -/
def poolTellsSpec : ChangeSpec := { name := "poolTells", fn := fun _ => fun
  | [d1, d2, d3] => { results := [.lit (.bool true)], args := [d1, d2, d3] }
  | _ => none }
def poolTellsRow : OpenClaim := { program := "yteipfcflijdapaa", sum := "07bedfa4bd85a7271a3594c1aad3100132bee3cd02624021d6b7efc00c1b697b", func := "tombola/tombolalaw55.PoolTells", spec := "poolTells", unfollowed := true, recurses := true, apart := false }
def PoolTellsSaid : Prop := poolTellsRow.holds Try.pinned (OpenSpec.ofChange poolTellsSpec)

/-- ITS FALSE NEIGHBOUR: 'it returns false'. Refute it at one input. -/
def poolTellsWrong : ChangeSpec := { name := "poolTells", fn := fun _ => fun
  | [d1, d2, d3] => { results := [.lit (.bool false)], args := [d1, d2, d3] }
  | _ => none }
def PoolTellsWrongFalsely : Prop := poolTellsRow.holds Try.pinned (OpenSpec.ofChange poolTellsWrong)

/-- 'tombolalaw55.PoolCounts': WHATEVER THE INPUT: true; the input reads as it did. -/
def poolCountsSpec : ChangeSpec := { name := "poolCounts", fn := fun _ => fun
  | [d] => { results := [.lit (.bool true)], args := [d] }
  | _ => none }
def poolCountsRow : OpenClaim := { program := "yteipfcflijdapaa", sum := "07bedfa4bd85a7271a3594c1aad3100132bee3cd02624021d6b7efc00c1b697b", func := "tombola/tombolalaw55.PoolCounts", spec := "poolCounts", unfollowed := true, recurses := true, apart := false }
def PoolCountsSaid : Prop := poolCountsRow.holds Try.pinned (OpenSpec.ofChange poolCountsSpec)

/-- ITS FALSE NEIGHBOUR: 'it returns false'. Refute it at one input. -/
def poolCountsWrong : ChangeSpec := { name := "poolCounts", fn := fun _ => fun
  | [d] => { results := [.lit (.bool false)], args := [d] }
  | _ => none }
def PoolCountsWrongFalsely : Prop := poolCountsRow.holds Try.pinned (OpenSpec.ofChange poolCountsWrong)

/-- 'tombolalaw55.PoolDraws': WHATEVER THE INPUT: true; the input reads as it did. -/
def poolDrawsSpec : ChangeSpec := { name := "poolDraws", fn := fun _ => fun
  | [d1, d2, d3] => { results := [.lit (.bool true)], args := [d1, d2, d3] }
  | _ => none }
def poolDrawsRow : OpenClaim := { program := "yteipfcflijdapaa", sum := "07bedfa4bd85a7271a3594c1aad3100132bee3cd02624021d6b7efc00c1b697b", func := "tombola/tombolalaw55.PoolDraws", spec := "poolDraws", unfollowed := true, recurses := true, apart := false }
def PoolDrawsSaid : Prop := poolDrawsRow.holds Try.pinned (OpenSpec.ofChange poolDrawsSpec)

/-- ITS FALSE NEIGHBOUR: 'it returns false'. Refute it at one input. -/
def poolDrawsWrong : ChangeSpec := { name := "poolDraws", fn := fun _ => fun
  | [d1, d2, d3] => { results := [.lit (.bool false)], args := [d1, d2, d3] }
  | _ => none }
def PoolDrawsWrongFalsely : Prop := poolDrawsRow.holds Try.pinned (OpenSpec.ofChange poolDrawsWrong)

/- THE SECOND FORM. 'bulk': how many values and letters a reading holds, each counted each time it is reached (what is shared counts as often as it is met; a slice's spare places count too). A statement '..UptoSaid' is the law's where the arguments, and the package variables that the reading takes, are together of bulk at most 1048576: NARROWER than '..Said'. Prove '..Said' where nothing that the law and all that it calls make is longer than what came in: it says more and counts as full. Else prove '..UptoSaid'. A law counts once. -/
mutual
def uptoBulk {H : Type} : DataW H → Nat
  | .lit (.string bytes) => bytes.length + 1
  | .lit _ => 1
  | .nil => 1
  | .ptr d => uptoBulk d + 1
  | .slice elems spare => uptoBulkAll elems + uptoBulkAll spare + 1
  | .agg parts => uptoBulkAll parts + 1
  | .iface _ d => uptoBulk d + 1
  | .map entries => uptoBulkEntries entries + 1
  | .held _ => 1
def uptoBulkAll {H : Type} : List (DataW H) → Nat
  | [] => 0
  | d :: r => uptoBulk d + uptoBulkAll r
def uptoBulkEntries {H : Type} : List (Lit × DataW H) → Nat
  | [] => 0
  | x :: r => uptoBulkEntry x + uptoBulkEntries r
def uptoBulkEntry {H : Type} : Lit × DataW H → Nat
  | (.string bytes, d) => bytes.length + uptoBulk d + 1
  | (_, d) => uptoBulk d + 1
 end
def uptoSmall : (H : Type) → List (DataW H) → Bool := fun _ ds => decide (uptoBulkAll ds ≤ 1048576)
def OpenSpec.upto (s : _root_.Go.ChangeSpec) : _root_.Go.OpenSpec := { _root_.Go.OpenSpec.ofChange s with cond := some uptoSmall }

/-- 'tombolalaw43.StrideFair', WHERE WHAT IT READS IS OF BULK AT MOST 1048576: true; the input reads as it did. -/
def strideFairUptoRow : OpenClaim := { program := "yteipfcflijdapaa", sum := "07bedfa4bd85a7271a3594c1aad3100132bee3cd02624021d6b7efc00c1b697b", func := "tombola/tombolalaw43.StrideFair", spec := "strideFair", apart := false, narrowed := true }
def StrideFairUptoSaid : Prop := strideFairUptoRow.holds Try.pinned (OpenSpec.upto strideFairSpec)

/-- 'tombolalaw43.StrideNobody', WHERE WHAT IT READS IS OF BULK AT MOST 1048576: true; the input reads as it did. -/
def strideNobodyUptoRow : OpenClaim := { program := "yteipfcflijdapaa", sum := "07bedfa4bd85a7271a3594c1aad3100132bee3cd02624021d6b7efc00c1b697b", func := "tombola/tombolalaw43.StrideNobody", spec := "strideNobody", apart := false, narrowed := true }
def StrideNobodyUptoSaid : Prop := strideNobodyUptoRow.holds Try.pinned (OpenSpec.upto strideNobodySpec)

/-- 'tombolalaw55.PoolTells', WHERE WHAT IT READS IS OF BULK AT MOST 1048576: true; the input reads as it did. -/
def poolTellsUptoRow : OpenClaim := { program := "yteipfcflijdapaa", sum := "07bedfa4bd85a7271a3594c1aad3100132bee3cd02624021d6b7efc00c1b697b", func := "tombola/tombolalaw55.PoolTells", spec := "poolTells", unfollowed := true, recurses := true, apart := false, narrowed := true }
def PoolTellsUptoSaid : Prop := poolTellsUptoRow.holds Try.pinned (OpenSpec.upto poolTellsSpec)

/-- 'tombolalaw55.PoolCounts', WHERE WHAT IT READS IS OF BULK AT MOST 1048576: true; the input reads as it did. -/
def poolCountsUptoRow : OpenClaim := { program := "yteipfcflijdapaa", sum := "07bedfa4bd85a7271a3594c1aad3100132bee3cd02624021d6b7efc00c1b697b", func := "tombola/tombolalaw55.PoolCounts", spec := "poolCounts", unfollowed := true, recurses := true, apart := false, narrowed := true }
def PoolCountsUptoSaid : Prop := poolCountsUptoRow.holds Try.pinned (OpenSpec.upto poolCountsSpec)

/-- 'tombolalaw55.PoolDraws', WHERE WHAT IT READS IS OF BULK AT MOST 1048576: true; the input reads as it did. -/
def poolDrawsUptoRow : OpenClaim := { program := "yteipfcflijdapaa", sum := "07bedfa4bd85a7271a3594c1aad3100132bee3cd02624021d6b7efc00c1b697b", func := "tombola/tombolalaw55.PoolDraws", spec := "poolDraws", unfollowed := true, recurses := true, apart := false, narrowed := true }
def PoolDrawsUptoSaid : Prop := poolDrawsUptoRow.holds Try.pinned (OpenSpec.upto poolDrawsSpec)

end Rows
end Go.Proofs.Yteipfcflijdapaa
