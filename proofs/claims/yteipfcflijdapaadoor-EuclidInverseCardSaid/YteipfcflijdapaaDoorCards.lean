/-
  DERIVED. GIVEN WITH THE SEED: THE CARDS: each row of YteipfcflijdapaaDoorRows.lean that lists a variable, with what it lists TIED to the program's text (the seventh form; the later family's looks); each row that meets fmt, with fmt's text TOLD by the authors' own Lean function (tested against real Go, not proved from fmt's source: count such statements apart). THE CARD IS WHAT COUNTS. Prove the row's statement (the work); the ties are given (YteipfcflijdapaaDoorTie.lean); close each card by the builder's one call (the guide's Derived/Test/ToyasCard.lean, 'card_holds'). Laid BY PROGRAM, IN A SANDBOX (cutbox-door.mjs). By AI agents, Wed Nov 11 2026. No macro, syntax, notation, axiom, sorry.
-/
import Derived.Test.YteipfcflijdapaaDoorRows
import GoSem.ClaimSeven
namespace Go.Proofs.YteipfcflijdapaaDoor
namespace Rows

/-- THE TIED CARD OF 'tombolalaw02.EuclidInverse'. -/
def euclidInverseCard : Claim7 := { stood := { row := euclidInverseRow, standIns := [], harness := (true, "971423db9753d6bb7b911a208d49e86e805605284b4b5a8add1d030eff2eb8f9"), looks := false }, kinds := [], alts := [], laidByText := true, laidKinds := [.data], laidTests := true, laidLooks := .later }
def EuclidInverseCardSaid : Prop := Claim7.holds Tryd.pinned (.plain (OpenSpec.ofChange euclidInverseSpec)) euclidInverseCard

/-- THE TIED CARD OF 'tombolalaw02.EuclidCommon'. -/
def euclidCommonCard : Claim7 := { stood := { row := euclidCommonRow, standIns := [], harness := (true, "971423db9753d6bb7b911a208d49e86e805605284b4b5a8add1d030eff2eb8f9"), looks := false }, kinds := [], alts := [], laidByText := true, laidKinds := [.data], laidTests := true, laidLooks := .later }
def EuclidCommonCardSaid : Prop := Claim7.holds Tryd.pinned (.plain (OpenSpec.ofChange euclidCommonSpec)) euclidCommonCard

/-- THE TIED CARD OF 'tombolalaw02.EuclidMods'. -/
def euclidModsCard : Claim7 := { stood := { row := euclidModsRow, standIns := [], harness := (true, "971423db9753d6bb7b911a208d49e86e805605284b4b5a8add1d030eff2eb8f9"), looks := false }, kinds := [], alts := [], laidByText := true, laidKinds := [.data], laidTests := true, laidLooks := .later }
def EuclidModsCardSaid : Prop := Claim7.holds Tryd.pinned (.plain (OpenSpec.ofChange euclidModsSpec)) euclidModsCard

/-- THE SECOND FORM's CARD OF 'tombolalaw02.EuclidInverse'. -/
def euclidInverseUptoCard : Claim7 := { stood := { row := euclidInverseUptoRow, standIns := [], harness := (true, "971423db9753d6bb7b911a208d49e86e805605284b4b5a8add1d030eff2eb8f9"), looks := false }, kinds := [], alts := [], laidByText := true, laidKinds := [.data], laidTests := true, laidLooks := .later }
def EuclidInverseUptoCardSaid : Prop := Claim7.holds Tryd.pinned (.plain (OpenSpec.upto euclidInverseSpec)) euclidInverseUptoCard

/-- THE SECOND FORM's CARD OF 'tombolalaw02.EuclidCommon'. -/
def euclidCommonUptoCard : Claim7 := { stood := { row := euclidCommonUptoRow, standIns := [], harness := (true, "971423db9753d6bb7b911a208d49e86e805605284b4b5a8add1d030eff2eb8f9"), looks := false }, kinds := [], alts := [], laidByText := true, laidKinds := [.data], laidTests := true, laidLooks := .later }
def EuclidCommonUptoCardSaid : Prop := Claim7.holds Tryd.pinned (.plain (OpenSpec.upto euclidCommonSpec)) euclidCommonUptoCard

/-- THE SECOND FORM's CARD OF 'tombolalaw02.EuclidMods'. -/
def euclidModsUptoCard : Claim7 := { stood := { row := euclidModsUptoRow, standIns := [], harness := (true, "971423db9753d6bb7b911a208d49e86e805605284b4b5a8add1d030eff2eb8f9"), looks := false }, kinds := [], alts := [], laidByText := true, laidKinds := [.data], laidTests := true, laidLooks := .later }
def EuclidModsUptoCardSaid : Prop := Claim7.holds Tryd.pinned (.plain (OpenSpec.upto euclidModsSpec)) euclidModsUptoCard
end Rows
end Go.Proofs.YteipfcflijdapaaDoor
