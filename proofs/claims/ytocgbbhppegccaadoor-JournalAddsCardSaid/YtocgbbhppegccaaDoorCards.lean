/-
  DERIVED. GIVEN WITH THE SEED: THE CARDS: each row of YtocgbbhppegccaaDoorRows.lean that lists a variable, with what it lists TIED to the program's text (the seventh form; the later family's looks); each row that meets fmt, with fmt's text TOLD by the authors' own Lean function (tested against real Go, not proved from fmt's source: count such statements apart). THE CARD IS WHAT COUNTS. Prove the row's statement (the work); the ties are given (YtocgbbhppegccaaDoorTie.lean); close each card by the builder's one call (the guide's Derived/Test/ToyasCard.lean, 'card_holds'). Laid BY PROGRAM, IN A SANDBOX (cutbox-door.mjs). By AI agents, Wed Nov 11 2026. No macro, syntax, notation, axiom, sorry.
-/
import Derived.Test.YtocgbbhppegccaaDoorRows
import GoSem.ClaimSeven
namespace Go.Proofs.YtocgbbhppegccaaDoor
namespace Rows

/-- THE TIED CARD OF 'tombolalaw46.JournalLasts'. -/
def journalLastsCard : Claim7 := { stood := { row := journalLastsRow, standIns := [], harness := (true, "80177c93aecfef83eb10b8b70f08b21866fbd8ae77727796ee34aae781f9057f"), looks := false }, kinds := [], alts := [], laidByText := true, laidKinds := [.data], laidTests := true, laidLooks := .later }
def JournalLastsCardSaid : Prop := Claim7.holds Tryd.pinned (.plain (OpenSpec.ofChange journalLastsSpec)) journalLastsCard

/-- THE TIED CARD OF 'tombolalaw46.JournalNobody'. -/
def journalNobodyCard : Claim7 := { stood := { row := journalNobodyRow, standIns := [], harness := (true, "80177c93aecfef83eb10b8b70f08b21866fbd8ae77727796ee34aae781f9057f"), looks := false }, kinds := [], alts := [], laidByText := true, laidKinds := [.data], laidTests := true, laidLooks := .later }
def JournalNobodyCardSaid : Prop := Claim7.holds Tryd.pinned (.plain (OpenSpec.ofChange journalNobodySpec)) journalNobodyCard

/-- THE TIED CARD OF 'tombolalaw46.JournalAdds'. -/
def journalAddsCard : Claim7 := { stood := { row := journalAddsRow, standIns := [], harness := (true, "80177c93aecfef83eb10b8b70f08b21866fbd8ae77727796ee34aae781f9057f"), looks := false }, kinds := [], alts := [], laidByText := true, laidKinds := [.data], laidTests := true, laidLooks := .later }
def JournalAddsCardSaid : Prop := Claim7.holds Tryd.pinned (.plain (OpenSpec.ofChange journalAddsSpec)) journalAddsCard

/-- THE SECOND FORM's CARD OF 'tombolalaw46.JournalLasts'. -/
def journalLastsUptoCard : Claim7 := { stood := { row := journalLastsUptoRow, standIns := [], harness := (true, "80177c93aecfef83eb10b8b70f08b21866fbd8ae77727796ee34aae781f9057f"), looks := false }, kinds := [], alts := [], laidByText := true, laidKinds := [.data], laidTests := true, laidLooks := .later }
def JournalLastsUptoCardSaid : Prop := Claim7.holds Tryd.pinned (.plain (OpenSpec.upto journalLastsSpec)) journalLastsUptoCard

/-- THE SECOND FORM's CARD OF 'tombolalaw46.JournalNobody'. -/
def journalNobodyUptoCard : Claim7 := { stood := { row := journalNobodyUptoRow, standIns := [], harness := (true, "80177c93aecfef83eb10b8b70f08b21866fbd8ae77727796ee34aae781f9057f"), looks := false }, kinds := [], alts := [], laidByText := true, laidKinds := [.data], laidTests := true, laidLooks := .later }
def JournalNobodyUptoCardSaid : Prop := Claim7.holds Tryd.pinned (.plain (OpenSpec.upto journalNobodySpec)) journalNobodyUptoCard

/-- THE SECOND FORM's CARD OF 'tombolalaw46.JournalAdds'. -/
def journalAddsUptoCard : Claim7 := { stood := { row := journalAddsUptoRow, standIns := [], harness := (true, "80177c93aecfef83eb10b8b70f08b21866fbd8ae77727796ee34aae781f9057f"), looks := false }, kinds := [], alts := [], laidByText := true, laidKinds := [.data], laidTests := true, laidLooks := .later }
def JournalAddsUptoCardSaid : Prop := Claim7.holds Tryd.pinned (.plain (OpenSpec.upto journalAddsSpec)) journalAddsUptoCard
end Rows
end Go.Proofs.YtocgbbhppegccaaDoor
