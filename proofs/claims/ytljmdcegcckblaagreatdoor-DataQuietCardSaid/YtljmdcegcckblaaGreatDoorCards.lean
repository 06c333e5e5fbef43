/-
  DERIVED. GIVEN WITH THE SEED: THE CARDS: each row of YtljmdcegcckblaaGreatDoorRows.lean that lists a variable, with what it lists TIED to the program's text (the seventh form; the later family's looks); each row that meets fmt, with fmt's text TOLD by the authors' own Lean function (tested against real Go, not proved from fmt's source: count such statements apart). THE CARD IS WHAT COUNTS. Prove the row's statement (the work); the ties are given (YtljmdcegcckblaaGreatDoorTie.lean); close each card by the builder's one call (the guide's Derived/Test/ToyasCard.lean, 'card_holds'). Laid BY PROGRAM, IN A SANDBOX (cutbox-door.mjs). By AI agents, Wed Nov 11 2026. No macro, syntax, notation, axiom, sorry.
-/
import Derived.Test.YtljmdcegcckblaaGreatDoorRows
import GoSem.ClaimSeven
namespace Go.Proofs.YtljmdcegcckblaaGreatDoor
namespace Rows

/-- THE TIED CARD OF 'limewashlaw12.DataArray'. -/
def dataArrayCard : Claim7 := { stood := { row := dataArrayRow, standIns := [], harness := (true, "13a9981fa89d584258343d5f94a49ba00e5d7457fcac4b4ffe77bfe81a809aa0"), looks := false }, kinds := [], alts := [], laidByText := true, laidKinds := [.data], laidTests := true, laidLooks := .later }
def DataArrayCardSaid : Prop := Claim7.holds Tryz.pinned (.plain (OpenSpec.ofChange dataArraySpec)) dataArrayCard

/-- THE TIED CARD OF 'limewashlaw12.DataApart'. -/
def dataApartCard : Claim7 := { stood := { row := dataApartRow, standIns := [], harness := (true, "13a9981fa89d584258343d5f94a49ba00e5d7457fcac4b4ffe77bfe81a809aa0"), looks := false }, kinds := [], alts := [], laidByText := true, laidKinds := [.data], laidTests := true, laidLooks := .later }
def DataApartCardSaid : Prop := Claim7.holds Tryz.pinned (.plain (OpenSpec.ofChange dataApartSpec)) dataApartCard

/-- THE TIED CARD OF 'limewashlaw12.DataQuiet'. -/
def dataQuietCard : Claim7 := { stood := { row := dataQuietRow, standIns := [], harness := (true, "13a9981fa89d584258343d5f94a49ba00e5d7457fcac4b4ffe77bfe81a809aa0"), looks := false }, kinds := [], alts := [], laidByText := true, laidKinds := [.data], laidTests := true, laidLooks := .later }
def DataQuietCardSaid : Prop := Claim7.holds Tryz.pinned (.plain (OpenSpec.ofChange dataQuietSpec)) dataQuietCard

/-- THE TIED CARD OF 'limewashlaw12.DataCommits'. -/
def dataCommitsCard : Claim7 := { stood := { row := dataCommitsRow, standIns := [], harness := (true, "13a9981fa89d584258343d5f94a49ba00e5d7457fcac4b4ffe77bfe81a809aa0"), looks := false }, kinds := [], alts := [], laidByText := true, laidKinds := [.data], laidTests := true, laidLooks := .later }
def DataCommitsCardSaid : Prop := Claim7.holds Tryz.pinned (.plain (OpenSpec.ofChange dataCommitsSpec)) dataCommitsCard

/-- THE SECOND FORM's CARD OF 'limewashlaw12.DataArray'. -/
def dataArrayUptoCard : Claim7 := { stood := { row := dataArrayUptoRow, standIns := [], harness := (true, "13a9981fa89d584258343d5f94a49ba00e5d7457fcac4b4ffe77bfe81a809aa0"), looks := false }, kinds := [], alts := [], laidByText := true, laidKinds := [.data], laidTests := true, laidLooks := .later }
def DataArrayUptoCardSaid : Prop := Claim7.holds Tryz.pinned (.plain (OpenSpec.upto dataArraySpec)) dataArrayUptoCard

/-- THE SECOND FORM's CARD OF 'limewashlaw12.DataApart'. -/
def dataApartUptoCard : Claim7 := { stood := { row := dataApartUptoRow, standIns := [], harness := (true, "13a9981fa89d584258343d5f94a49ba00e5d7457fcac4b4ffe77bfe81a809aa0"), looks := false }, kinds := [], alts := [], laidByText := true, laidKinds := [.data], laidTests := true, laidLooks := .later }
def DataApartUptoCardSaid : Prop := Claim7.holds Tryz.pinned (.plain (OpenSpec.upto dataApartSpec)) dataApartUptoCard

/-- THE SECOND FORM's CARD OF 'limewashlaw12.DataQuiet'. -/
def dataQuietUptoCard : Claim7 := { stood := { row := dataQuietUptoRow, standIns := [], harness := (true, "13a9981fa89d584258343d5f94a49ba00e5d7457fcac4b4ffe77bfe81a809aa0"), looks := false }, kinds := [], alts := [], laidByText := true, laidKinds := [.data], laidTests := true, laidLooks := .later }
def DataQuietUptoCardSaid : Prop := Claim7.holds Tryz.pinned (.plain (OpenSpec.upto dataQuietSpec)) dataQuietUptoCard

/-- THE SECOND FORM's CARD OF 'limewashlaw12.DataCommits'. -/
def dataCommitsUptoCard : Claim7 := { stood := { row := dataCommitsUptoRow, standIns := [], harness := (true, "13a9981fa89d584258343d5f94a49ba00e5d7457fcac4b4ffe77bfe81a809aa0"), looks := false }, kinds := [], alts := [], laidByText := true, laidKinds := [.data], laidTests := true, laidLooks := .later }
def DataCommitsUptoCardSaid : Prop := Claim7.holds Tryz.pinned (.plain (OpenSpec.upto dataCommitsSpec)) dataCommitsUptoCard
end Rows
end Go.Proofs.YtljmdcegcckblaaGreatDoor
