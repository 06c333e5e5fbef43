/-
  DERIVED. GIVEN WITH THE SEED: THE CARDS: each row of YtfmobeeddlnhcaaGreatDoorRows.lean that lists a variable, with what it lists TIED to the program's text (the seventh form; the later family's looks); each row that meets fmt, with fmt's text TOLD by the authors' own Lean function (tested against real Go, not proved from fmt's source: count such statements apart). THE CARD IS WHAT COUNTS. Prove the row's statement (the work); the ties are given (YtfmobeeddlnhcaaGreatDoorTie.lean); close each card by the builder's one call (the guide's Derived/Test/ToyasCard.lean, 'card_holds'). Laid BY PROGRAM, IN A SANDBOX (cutbox-door.mjs). By AI agents, Wed Nov 11 2026. No macro, syntax, notation, axiom, sorry.
-/
import Derived.Test.YtfmobeeddlnhcaaGreatDoorRows
import GoSem.ClaimSeven
namespace Go.Proofs.YtfmobeeddlnhcaaGreatDoor
namespace Rows

/-- THE TIED CARD OF 'limewashlaw12.DataSplits'. -/
def dataSplitsCard : Claim7 := { stood := { row := dataSplitsRow, standIns := [], harness := (true, "86823f34ef1b66bf6a9e27fec04f1b6df401708813b1aa8efbfd405ecb5dacb4"), looks := false }, kinds := [], alts := [], laidByText := true, laidKinds := [.data], laidTests := true, laidLooks := .later }
def DataSplitsCardSaid : Prop := Claim7.holds Tryz.pinned (.plain (OpenSpec.ofChange dataSplitsSpec)) dataSplitsCard

/-- THE TIED CARD OF 'limewashlaw12.DataArray'. -/
def dataArrayCard : Claim7 := { stood := { row := dataArrayRow, standIns := [], harness := (true, "86823f34ef1b66bf6a9e27fec04f1b6df401708813b1aa8efbfd405ecb5dacb4"), looks := false }, kinds := [], alts := [], laidByText := true, laidKinds := [.data], laidTests := true, laidLooks := .later }
def DataArrayCardSaid : Prop := Claim7.holds Tryz.pinned (.plain (OpenSpec.ofChange dataArraySpec)) dataArrayCard

/-- THE TIED CARD OF 'limewashlaw12.DataNone'. -/
def dataNoneCard : Claim7 := { stood := { row := dataNoneRow, standIns := [], harness := (true, "86823f34ef1b66bf6a9e27fec04f1b6df401708813b1aa8efbfd405ecb5dacb4"), looks := false }, kinds := [], alts := [], laidByText := true, laidKinds := [.data], laidTests := true, laidLooks := .later }
def DataNoneCardSaid : Prop := Claim7.holds Tryz.pinned (.plain (OpenSpec.ofChange dataNoneSpec)) dataNoneCard

/-- THE TIED CARD OF 'limewashlaw12.DataPlays'. -/
def dataPlaysCard : Claim7 := { stood := { row := dataPlaysRow, standIns := [], harness := (true, "86823f34ef1b66bf6a9e27fec04f1b6df401708813b1aa8efbfd405ecb5dacb4"), looks := false }, kinds := [], alts := [], laidByText := true, laidKinds := [.data], laidTests := true, laidLooks := .later }
def DataPlaysCardSaid : Prop := Claim7.holds Tryz.pinned (.plain (OpenSpec.ofChange dataPlaysSpec)) dataPlaysCard

/-- THE TIED CARD OF 'limewashlaw12.DataApart'. -/
def dataApartCard : Claim7 := { stood := { row := dataApartRow, standIns := [], harness := (true, "86823f34ef1b66bf6a9e27fec04f1b6df401708813b1aa8efbfd405ecb5dacb4"), looks := false }, kinds := [], alts := [], laidByText := true, laidKinds := [.data], laidTests := true, laidLooks := .later }
def DataApartCardSaid : Prop := Claim7.holds Tryz.pinned (.plain (OpenSpec.ofChange dataApartSpec)) dataApartCard

/-- THE TIED CARD OF 'limewashlaw12.DataQuiet'. -/
def dataQuietCard : Claim7 := { stood := { row := dataQuietRow, standIns := [], harness := (true, "86823f34ef1b66bf6a9e27fec04f1b6df401708813b1aa8efbfd405ecb5dacb4"), looks := false }, kinds := [], alts := [], laidByText := true, laidKinds := [.data], laidTests := true, laidLooks := .later }
def DataQuietCardSaid : Prop := Claim7.holds Tryz.pinned (.plain (OpenSpec.ofChange dataQuietSpec)) dataQuietCard

/-- THE TIED CARD OF 'limewashlaw12.DataCommits'. -/
def dataCommitsCard : Claim7 := { stood := { row := dataCommitsRow, standIns := [], harness := (true, "86823f34ef1b66bf6a9e27fec04f1b6df401708813b1aa8efbfd405ecb5dacb4"), looks := false }, kinds := [], alts := [], laidByText := true, laidKinds := [.data], laidTests := true, laidLooks := .later }
def DataCommitsCardSaid : Prop := Claim7.holds Tryz.pinned (.plain (OpenSpec.ofChange dataCommitsSpec)) dataCommitsCard

/-- THE SECOND FORM's CARD OF 'limewashlaw12.DataSplits'. -/
def dataSplitsUptoCard : Claim7 := { stood := { row := dataSplitsUptoRow, standIns := [], harness := (true, "86823f34ef1b66bf6a9e27fec04f1b6df401708813b1aa8efbfd405ecb5dacb4"), looks := false }, kinds := [], alts := [], laidByText := true, laidKinds := [.data], laidTests := true, laidLooks := .later }
def DataSplitsUptoCardSaid : Prop := Claim7.holds Tryz.pinned (.plain (OpenSpec.upto dataSplitsSpec)) dataSplitsUptoCard

/-- THE SECOND FORM's CARD OF 'limewashlaw12.DataArray'. -/
def dataArrayUptoCard : Claim7 := { stood := { row := dataArrayUptoRow, standIns := [], harness := (true, "86823f34ef1b66bf6a9e27fec04f1b6df401708813b1aa8efbfd405ecb5dacb4"), looks := false }, kinds := [], alts := [], laidByText := true, laidKinds := [.data], laidTests := true, laidLooks := .later }
def DataArrayUptoCardSaid : Prop := Claim7.holds Tryz.pinned (.plain (OpenSpec.upto dataArraySpec)) dataArrayUptoCard

/-- THE SECOND FORM's CARD OF 'limewashlaw12.DataNone'. -/
def dataNoneUptoCard : Claim7 := { stood := { row := dataNoneUptoRow, standIns := [], harness := (true, "86823f34ef1b66bf6a9e27fec04f1b6df401708813b1aa8efbfd405ecb5dacb4"), looks := false }, kinds := [], alts := [], laidByText := true, laidKinds := [.data], laidTests := true, laidLooks := .later }
def DataNoneUptoCardSaid : Prop := Claim7.holds Tryz.pinned (.plain (OpenSpec.upto dataNoneSpec)) dataNoneUptoCard

/-- THE SECOND FORM's CARD OF 'limewashlaw12.DataPlays'. -/
def dataPlaysUptoCard : Claim7 := { stood := { row := dataPlaysUptoRow, standIns := [], harness := (true, "86823f34ef1b66bf6a9e27fec04f1b6df401708813b1aa8efbfd405ecb5dacb4"), looks := false }, kinds := [], alts := [], laidByText := true, laidKinds := [.data], laidTests := true, laidLooks := .later }
def DataPlaysUptoCardSaid : Prop := Claim7.holds Tryz.pinned (.plain (OpenSpec.upto dataPlaysSpec)) dataPlaysUptoCard

/-- THE SECOND FORM's CARD OF 'limewashlaw12.DataApart'. -/
def dataApartUptoCard : Claim7 := { stood := { row := dataApartUptoRow, standIns := [], harness := (true, "86823f34ef1b66bf6a9e27fec04f1b6df401708813b1aa8efbfd405ecb5dacb4"), looks := false }, kinds := [], alts := [], laidByText := true, laidKinds := [.data], laidTests := true, laidLooks := .later }
def DataApartUptoCardSaid : Prop := Claim7.holds Tryz.pinned (.plain (OpenSpec.upto dataApartSpec)) dataApartUptoCard

/-- THE SECOND FORM's CARD OF 'limewashlaw12.DataQuiet'. -/
def dataQuietUptoCard : Claim7 := { stood := { row := dataQuietUptoRow, standIns := [], harness := (true, "86823f34ef1b66bf6a9e27fec04f1b6df401708813b1aa8efbfd405ecb5dacb4"), looks := false }, kinds := [], alts := [], laidByText := true, laidKinds := [.data], laidTests := true, laidLooks := .later }
def DataQuietUptoCardSaid : Prop := Claim7.holds Tryz.pinned (.plain (OpenSpec.upto dataQuietSpec)) dataQuietUptoCard

/-- THE SECOND FORM's CARD OF 'limewashlaw12.DataCommits'. -/
def dataCommitsUptoCard : Claim7 := { stood := { row := dataCommitsUptoRow, standIns := [], harness := (true, "86823f34ef1b66bf6a9e27fec04f1b6df401708813b1aa8efbfd405ecb5dacb4"), looks := false }, kinds := [], alts := [], laidByText := true, laidKinds := [.data], laidTests := true, laidLooks := .later }
def DataCommitsUptoCardSaid : Prop := Claim7.holds Tryz.pinned (.plain (OpenSpec.upto dataCommitsSpec)) dataCommitsUptoCard
end Rows
end Go.Proofs.YtfmobeeddlnhcaaGreatDoor
