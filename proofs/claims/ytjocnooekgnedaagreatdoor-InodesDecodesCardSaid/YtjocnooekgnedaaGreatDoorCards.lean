/-
  DERIVED. GIVEN WITH THE SEED: THE CARDS: each row of YtjocnooekgnedaaGreatDoorRows.lean that lists a variable, with what it lists TIED to the program's text (the seventh form; the later family's looks); each row that meets fmt, with fmt's text TOLD by the authors' own Lean function (tested against real Go, not proved from fmt's source: count such statements apart). THE CARD IS WHAT COUNTS. Prove the row's statement (the work); the ties are given (YtjocnooekgnedaaGreatDoorTie.lean); close each card by the builder's one call (the guide's Derived/Test/ToyasCard.lean, 'card_holds'). Laid BY PROGRAM, IN A SANDBOX (cutbox-door.mjs). By AI agents, Wed Nov 11 2026. No macro, syntax, notation, axiom, sorry.
-/
import Derived.Test.YtjocnooekgnedaaGreatDoorRows
import GoSem.ClaimSeven
namespace Go.Proofs.YtjocnooekgnedaaGreatDoor
namespace Rows

/-- THE TIED CARD OF 'limewashlaw11.InodesChecks'. -/
def inodesChecksCard : Claim7 := { stood := { row := inodesChecksRow, standIns := [], harness := (true, "e8801c0ce7bc0057fd6b75f0dfacb230b8a5f9fbd5fbfd86fb22cd5818a18b38"), looks := false }, kinds := [], alts := [], laidByText := true, laidKinds := [.data], laidTests := true, laidLooks := .later }
def InodesChecksCardSaid : Prop := Claim7.holds Tryz.pinned (.plain (OpenSpec.ofChange inodesChecksSpec)) inodesChecksCard

/-- THE TIED CARD OF 'limewashlaw11.InodesDecodes'. -/
def inodesDecodesCard : Claim7 := { stood := { row := inodesDecodesRow, standIns := [], harness := (true, "e8801c0ce7bc0057fd6b75f0dfacb230b8a5f9fbd5fbfd86fb22cd5818a18b38"), looks := false }, kinds := [], alts := [], laidByText := true, laidKinds := [.data], laidTests := true, laidLooks := .later }
def InodesDecodesCardSaid : Prop := Claim7.holds Tryz.pinned (.plain (OpenSpec.ofChange inodesDecodesSpec)) inodesDecodesCard

/-- THE TIED CARD OF 'limewashlaw11.InodesBack'. -/
def inodesBackCard : Claim7 := { stood := { row := inodesBackRow, standIns := [], harness := (true, "e8801c0ce7bc0057fd6b75f0dfacb230b8a5f9fbd5fbfd86fb22cd5818a18b38"), looks := false }, kinds := [], alts := [], laidByText := true, laidKinds := [.data], laidTests := true, laidLooks := .later }
def InodesBackCardSaid : Prop := Claim7.holds Tryz.pinned (.plain (OpenSpec.ofChange inodesBackSpec)) inodesBackCard

/-- THE TIED CARD OF 'limewashlaw11.InodesAllocs'. -/
def inodesAllocsCard : Claim7 := { stood := { row := inodesAllocsRow, standIns := [], harness := (true, "e8801c0ce7bc0057fd6b75f0dfacb230b8a5f9fbd5fbfd86fb22cd5818a18b38"), looks := false }, kinds := [], alts := [], laidByText := true, laidKinds := [.data], laidTests := true, laidLooks := .later }
def InodesAllocsCardSaid : Prop := Claim7.holds Tryz.pinned (.plain (OpenSpec.ofChange inodesAllocsSpec)) inodesAllocsCard

/-- THE TIED CARD OF 'limewashlaw11.InodesKnown'. -/
def inodesKnownCard : Claim7 := { stood := { row := inodesKnownRow, standIns := [], harness := (true, "e8801c0ce7bc0057fd6b75f0dfacb230b8a5f9fbd5fbfd86fb22cd5818a18b38"), looks := false }, kinds := [], alts := [], laidByText := true, laidKinds := [.data], laidTests := true, laidLooks := .later }
def InodesKnownCardSaid : Prop := Claim7.holds Tryz.pinned (.plain (OpenSpec.ofChange inodesKnownSpec)) inodesKnownCard

/-- THE TIED CARD OF 'limewashlaw11.InodesNone'. -/
def inodesNoneCard : Claim7 := { stood := { row := inodesNoneRow, standIns := [], harness := (true, "e8801c0ce7bc0057fd6b75f0dfacb230b8a5f9fbd5fbfd86fb22cd5818a18b38"), looks := false }, kinds := [], alts := [], laidByText := true, laidKinds := [.data], laidTests := true, laidLooks := .later }
def InodesNoneCardSaid : Prop := Claim7.holds Tryz.pinned (.plain (OpenSpec.ofChange inodesNoneSpec)) inodesNoneCard

/-- THE TIED CARD OF 'limewashlaw11.InodesApart'. -/
def inodesApartCard : Claim7 := { stood := { row := inodesApartRow, standIns := [], harness := (true, "e8801c0ce7bc0057fd6b75f0dfacb230b8a5f9fbd5fbfd86fb22cd5818a18b38"), looks := false }, kinds := [], alts := [], laidByText := true, laidKinds := [.data], laidTests := true, laidLooks := .later }
def InodesApartCardSaid : Prop := Claim7.holds Tryz.pinned (.plain (OpenSpec.ofChange inodesApartSpec)) inodesApartCard

/-- THE SECOND FORM's CARD OF 'limewashlaw11.InodesChecks'. -/
def inodesChecksUptoCard : Claim7 := { stood := { row := inodesChecksUptoRow, standIns := [], harness := (true, "e8801c0ce7bc0057fd6b75f0dfacb230b8a5f9fbd5fbfd86fb22cd5818a18b38"), looks := false }, kinds := [], alts := [], laidByText := true, laidKinds := [.data], laidTests := true, laidLooks := .later }
def InodesChecksUptoCardSaid : Prop := Claim7.holds Tryz.pinned (.plain (OpenSpec.upto inodesChecksSpec)) inodesChecksUptoCard

/-- THE SECOND FORM's CARD OF 'limewashlaw11.InodesDecodes'. -/
def inodesDecodesUptoCard : Claim7 := { stood := { row := inodesDecodesUptoRow, standIns := [], harness := (true, "e8801c0ce7bc0057fd6b75f0dfacb230b8a5f9fbd5fbfd86fb22cd5818a18b38"), looks := false }, kinds := [], alts := [], laidByText := true, laidKinds := [.data], laidTests := true, laidLooks := .later }
def InodesDecodesUptoCardSaid : Prop := Claim7.holds Tryz.pinned (.plain (OpenSpec.upto inodesDecodesSpec)) inodesDecodesUptoCard

/-- THE SECOND FORM's CARD OF 'limewashlaw11.InodesBack'. -/
def inodesBackUptoCard : Claim7 := { stood := { row := inodesBackUptoRow, standIns := [], harness := (true, "e8801c0ce7bc0057fd6b75f0dfacb230b8a5f9fbd5fbfd86fb22cd5818a18b38"), looks := false }, kinds := [], alts := [], laidByText := true, laidKinds := [.data], laidTests := true, laidLooks := .later }
def InodesBackUptoCardSaid : Prop := Claim7.holds Tryz.pinned (.plain (OpenSpec.upto inodesBackSpec)) inodesBackUptoCard

/-- THE SECOND FORM's CARD OF 'limewashlaw11.InodesAllocs'. -/
def inodesAllocsUptoCard : Claim7 := { stood := { row := inodesAllocsUptoRow, standIns := [], harness := (true, "e8801c0ce7bc0057fd6b75f0dfacb230b8a5f9fbd5fbfd86fb22cd5818a18b38"), looks := false }, kinds := [], alts := [], laidByText := true, laidKinds := [.data], laidTests := true, laidLooks := .later }
def InodesAllocsUptoCardSaid : Prop := Claim7.holds Tryz.pinned (.plain (OpenSpec.upto inodesAllocsSpec)) inodesAllocsUptoCard

/-- THE SECOND FORM's CARD OF 'limewashlaw11.InodesKnown'. -/
def inodesKnownUptoCard : Claim7 := { stood := { row := inodesKnownUptoRow, standIns := [], harness := (true, "e8801c0ce7bc0057fd6b75f0dfacb230b8a5f9fbd5fbfd86fb22cd5818a18b38"), looks := false }, kinds := [], alts := [], laidByText := true, laidKinds := [.data], laidTests := true, laidLooks := .later }
def InodesKnownUptoCardSaid : Prop := Claim7.holds Tryz.pinned (.plain (OpenSpec.upto inodesKnownSpec)) inodesKnownUptoCard

/-- THE SECOND FORM's CARD OF 'limewashlaw11.InodesNone'. -/
def inodesNoneUptoCard : Claim7 := { stood := { row := inodesNoneUptoRow, standIns := [], harness := (true, "e8801c0ce7bc0057fd6b75f0dfacb230b8a5f9fbd5fbfd86fb22cd5818a18b38"), looks := false }, kinds := [], alts := [], laidByText := true, laidKinds := [.data], laidTests := true, laidLooks := .later }
def InodesNoneUptoCardSaid : Prop := Claim7.holds Tryz.pinned (.plain (OpenSpec.upto inodesNoneSpec)) inodesNoneUptoCard

/-- THE SECOND FORM's CARD OF 'limewashlaw11.InodesApart'. -/
def inodesApartUptoCard : Claim7 := { stood := { row := inodesApartUptoRow, standIns := [], harness := (true, "e8801c0ce7bc0057fd6b75f0dfacb230b8a5f9fbd5fbfd86fb22cd5818a18b38"), looks := false }, kinds := [], alts := [], laidByText := true, laidKinds := [.data], laidTests := true, laidLooks := .later }
def InodesApartUptoCardSaid : Prop := Claim7.holds Tryz.pinned (.plain (OpenSpec.upto inodesApartSpec)) inodesApartUptoCard
end Rows
end Go.Proofs.YtjocnooekgnedaaGreatDoor
