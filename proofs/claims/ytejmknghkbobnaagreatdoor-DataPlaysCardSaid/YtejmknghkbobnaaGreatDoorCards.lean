/-
  DERIVED. GIVEN WITH THE SEED: THE CARDS: each row of YtejmknghkbobnaaGreatDoorRows.lean that lists a variable, with what it lists TIED to the program's text (the seventh form; the later family's looks); each row that meets fmt, with fmt's text TOLD by the authors' own Lean function (tested against real Go, not proved from fmt's source: count such statements apart). THE CARD IS WHAT COUNTS. Prove the row's statement (the work); the ties are given (YtejmknghkbobnaaGreatDoorTie.lean); close each card by the builder's one call (the guide's Derived/Test/ToyasCard.lean, 'card_holds'). Laid BY PROGRAM, IN A SANDBOX (cutbox-door.mjs). By AI agents, Wed Nov 11 2026. No macro, syntax, notation, axiom, sorry.
-/
import Derived.Test.YtejmknghkbobnaaGreatDoorRows
import GoSem.ClaimSeven
namespace Go.Proofs.YtejmknghkbobnaaGreatDoor
namespace Rows

/-- THE TIED CARD OF 'limewashlaw10.TxnPlays'. -/
def txnPlaysCard : Claim7 := { stood := { row := txnPlaysRow, standIns := [], harness := (true, "923e89126de76aaf192b6716f88a00228ad1135a80823431eaf3619d81b59a0f"), looks := false }, kinds := [], alts := [], laidByText := true, laidKinds := [.data], laidTests := true, laidLooks := .later }
def TxnPlaysCardSaid : Prop := Claim7.holds Tryz.pinned (.plain (OpenSpec.ofChange txnPlaysSpec)) txnPlaysCard

/-- THE TIED CARD OF 'limewashlaw12.DataPlays'. -/
def dataPlaysCard : Claim7 := { stood := { row := dataPlaysRow, standIns := [], harness := (true, "923e89126de76aaf192b6716f88a00228ad1135a80823431eaf3619d81b59a0f"), looks := false }, kinds := [], alts := [], laidByText := true, laidKinds := [.data], laidTests := true, laidLooks := .later }
def DataPlaysCardSaid : Prop := Claim7.holds Tryz.pinned (.plain (OpenSpec.ofChange dataPlaysSpec)) dataPlaysCard

/-- THE SECOND FORM's CARD OF 'limewashlaw10.TxnPlays'. -/
def txnPlaysUptoCard : Claim7 := { stood := { row := txnPlaysUptoRow, standIns := [], harness := (true, "923e89126de76aaf192b6716f88a00228ad1135a80823431eaf3619d81b59a0f"), looks := false }, kinds := [], alts := [], laidByText := true, laidKinds := [.data], laidTests := true, laidLooks := .later }
def TxnPlaysUptoCardSaid : Prop := Claim7.holds Tryz.pinned (.plain (OpenSpec.upto txnPlaysSpec)) txnPlaysUptoCard

/-- THE SECOND FORM's CARD OF 'limewashlaw12.DataPlays'. -/
def dataPlaysUptoCard : Claim7 := { stood := { row := dataPlaysUptoRow, standIns := [], harness := (true, "923e89126de76aaf192b6716f88a00228ad1135a80823431eaf3619d81b59a0f"), looks := false }, kinds := [], alts := [], laidByText := true, laidKinds := [.data], laidTests := true, laidLooks := .later }
def DataPlaysUptoCardSaid : Prop := Claim7.holds Tryz.pinned (.plain (OpenSpec.upto dataPlaysSpec)) dataPlaysUptoCard
end Rows
end Go.Proofs.YtejmknghkbobnaaGreatDoor
