/-
  DERIVED. GIVEN WITH THE SEED: THE CARDS: each row of YtloddiipepiocaaGreatDoorRows.lean that lists a variable, with what it lists TIED to the program's text (the seventh form; the later family's looks); each row that meets fmt, with fmt's text TOLD by the authors' own Lean function (tested against real Go, not proved from fmt's source: count such statements apart). THE CARD IS WHAT COUNTS. Prove the row's statement (the work); the ties are given (YtloddiipepiocaaGreatDoorTie.lean); close each card by the builder's one call (the guide's Derived/Test/ToyasCard.lean, 'card_holds'). Laid BY PROGRAM, IN A SANDBOX (cutbox-door.mjs). By AI agents, Wed Nov 11 2026. No macro, syntax, notation, axiom, sorry.
-/
import Derived.Test.YtloddiipepiocaaGreatDoorRows
import GoSem.ClaimSeven
namespace Go.Proofs.YtloddiipepiocaaGreatDoor
namespace Rows

/-- THE TIED CARD OF 'limewashlaw10.TxnBegins'. -/
def txnBeginsCard : Claim7 := { stood := { row := txnBeginsRow, standIns := [], harness := (true, "99fd337e20665d0c70c332cf449ba0241daa6b4c50fcbe9616be7e8ae9377a8f"), looks := false }, kinds := [], alts := [], laidByText := true, laidKinds := [.data], laidTests := true, laidLooks := .later }
def TxnBeginsCardSaid : Prop := Claim7.holds Tryz.pinned (.plain (OpenSpec.ofChange txnBeginsSpec)) txnBeginsCard

/-- THE TIED CARD OF 'limewashlaw10.TxnPlays'. -/
def txnPlaysCard : Claim7 := { stood := { row := txnPlaysRow, standIns := [], harness := (true, "99fd337e20665d0c70c332cf449ba0241daa6b4c50fcbe9616be7e8ae9377a8f"), looks := false }, kinds := [], alts := [], laidByText := true, laidKinds := [.data], laidTests := true, laidLooks := .later }
def TxnPlaysCardSaid : Prop := Claim7.holds Tryz.pinned (.plain (OpenSpec.ofChange txnPlaysSpec)) txnPlaysCard

/-- THE TIED CARD OF 'limewashlaw10.TxnAtomic'. -/
def txnAtomicCard : Claim7 := { stood := { row := txnAtomicRow, standIns := [], harness := (true, "99fd337e20665d0c70c332cf449ba0241daa6b4c50fcbe9616be7e8ae9377a8f"), looks := false }, kinds := [], alts := [], laidByText := true, laidKinds := [.data], laidTests := true, laidLooks := .later }
def TxnAtomicCardSaid : Prop := Claim7.holds Tryz.pinned (.plain (OpenSpec.ofChange txnAtomicSpec)) txnAtomicCard

/-- THE SECOND FORM's CARD OF 'limewashlaw10.TxnBegins'. -/
def txnBeginsUptoCard : Claim7 := { stood := { row := txnBeginsUptoRow, standIns := [], harness := (true, "99fd337e20665d0c70c332cf449ba0241daa6b4c50fcbe9616be7e8ae9377a8f"), looks := false }, kinds := [], alts := [], laidByText := true, laidKinds := [.data], laidTests := true, laidLooks := .later }
def TxnBeginsUptoCardSaid : Prop := Claim7.holds Tryz.pinned (.plain (OpenSpec.upto txnBeginsSpec)) txnBeginsUptoCard

/-- THE SECOND FORM's CARD OF 'limewashlaw10.TxnPlays'. -/
def txnPlaysUptoCard : Claim7 := { stood := { row := txnPlaysUptoRow, standIns := [], harness := (true, "99fd337e20665d0c70c332cf449ba0241daa6b4c50fcbe9616be7e8ae9377a8f"), looks := false }, kinds := [], alts := [], laidByText := true, laidKinds := [.data], laidTests := true, laidLooks := .later }
def TxnPlaysUptoCardSaid : Prop := Claim7.holds Tryz.pinned (.plain (OpenSpec.upto txnPlaysSpec)) txnPlaysUptoCard

/-- THE SECOND FORM's CARD OF 'limewashlaw10.TxnAtomic'. -/
def txnAtomicUptoCard : Claim7 := { stood := { row := txnAtomicUptoRow, standIns := [], harness := (true, "99fd337e20665d0c70c332cf449ba0241daa6b4c50fcbe9616be7e8ae9377a8f"), looks := false }, kinds := [], alts := [], laidByText := true, laidKinds := [.data], laidTests := true, laidLooks := .later }
def TxnAtomicUptoCardSaid : Prop := Claim7.holds Tryz.pinned (.plain (OpenSpec.upto txnAtomicSpec)) txnAtomicUptoCard
end Rows
end Go.Proofs.YtloddiipepiocaaGreatDoor
