/-
  DERIVED. GIVEN WITH THE SEED: THE CARDS: each row of YtfgfdjaiamaelaaGreatDoorRows.lean that lists a variable, with what it lists TIED to the program's text (the seventh form; the later family's looks); each row that meets fmt, with fmt's text TOLD by the authors' own Lean function (tested against real Go, not proved from fmt's source: count such statements apart). THE CARD IS WHAT COUNTS. Prove the row's statement (the work); the ties are given (YtfgfdjaiamaelaaGreatDoorTie.lean); close each card by the builder's one call (the guide's Derived/Test/ToyasCard.lean, 'card_holds'). Laid BY PROGRAM, IN A SANDBOX (cutbox-door.mjs). By AI agents, Wed Nov 11 2026. No macro, syntax, notation, axiom, sorry.
-/
import Derived.Test.YtfgfdjaiamaelaaGreatDoorRows
import GoSem.ClaimSeven
namespace Go.Proofs.YtfgfdjaiamaelaaGreatDoor
namespace Rows

/-- THE TIED CARD OF 'limewashlaw10.TxnKnown'. -/
def txnKnownCard : Claim7 := { stood := { row := txnKnownRow, standIns := [], harness := (true, "b7afe181b4b591abc8eba0f6329cadd95c6e57db5f0b149c0081f6ae433a3486"), looks := false }, kinds := [], alts := [], laidByText := true, laidKinds := [.data], laidTests := true, laidLooks := .later }
def TxnKnownCardSaid : Prop := Claim7.holds Tryz.pinned (.plain (OpenSpec.ofChange txnKnownSpec)) txnKnownCard

/-- THE TIED CARD OF 'limewashlaw10.TxnReads'. -/
def txnReadsCard : Claim7 := { stood := { row := txnReadsRow, standIns := [], harness := (true, "b7afe181b4b591abc8eba0f6329cadd95c6e57db5f0b149c0081f6ae433a3486"), looks := false }, kinds := [], alts := [], laidByText := true, laidKinds := [.data], laidTests := true, laidLooks := .later }
def TxnReadsCardSaid : Prop := Claim7.holds Tryz.pinned (.plain (OpenSpec.ofChange txnReadsSpec)) txnReadsCard

/-- THE TIED CARD OF 'limewashlaw10.TxnNothing'. -/
def txnNothingCard : Claim7 := { stood := { row := txnNothingRow, standIns := [], harness := (true, "b7afe181b4b591abc8eba0f6329cadd95c6e57db5f0b149c0081f6ae433a3486"), looks := false }, kinds := [], alts := [], laidByText := true, laidKinds := [.data], laidTests := true, laidLooks := .later }
def TxnNothingCardSaid : Prop := Claim7.holds Tryz.pinned (.plain (OpenSpec.ofChange txnNothingSpec)) txnNothingCard

/-- THE TIED CARD OF 'limewashlaw10.TxnBlocks'. -/
def txnBlocksCard : Claim7 := { stood := { row := txnBlocksRow, standIns := [], harness := (true, "b7afe181b4b591abc8eba0f6329cadd95c6e57db5f0b149c0081f6ae433a3486"), looks := false }, kinds := [], alts := [], laidByText := true, laidKinds := [.data], laidTests := true, laidLooks := .later }
def TxnBlocksCardSaid : Prop := Claim7.holds Tryz.pinned (.plain (OpenSpec.ofChange txnBlocksSpec)) txnBlocksCard

/-- THE TIED CARD OF 'limewashlaw10.TxnFull'. -/
def txnFullCard : Claim7 := { stood := { row := txnFullRow, standIns := [], harness := (true, "b7afe181b4b591abc8eba0f6329cadd95c6e57db5f0b149c0081f6ae433a3486"), looks := false }, kinds := [], alts := [], laidByText := true, laidKinds := [.data], laidTests := true, laidLooks := .later }
def TxnFullCardSaid : Prop := Claim7.holds Tryz.pinned (.plain (OpenSpec.ofChange txnFullSpec)) txnFullCard

/-- THE TIED CARD OF 'limewashlaw10.TxnAtomic'. -/
def txnAtomicCard : Claim7 := { stood := { row := txnAtomicRow, standIns := [], harness := (true, "b7afe181b4b591abc8eba0f6329cadd95c6e57db5f0b149c0081f6ae433a3486"), looks := false }, kinds := [], alts := [], laidByText := true, laidKinds := [.data], laidTests := true, laidLooks := .later }
def TxnAtomicCardSaid : Prop := Claim7.holds Tryz.pinned (.plain (OpenSpec.ofChange txnAtomicSpec)) txnAtomicCard

/-- THE SECOND FORM's CARD OF 'limewashlaw10.TxnKnown'. -/
def txnKnownUptoCard : Claim7 := { stood := { row := txnKnownUptoRow, standIns := [], harness := (true, "b7afe181b4b591abc8eba0f6329cadd95c6e57db5f0b149c0081f6ae433a3486"), looks := false }, kinds := [], alts := [], laidByText := true, laidKinds := [.data], laidTests := true, laidLooks := .later }
def TxnKnownUptoCardSaid : Prop := Claim7.holds Tryz.pinned (.plain (OpenSpec.upto txnKnownSpec)) txnKnownUptoCard

/-- THE SECOND FORM's CARD OF 'limewashlaw10.TxnReads'. -/
def txnReadsUptoCard : Claim7 := { stood := { row := txnReadsUptoRow, standIns := [], harness := (true, "b7afe181b4b591abc8eba0f6329cadd95c6e57db5f0b149c0081f6ae433a3486"), looks := false }, kinds := [], alts := [], laidByText := true, laidKinds := [.data], laidTests := true, laidLooks := .later }
def TxnReadsUptoCardSaid : Prop := Claim7.holds Tryz.pinned (.plain (OpenSpec.upto txnReadsSpec)) txnReadsUptoCard

/-- THE SECOND FORM's CARD OF 'limewashlaw10.TxnNothing'. -/
def txnNothingUptoCard : Claim7 := { stood := { row := txnNothingUptoRow, standIns := [], harness := (true, "b7afe181b4b591abc8eba0f6329cadd95c6e57db5f0b149c0081f6ae433a3486"), looks := false }, kinds := [], alts := [], laidByText := true, laidKinds := [.data], laidTests := true, laidLooks := .later }
def TxnNothingUptoCardSaid : Prop := Claim7.holds Tryz.pinned (.plain (OpenSpec.upto txnNothingSpec)) txnNothingUptoCard

/-- THE SECOND FORM's CARD OF 'limewashlaw10.TxnBlocks'. -/
def txnBlocksUptoCard : Claim7 := { stood := { row := txnBlocksUptoRow, standIns := [], harness := (true, "b7afe181b4b591abc8eba0f6329cadd95c6e57db5f0b149c0081f6ae433a3486"), looks := false }, kinds := [], alts := [], laidByText := true, laidKinds := [.data], laidTests := true, laidLooks := .later }
def TxnBlocksUptoCardSaid : Prop := Claim7.holds Tryz.pinned (.plain (OpenSpec.upto txnBlocksSpec)) txnBlocksUptoCard

/-- THE SECOND FORM's CARD OF 'limewashlaw10.TxnFull'. -/
def txnFullUptoCard : Claim7 := { stood := { row := txnFullUptoRow, standIns := [], harness := (true, "b7afe181b4b591abc8eba0f6329cadd95c6e57db5f0b149c0081f6ae433a3486"), looks := false }, kinds := [], alts := [], laidByText := true, laidKinds := [.data], laidTests := true, laidLooks := .later }
def TxnFullUptoCardSaid : Prop := Claim7.holds Tryz.pinned (.plain (OpenSpec.upto txnFullSpec)) txnFullUptoCard

/-- THE SECOND FORM's CARD OF 'limewashlaw10.TxnAtomic'. -/
def txnAtomicUptoCard : Claim7 := { stood := { row := txnAtomicUptoRow, standIns := [], harness := (true, "b7afe181b4b591abc8eba0f6329cadd95c6e57db5f0b149c0081f6ae433a3486"), looks := false }, kinds := [], alts := [], laidByText := true, laidKinds := [.data], laidTests := true, laidLooks := .later }
def TxnAtomicUptoCardSaid : Prop := Claim7.holds Tryz.pinned (.plain (OpenSpec.upto txnAtomicSpec)) txnAtomicUptoCard
end Rows
end Go.Proofs.YtfgfdjaiamaelaaGreatDoor
