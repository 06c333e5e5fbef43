/-
  NARROWER THAN 'FOR EVERY INPUT', by the rows' own cells (each row's printed sentence says how): TxnKnown: laid · TxnReads: laid · TxnNothing: laid · TxnBlocks: laid · TxnFull: laid · TxnAtomic: laid.
  DERIVED. THE GIVEN ROWS OF THIS SEAT. 6 by the template 'for every input the law returns true; each argument reads behind the call as it read before'; 0 by the template 'total and deterministic' (their statements: YtfgfdjaiamaelaaGreatDoorTotals.lean).
  GIVEN WITH THE SEED: the statements are not yours to turn. If you find one false, say at which input.
  Laid BY PROGRAM, IN A SANDBOX (cutbox-rows.mjs): the forced cells as the released guide's own fill.sh prints them over the translation 3b77aae36d6743d1… (all of the seat's roots in one cut). By AI agents, Wed Nov 11 2026. No macro, syntax, notation, axiom, sorry.
-/
import Derived.Test.YtfgfdjaiamaelaaGreatDoorChecked
import GoSem.Claim
import GoSem.ClaimJoined
import GoSem.ClaimMapViews
import Derived.JoinedTies
import Derived.KernelRfl
namespace Go.Proofs.YtfgfdjaiamaelaaGreatDoor
/- THE CELL 'sum', in the pinned program and in every row, IS THE sha256 OF THE DUMP (.gsa) THAT YtfgfdjaiamaelaaGreatDoorProg.lean LOADS. Nothing in Lean hashes anything: it is a label: what it is worth is what the hold of that sum in a sandbox is worth. -/
noncomputable def Tryz.pinned : Pinned := { name := "ytfgfdjaiamaelaagreatdoor", sum := "3b77aae36d6743d1c53c0c5856f670aca4000529c410ecd307f3ef0743cdaf60", checked := Tryz.checked }
namespace Rows
def none {H : Type} : Left H := { results := [], args := [] }

/- WHAT THE LISTED PACKAGE-LEVEL VARIABLES READ AS WHEN THE CALL BEGINS. Each datum BY PROGRAM (the guide's laid-datum.mjs) off the statement by which the dump's own 'gosem.cut.vars' lays the variable. In a bare row this is a premise. The card (YtfgfdjaiamaelaaGreatDoorCards.lean) ties it to the program's text. -/
def laid_limewash_sums_half {H : Type} : DataW H := .agg [.lit (.int .u32 0), .lit (.int .u32 498536548), .lit (.int .u32 997073096), .lit (.int .u32 651767980), .lit (.int .u32 1994146192), .lit (.int .u32 1802195444), .lit (.int .u32 1303535960), .lit (.int .u32 1342533948), .lit (.int .u32 3988292384), .lit (.int .u32 4027552580), .lit (.int .u32 3604390888), .lit (.int .u32 3412177804), .lit (.int .u32 2607071920), .lit (.int .u32 2262029012), .lit (.int .u32 2685067896), .lit (.int .u32 3183342108)]

/-- 'limewashlaw10.TxnKnown': WHATEVER THE INPUT: true; the input reads as it did. -/
def txnKnownSpec : ChangeSpec := { name := "txnKnown", fn := fun _ => fun
  | [] => { results := [.lit (.bool true)], args := [] }
  | _ => none }
def txnKnownRow : OpenClaim := { program := "ytfgfdjaiamaelaagreatdoor", sum := "3b77aae36d6743d1c53c0c5856f670aca4000529c410ecd307f3ef0743cdaf60", func := "limewash/limewashlaw10.TxnKnown", spec := "txnKnown", unfollowed := true, recurses := true, named := ["limewash/sums.half"], apart := false, laid := [("limewash/sums.half", laid_limewash_sums_half)] }
def TxnKnownSaid : Prop := txnKnownRow.holds Tryz.pinned (OpenSpec.ofChange txnKnownSpec)

/-- ITS FALSE NEIGHBOUR: 'it returns false'. Refute it at one input. -/
def txnKnownWrong : ChangeSpec := { name := "txnKnown", fn := fun _ => fun
  | [] => { results := [.lit (.bool false)], args := [] }
  | _ => none }
def TxnKnownWrongFalsely : Prop := txnKnownRow.holds Tryz.pinned (OpenSpec.ofChange txnKnownWrong)

/-- 'limewashlaw10.TxnReads': WHATEVER THE INPUT: true; the input reads as it did. -/
def txnReadsSpec : ChangeSpec := { name := "txnReads", fn := fun _ => fun
  | [d1, d2] => { results := [.lit (.bool true)], args := [d1, d2] }
  | _ => none }
def txnReadsRow : OpenClaim := { program := "ytfgfdjaiamaelaagreatdoor", sum := "3b77aae36d6743d1c53c0c5856f670aca4000529c410ecd307f3ef0743cdaf60", func := "limewash/limewashlaw10.TxnReads", spec := "txnReads", unfollowed := true, recurses := true, named := ["limewash/sums.half"], apart := false, laid := [("limewash/sums.half", laid_limewash_sums_half)] }
def TxnReadsSaid : Prop := txnReadsRow.holds Tryz.pinned (OpenSpec.ofChange txnReadsSpec)

/-- ITS FALSE NEIGHBOUR: 'it returns false'. Refute it at one input. -/
def txnReadsWrong : ChangeSpec := { name := "txnReads", fn := fun _ => fun
  | [d1, d2] => { results := [.lit (.bool false)], args := [d1, d2] }
  | _ => none }
def TxnReadsWrongFalsely : Prop := txnReadsRow.holds Tryz.pinned (OpenSpec.ofChange txnReadsWrong)

/-- 'limewashlaw10.TxnNothing': WHATEVER THE INPUT: true; the input reads as it did. -/
def txnNothingSpec : ChangeSpec := { name := "txnNothing", fn := fun _ => fun
  | [d] => { results := [.lit (.bool true)], args := [d] }
  | _ => none }
def txnNothingRow : OpenClaim := { program := "ytfgfdjaiamaelaagreatdoor", sum := "3b77aae36d6743d1c53c0c5856f670aca4000529c410ecd307f3ef0743cdaf60", func := "limewash/limewashlaw10.TxnNothing", spec := "txnNothing", unfollowed := true, recurses := true, named := ["limewash/sums.half"], apart := false, laid := [("limewash/sums.half", laid_limewash_sums_half)] }
def TxnNothingSaid : Prop := txnNothingRow.holds Tryz.pinned (OpenSpec.ofChange txnNothingSpec)

/-- ITS FALSE NEIGHBOUR: 'it returns false'. Refute it at one input. -/
def txnNothingWrong : ChangeSpec := { name := "txnNothing", fn := fun _ => fun
  | [d] => { results := [.lit (.bool false)], args := [d] }
  | _ => none }
def TxnNothingWrongFalsely : Prop := txnNothingRow.holds Tryz.pinned (OpenSpec.ofChange txnNothingWrong)

/-- 'limewashlaw10.TxnBlocks': WHATEVER THE INPUT: true; the input reads as it did. -/
def txnBlocksSpec : ChangeSpec := { name := "txnBlocks", fn := fun _ => fun
  | [d] => { results := [.lit (.bool true)], args := [d] }
  | _ => none }
def txnBlocksRow : OpenClaim := { program := "ytfgfdjaiamaelaagreatdoor", sum := "3b77aae36d6743d1c53c0c5856f670aca4000529c410ecd307f3ef0743cdaf60", func := "limewash/limewashlaw10.TxnBlocks", spec := "txnBlocks", unfollowed := true, recurses := true, named := ["limewash/sums.half"], apart := false, laid := [("limewash/sums.half", laid_limewash_sums_half)] }
def TxnBlocksSaid : Prop := txnBlocksRow.holds Tryz.pinned (OpenSpec.ofChange txnBlocksSpec)

/-- ITS FALSE NEIGHBOUR: 'it returns false'. Refute it at one input. -/
def txnBlocksWrong : ChangeSpec := { name := "txnBlocks", fn := fun _ => fun
  | [d] => { results := [.lit (.bool false)], args := [d] }
  | _ => none }
def TxnBlocksWrongFalsely : Prop := txnBlocksRow.holds Tryz.pinned (OpenSpec.ofChange txnBlocksWrong)

/-- 'limewashlaw10.TxnFull': WHATEVER THE INPUT: true; the input reads as it did. -/
def txnFullSpec : ChangeSpec := { name := "txnFull", fn := fun _ => fun
  | [d1, d2] => { results := [.lit (.bool true)], args := [d1, d2] }
  | _ => none }
def txnFullRow : OpenClaim := { program := "ytfgfdjaiamaelaagreatdoor", sum := "3b77aae36d6743d1c53c0c5856f670aca4000529c410ecd307f3ef0743cdaf60", func := "limewash/limewashlaw10.TxnFull", spec := "txnFull", unfollowed := true, recurses := true, named := ["limewash/sums.half"], apart := false, laid := [("limewash/sums.half", laid_limewash_sums_half)] }
def TxnFullSaid : Prop := txnFullRow.holds Tryz.pinned (OpenSpec.ofChange txnFullSpec)

/-- ITS FALSE NEIGHBOUR: 'it returns false'. Refute it at one input. -/
def txnFullWrong : ChangeSpec := { name := "txnFull", fn := fun _ => fun
  | [d1, d2] => { results := [.lit (.bool false)], args := [d1, d2] }
  | _ => none }
def TxnFullWrongFalsely : Prop := txnFullRow.holds Tryz.pinned (OpenSpec.ofChange txnFullWrong)

/-- 'limewashlaw10.TxnAtomic': WHATEVER THE INPUT: true; the input reads as it did. -/
def txnAtomicSpec : ChangeSpec := { name := "txnAtomic", fn := fun _ => fun
  | [d1, d2, d3] => { results := [.lit (.bool true)], args := [d1, d2, d3] }
  | _ => none }
def txnAtomicRow : OpenClaim := { program := "ytfgfdjaiamaelaagreatdoor", sum := "3b77aae36d6743d1c53c0c5856f670aca4000529c410ecd307f3ef0743cdaf60", func := "limewash/limewashlaw10.TxnAtomic", spec := "txnAtomic", unfollowed := true, recurses := true, named := ["limewash/sums.half"], apart := false, laid := [("limewash/sums.half", laid_limewash_sums_half)] }
def TxnAtomicSaid : Prop := txnAtomicRow.holds Tryz.pinned (OpenSpec.ofChange txnAtomicSpec)

/-- ITS FALSE NEIGHBOUR: 'it returns false'. Refute it at one input. -/
def txnAtomicWrong : ChangeSpec := { name := "txnAtomic", fn := fun _ => fun
  | [d1, d2, d3] => { results := [.lit (.bool false)], args := [d1, d2, d3] }
  | _ => none }
def TxnAtomicWrongFalsely : Prop := txnAtomicRow.holds Tryz.pinned (OpenSpec.ofChange txnAtomicWrong)

/- THE SECOND FORM. 'bulk': how many values and letters a reading holds, each counted each time it is reached (what is shared counts as often as it is met; a slice's spare places count too). A statement '..UptoSaid' is the law's where the arguments, and the package variables that the reading takes, are together of bulk at most 1048576: NARROWER than '..Said'. Prove '..Said' where nothing that the law and all that it calls make is longer than what came in: it says more and counts as full. Else prove '..UptoSaid'. A law counts once. -/
mutual
def uptoBulk {H : Type} : DataW H → Nat
  | .lit (.string bytes) => bytes.length + 1
  | .lit _ => 1
  | .nil => 1
  | .ptr d => uptoBulk d + 1
  | .slice elems spare => uptoBulkAll elems + uptoBulkAll spare + 1
  | .agg parts => uptoBulkAll parts + 1
  | .iface _ d => uptoBulk d + 1
  | .map entries => uptoBulkEntries entries + 1
  | .held _ => 1
def uptoBulkAll {H : Type} : List (DataW H) → Nat
  | [] => 0
  | d :: r => uptoBulk d + uptoBulkAll r
def uptoBulkEntries {H : Type} : List (Lit × DataW H) → Nat
  | [] => 0
  | x :: r => uptoBulkEntry x + uptoBulkEntries r
def uptoBulkEntry {H : Type} : Lit × DataW H → Nat
  | (.string bytes, d) => bytes.length + uptoBulk d + 1
  | (_, d) => uptoBulk d + 1
 end
def uptoSmall : (H : Type) → List (DataW H) → Bool := fun _ ds => decide (uptoBulkAll ds ≤ 1048576)
def OpenSpec.upto (s : _root_.Go.ChangeSpec) : _root_.Go.OpenSpec := { _root_.Go.OpenSpec.ofChange s with cond := some uptoSmall }

/-- 'limewashlaw10.TxnKnown', WHERE WHAT IT READS IS OF BULK AT MOST 1048576: true; the input reads as it did. -/
def txnKnownUptoRow : OpenClaim := { program := "ytfgfdjaiamaelaagreatdoor", sum := "3b77aae36d6743d1c53c0c5856f670aca4000529c410ecd307f3ef0743cdaf60", func := "limewash/limewashlaw10.TxnKnown", spec := "txnKnown", unfollowed := true, recurses := true, named := ["limewash/sums.half"], apart := false, laid := [("limewash/sums.half", laid_limewash_sums_half)], narrowed := true }
def TxnKnownUptoSaid : Prop := txnKnownUptoRow.holds Tryz.pinned (OpenSpec.upto txnKnownSpec)

/-- 'limewashlaw10.TxnReads', WHERE WHAT IT READS IS OF BULK AT MOST 1048576: true; the input reads as it did. -/
def txnReadsUptoRow : OpenClaim := { program := "ytfgfdjaiamaelaagreatdoor", sum := "3b77aae36d6743d1c53c0c5856f670aca4000529c410ecd307f3ef0743cdaf60", func := "limewash/limewashlaw10.TxnReads", spec := "txnReads", unfollowed := true, recurses := true, named := ["limewash/sums.half"], apart := false, laid := [("limewash/sums.half", laid_limewash_sums_half)], narrowed := true }
def TxnReadsUptoSaid : Prop := txnReadsUptoRow.holds Tryz.pinned (OpenSpec.upto txnReadsSpec)

/-- 'limewashlaw10.TxnNothing', WHERE WHAT IT READS IS OF BULK AT MOST 1048576: true; the input reads as it did. -/
def txnNothingUptoRow : OpenClaim := { program := "ytfgfdjaiamaelaagreatdoor", sum := "3b77aae36d6743d1c53c0c5856f670aca4000529c410ecd307f3ef0743cdaf60", func := "limewash/limewashlaw10.TxnNothing", spec := "txnNothing", unfollowed := true, recurses := true, named := ["limewash/sums.half"], apart := false, laid := [("limewash/sums.half", laid_limewash_sums_half)], narrowed := true }
def TxnNothingUptoSaid : Prop := txnNothingUptoRow.holds Tryz.pinned (OpenSpec.upto txnNothingSpec)

/-- 'limewashlaw10.TxnBlocks', WHERE WHAT IT READS IS OF BULK AT MOST 1048576: true; the input reads as it did. -/
def txnBlocksUptoRow : OpenClaim := { program := "ytfgfdjaiamaelaagreatdoor", sum := "3b77aae36d6743d1c53c0c5856f670aca4000529c410ecd307f3ef0743cdaf60", func := "limewash/limewashlaw10.TxnBlocks", spec := "txnBlocks", unfollowed := true, recurses := true, named := ["limewash/sums.half"], apart := false, laid := [("limewash/sums.half", laid_limewash_sums_half)], narrowed := true }
def TxnBlocksUptoSaid : Prop := txnBlocksUptoRow.holds Tryz.pinned (OpenSpec.upto txnBlocksSpec)

/-- 'limewashlaw10.TxnFull', WHERE WHAT IT READS IS OF BULK AT MOST 1048576: true; the input reads as it did. -/
def txnFullUptoRow : OpenClaim := { program := "ytfgfdjaiamaelaagreatdoor", sum := "3b77aae36d6743d1c53c0c5856f670aca4000529c410ecd307f3ef0743cdaf60", func := "limewash/limewashlaw10.TxnFull", spec := "txnFull", unfollowed := true, recurses := true, named := ["limewash/sums.half"], apart := false, laid := [("limewash/sums.half", laid_limewash_sums_half)], narrowed := true }
def TxnFullUptoSaid : Prop := txnFullUptoRow.holds Tryz.pinned (OpenSpec.upto txnFullSpec)

/-- 'limewashlaw10.TxnAtomic', WHERE WHAT IT READS IS OF BULK AT MOST 1048576: true; the input reads as it did. -/
def txnAtomicUptoRow : OpenClaim := { program := "ytfgfdjaiamaelaagreatdoor", sum := "3b77aae36d6743d1c53c0c5856f670aca4000529c410ecd307f3ef0743cdaf60", func := "limewash/limewashlaw10.TxnAtomic", spec := "txnAtomic", unfollowed := true, recurses := true, named := ["limewash/sums.half"], apart := false, laid := [("limewash/sums.half", laid_limewash_sums_half)], narrowed := true }
def TxnAtomicUptoSaid : Prop := txnAtomicUptoRow.holds Tryz.pinned (OpenSpec.upto txnAtomicSpec)

end Rows
end Go.Proofs.YtfgfdjaiamaelaaGreatDoor
