/-
  NARROWER THAN 'FOR EVERY INPUT', by the rows' own cells (each row's printed sentence says how): InodesChecks: laid · InodesDecodes: laid · InodesBack: laid · InodesAllocs: laid · InodesKnown: laid · InodesNone: laid · InodesApart: laid.
  DERIVED. THE GIVEN ROWS OF THIS SEAT. 7 by the template 'for every input the law returns true; each argument reads behind the call as it read before'; 0 by the template 'total and deterministic' (their statements: YtjocnooekgnedaaGreatDoorTotals.lean).
  GIVEN WITH THE SEED: the statements are not yours to turn. If you find one false, say at which input.
  Laid BY PROGRAM, IN A SANDBOX (cutbox-rows.mjs): the forced cells as the released guide's own fill.sh prints them over the translation 75b4862d583c27b1… (all of the seat's roots in one cut). By AI agents, Wed Nov 11 2026. No macro, syntax, notation, axiom, sorry.
-/
import Derived.Test.YtjocnooekgnedaaGreatDoorChecked
import GoSem.Claim
import GoSem.ClaimJoined
import GoSem.ClaimMapViews
import Derived.JoinedTies
import Derived.KernelRfl
namespace Go.Proofs.YtjocnooekgnedaaGreatDoor
/- THE CELL 'sum', in the pinned program and in every row, IS THE sha256 OF THE DUMP (.gsa) THAT YtjocnooekgnedaaGreatDoorProg.lean LOADS. Nothing in Lean hashes anything: it is a label: what it is worth is what the hold of that sum in a sandbox is worth. -/
noncomputable def Tryz.pinned : Pinned := { name := "ytjocnooekgnedaagreatdoor", sum := "75b4862d583c27b166e82ffc50d51fae5a7ed8ab33c3b0344337740a46e54187", checked := Tryz.checked }
namespace Rows
def none {H : Type} : Left H := { results := [], args := [] }

/- WHAT THE LISTED PACKAGE-LEVEL VARIABLES READ AS WHEN THE CALL BEGINS. Each datum BY PROGRAM (the guide's laid-datum.mjs) off the statement by which the dump's own 'gosem.cut.vars' lays the variable. In a bare row this is a premise. The card (YtjocnooekgnedaaGreatDoorCards.lean) ties it to the program's text. -/
def laid_limewash_sums_half {H : Type} : DataW H := .agg [.lit (.int .u32 0), .lit (.int .u32 498536548), .lit (.int .u32 997073096), .lit (.int .u32 651767980), .lit (.int .u32 1994146192), .lit (.int .u32 1802195444), .lit (.int .u32 1303535960), .lit (.int .u32 1342533948), .lit (.int .u32 3988292384), .lit (.int .u32 4027552580), .lit (.int .u32 3604390888), .lit (.int .u32 3412177804), .lit (.int .u32 2607071920), .lit (.int .u32 2262029012), .lit (.int .u32 2685067896), .lit (.int .u32 3183342108)]

/-- 'limewashlaw11.InodesChecks': WHATEVER THE INPUT: true; the input reads as it did. -/
def inodesChecksSpec : ChangeSpec := { name := "inodesChecks", fn := fun _ => fun
  | [d1, d2] => { results := [.lit (.bool true)], args := [d1, d2] }
  | _ => none }
def inodesChecksRow : OpenClaim := { program := "ytjocnooekgnedaagreatdoor", sum := "75b4862d583c27b166e82ffc50d51fae5a7ed8ab33c3b0344337740a46e54187", func := "limewash/limewashlaw11.InodesChecks", spec := "inodesChecks", unfollowed := true, recurses := true, named := ["limewash/sums.half"], apart := false, laid := [("limewash/sums.half", laid_limewash_sums_half)] }
def InodesChecksSaid : Prop := inodesChecksRow.holds Tryz.pinned (OpenSpec.ofChange inodesChecksSpec)

/-- ITS FALSE NEIGHBOUR: 'it returns false'. Refute it at one input. -/
def inodesChecksWrong : ChangeSpec := { name := "inodesChecks", fn := fun _ => fun
  | [d1, d2] => { results := [.lit (.bool false)], args := [d1, d2] }
  | _ => none }
def InodesChecksWrongFalsely : Prop := inodesChecksRow.holds Tryz.pinned (OpenSpec.ofChange inodesChecksWrong)

/-- 'limewashlaw11.InodesDecodes': WHATEVER THE INPUT: true; the input reads as it did. -/
def inodesDecodesSpec : ChangeSpec := { name := "inodesDecodes", fn := fun _ => fun
  | [d1, d2] => { results := [.lit (.bool true)], args := [d1, d2] }
  | _ => none }
def inodesDecodesRow : OpenClaim := { program := "ytjocnooekgnedaagreatdoor", sum := "75b4862d583c27b166e82ffc50d51fae5a7ed8ab33c3b0344337740a46e54187", func := "limewash/limewashlaw11.InodesDecodes", spec := "inodesDecodes", unfollowed := true, recurses := true, named := ["limewash/sums.half"], apart := false, laid := [("limewash/sums.half", laid_limewash_sums_half)] }
def InodesDecodesSaid : Prop := inodesDecodesRow.holds Tryz.pinned (OpenSpec.ofChange inodesDecodesSpec)

/-- ITS FALSE NEIGHBOUR: 'it returns false'. Refute it at one input. -/
def inodesDecodesWrong : ChangeSpec := { name := "inodesDecodes", fn := fun _ => fun
  | [d1, d2] => { results := [.lit (.bool false)], args := [d1, d2] }
  | _ => none }
def InodesDecodesWrongFalsely : Prop := inodesDecodesRow.holds Tryz.pinned (OpenSpec.ofChange inodesDecodesWrong)

/-- 'limewashlaw11.InodesBack': WHATEVER THE INPUT: true; the input reads as it did. -/
def inodesBackSpec : ChangeSpec := { name := "inodesBack", fn := fun _ => fun
  | [d1, d2, d3] => { results := [.lit (.bool true)], args := [d1, d2, d3] }
  | _ => none }
def inodesBackRow : OpenClaim := { program := "ytjocnooekgnedaagreatdoor", sum := "75b4862d583c27b166e82ffc50d51fae5a7ed8ab33c3b0344337740a46e54187", func := "limewash/limewashlaw11.InodesBack", spec := "inodesBack", unfollowed := true, recurses := true, named := ["limewash/sums.half"], apart := false, laid := [("limewash/sums.half", laid_limewash_sums_half)] }
def InodesBackSaid : Prop := inodesBackRow.holds Tryz.pinned (OpenSpec.ofChange inodesBackSpec)

/-- ITS FALSE NEIGHBOUR: 'it returns false'. Refute it at one input. -/
def inodesBackWrong : ChangeSpec := { name := "inodesBack", fn := fun _ => fun
  | [d1, d2, d3] => { results := [.lit (.bool false)], args := [d1, d2, d3] }
  | _ => none }
def InodesBackWrongFalsely : Prop := inodesBackRow.holds Tryz.pinned (OpenSpec.ofChange inodesBackWrong)

/-- 'limewashlaw11.InodesAllocs': WHATEVER THE INPUT: true; the input reads as it did. -/
def inodesAllocsSpec : ChangeSpec := { name := "inodesAllocs", fn := fun _ => fun
  | [d1, d2] => { results := [.lit (.bool true)], args := [d1, d2] }
  | _ => none }
def inodesAllocsRow : OpenClaim := { program := "ytjocnooekgnedaagreatdoor", sum := "75b4862d583c27b166e82ffc50d51fae5a7ed8ab33c3b0344337740a46e54187", func := "limewash/limewashlaw11.InodesAllocs", spec := "inodesAllocs", unfollowed := true, recurses := true, named := ["limewash/sums.half"], apart := false, laid := [("limewash/sums.half", laid_limewash_sums_half)] }
def InodesAllocsSaid : Prop := inodesAllocsRow.holds Tryz.pinned (OpenSpec.ofChange inodesAllocsSpec)

/-- ITS FALSE NEIGHBOUR: 'it returns false'. Refute it at one input. -/
def inodesAllocsWrong : ChangeSpec := { name := "inodesAllocs", fn := fun _ => fun
  | [d1, d2] => { results := [.lit (.bool false)], args := [d1, d2] }
  | _ => none }
def InodesAllocsWrongFalsely : Prop := inodesAllocsRow.holds Tryz.pinned (OpenSpec.ofChange inodesAllocsWrong)

/-- 'limewashlaw11.InodesKnown': WHATEVER THE INPUT: true; the input reads as it did. -/
def inodesKnownSpec : ChangeSpec := { name := "inodesKnown", fn := fun _ => fun
  | [] => { results := [.lit (.bool true)], args := [] }
  | _ => none }
def inodesKnownRow : OpenClaim := { program := "ytjocnooekgnedaagreatdoor", sum := "75b4862d583c27b166e82ffc50d51fae5a7ed8ab33c3b0344337740a46e54187", func := "limewash/limewashlaw11.InodesKnown", spec := "inodesKnown", unfollowed := true, recurses := true, named := ["limewash/sums.half"], apart := false, laid := [("limewash/sums.half", laid_limewash_sums_half)] }
def InodesKnownSaid : Prop := inodesKnownRow.holds Tryz.pinned (OpenSpec.ofChange inodesKnownSpec)

/-- ITS FALSE NEIGHBOUR: 'it returns false'. Refute it at one input. -/
def inodesKnownWrong : ChangeSpec := { name := "inodesKnown", fn := fun _ => fun
  | [] => { results := [.lit (.bool false)], args := [] }
  | _ => none }
def InodesKnownWrongFalsely : Prop := inodesKnownRow.holds Tryz.pinned (OpenSpec.ofChange inodesKnownWrong)

/-- 'limewashlaw11.InodesNone': WHATEVER THE INPUT: true; the input reads as it did. -/
def inodesNoneSpec : ChangeSpec := { name := "inodesNone", fn := fun _ => fun
  | [d1, d2] => { results := [.lit (.bool true)], args := [d1, d2] }
  | _ => none }
def inodesNoneRow : OpenClaim := { program := "ytjocnooekgnedaagreatdoor", sum := "75b4862d583c27b166e82ffc50d51fae5a7ed8ab33c3b0344337740a46e54187", func := "limewash/limewashlaw11.InodesNone", spec := "inodesNone", unfollowed := true, recurses := true, named := ["limewash/sums.half"], apart := false, laid := [("limewash/sums.half", laid_limewash_sums_half)] }
def InodesNoneSaid : Prop := inodesNoneRow.holds Tryz.pinned (OpenSpec.ofChange inodesNoneSpec)

/-- ITS FALSE NEIGHBOUR: 'it returns false'. Refute it at one input. -/
def inodesNoneWrong : ChangeSpec := { name := "inodesNone", fn := fun _ => fun
  | [d1, d2] => { results := [.lit (.bool false)], args := [d1, d2] }
  | _ => none }
def InodesNoneWrongFalsely : Prop := inodesNoneRow.holds Tryz.pinned (OpenSpec.ofChange inodesNoneWrong)

/-- 'limewashlaw11.InodesApart': WHATEVER THE INPUT: true; the input reads as it did. -/
def inodesApartSpec : ChangeSpec := { name := "inodesApart", fn := fun _ => fun
  | [d] => { results := [.lit (.bool true)], args := [d] }
  | _ => none }
def inodesApartRow : OpenClaim := { program := "ytjocnooekgnedaagreatdoor", sum := "75b4862d583c27b166e82ffc50d51fae5a7ed8ab33c3b0344337740a46e54187", func := "limewash/limewashlaw11.InodesApart", spec := "inodesApart", unfollowed := true, recurses := true, named := ["limewash/sums.half"], apart := false, laid := [("limewash/sums.half", laid_limewash_sums_half)] }
def InodesApartSaid : Prop := inodesApartRow.holds Tryz.pinned (OpenSpec.ofChange inodesApartSpec)

/-- ITS FALSE NEIGHBOUR: 'it returns false'. Refute it at one input. -/
def inodesApartWrong : ChangeSpec := { name := "inodesApart", fn := fun _ => fun
  | [d] => { results := [.lit (.bool false)], args := [d] }
  | _ => none }
def InodesApartWrongFalsely : Prop := inodesApartRow.holds Tryz.pinned (OpenSpec.ofChange inodesApartWrong)

/- THE SECOND FORM. 'bulk': how many values and letters a reading holds, each counted each time it is reached (what is shared counts as often as it is met; a slice's spare places count too). A statement '..UptoSaid' is the law's where the arguments, and the package variables that the reading takes, are together of bulk at most 1048576: NARROWER than '..Said'. Prove '..Said' where nothing that the law and all that it calls make is longer than what came in: it says more and counts as full. Else prove '..UptoSaid'. A law counts once. -/
mutual
def uptoBulk {H : Type} : DataW H → Nat
  | .lit (.string bytes) => bytes.length + 1
  | .lit _ => 1
  | .nil => 1
  | .ptr d => uptoBulk d + 1
  | .slice elems spare => uptoBulkAll elems + uptoBulkAll spare + 1
  | .agg parts => uptoBulkAll parts + 1
  | .iface _ d => uptoBulk d + 1
  | .map entries => uptoBulkEntries entries + 1
  | .held _ => 1
def uptoBulkAll {H : Type} : List (DataW H) → Nat
  | [] => 0
  | d :: r => uptoBulk d + uptoBulkAll r
def uptoBulkEntries {H : Type} : List (Lit × DataW H) → Nat
  | [] => 0
  | x :: r => uptoBulkEntry x + uptoBulkEntries r
def uptoBulkEntry {H : Type} : Lit × DataW H → Nat
  | (.string bytes, d) => bytes.length + uptoBulk d + 1
  | (_, d) => uptoBulk d + 1
 end
def uptoSmall : (H : Type) → List (DataW H) → Bool := fun _ ds => decide (uptoBulkAll ds ≤ 1048576)
def OpenSpec.upto (s : _root_.Go.ChangeSpec) : _root_.Go.OpenSpec := { _root_.Go.OpenSpec.ofChange s with cond := some uptoSmall }

/-- 'limewashlaw11.InodesChecks', WHERE WHAT IT READS IS OF BULK AT MOST 1048576: true; the input reads as it did. -/
def inodesChecksUptoRow : OpenClaim := { program := "ytjocnooekgnedaagreatdoor", sum := "75b4862d583c27b166e82ffc50d51fae5a7ed8ab33c3b0344337740a46e54187", func := "limewash/limewashlaw11.InodesChecks", spec := "inodesChecks", unfollowed := true, recurses := true, named := ["limewash/sums.half"], apart := false, laid := [("limewash/sums.half", laid_limewash_sums_half)], narrowed := true }
def InodesChecksUptoSaid : Prop := inodesChecksUptoRow.holds Tryz.pinned (OpenSpec.upto inodesChecksSpec)

/-- 'limewashlaw11.InodesDecodes', WHERE WHAT IT READS IS OF BULK AT MOST 1048576: true; the input reads as it did. -/
def inodesDecodesUptoRow : OpenClaim := { program := "ytjocnooekgnedaagreatdoor", sum := "75b4862d583c27b166e82ffc50d51fae5a7ed8ab33c3b0344337740a46e54187", func := "limewash/limewashlaw11.InodesDecodes", spec := "inodesDecodes", unfollowed := true, recurses := true, named := ["limewash/sums.half"], apart := false, laid := [("limewash/sums.half", laid_limewash_sums_half)], narrowed := true }
def InodesDecodesUptoSaid : Prop := inodesDecodesUptoRow.holds Tryz.pinned (OpenSpec.upto inodesDecodesSpec)

/-- 'limewashlaw11.InodesBack', WHERE WHAT IT READS IS OF BULK AT MOST 1048576: true; the input reads as it did. -/
def inodesBackUptoRow : OpenClaim := { program := "ytjocnooekgnedaagreatdoor", sum := "75b4862d583c27b166e82ffc50d51fae5a7ed8ab33c3b0344337740a46e54187", func := "limewash/limewashlaw11.InodesBack", spec := "inodesBack", unfollowed := true, recurses := true, named := ["limewash/sums.half"], apart := false, laid := [("limewash/sums.half", laid_limewash_sums_half)], narrowed := true }
def InodesBackUptoSaid : Prop := inodesBackUptoRow.holds Tryz.pinned (OpenSpec.upto inodesBackSpec)

/-- 'limewashlaw11.InodesAllocs', WHERE WHAT IT READS IS OF BULK AT MOST 1048576: true; the input reads as it did. -/
def inodesAllocsUptoRow : OpenClaim := { program := "ytjocnooekgnedaagreatdoor", sum := "75b4862d583c27b166e82ffc50d51fae5a7ed8ab33c3b0344337740a46e54187", func := "limewash/limewashlaw11.InodesAllocs", spec := "inodesAllocs", unfollowed := true, recurses := true, named := ["limewash/sums.half"], apart := false, laid := [("limewash/sums.half", laid_limewash_sums_half)], narrowed := true }
def InodesAllocsUptoSaid : Prop := inodesAllocsUptoRow.holds Tryz.pinned (OpenSpec.upto inodesAllocsSpec)

/-- 'limewashlaw11.InodesKnown', WHERE WHAT IT READS IS OF BULK AT MOST 1048576: true; the input reads as it did. -/
def inodesKnownUptoRow : OpenClaim := { program := "ytjocnooekgnedaagreatdoor", sum := "75b4862d583c27b166e82ffc50d51fae5a7ed8ab33c3b0344337740a46e54187", func := "limewash/limewashlaw11.InodesKnown", spec := "inodesKnown", unfollowed := true, recurses := true, named := ["limewash/sums.half"], apart := false, laid := [("limewash/sums.half", laid_limewash_sums_half)], narrowed := true }
def InodesKnownUptoSaid : Prop := inodesKnownUptoRow.holds Tryz.pinned (OpenSpec.upto inodesKnownSpec)

/-- 'limewashlaw11.InodesNone', WHERE WHAT IT READS IS OF BULK AT MOST 1048576: true; the input reads as it did. -/
def inodesNoneUptoRow : OpenClaim := { program := "ytjocnooekgnedaagreatdoor", sum := "75b4862d583c27b166e82ffc50d51fae5a7ed8ab33c3b0344337740a46e54187", func := "limewash/limewashlaw11.InodesNone", spec := "inodesNone", unfollowed := true, recurses := true, named := ["limewash/sums.half"], apart := false, laid := [("limewash/sums.half", laid_limewash_sums_half)], narrowed := true }
def InodesNoneUptoSaid : Prop := inodesNoneUptoRow.holds Tryz.pinned (OpenSpec.upto inodesNoneSpec)

/-- 'limewashlaw11.InodesApart', WHERE WHAT IT READS IS OF BULK AT MOST 1048576: true; the input reads as it did. -/
def inodesApartUptoRow : OpenClaim := { program := "ytjocnooekgnedaagreatdoor", sum := "75b4862d583c27b166e82ffc50d51fae5a7ed8ab33c3b0344337740a46e54187", func := "limewash/limewashlaw11.InodesApart", spec := "inodesApart", unfollowed := true, recurses := true, named := ["limewash/sums.half"], apart := false, laid := [("limewash/sums.half", laid_limewash_sums_half)], narrowed := true }
def InodesApartUptoSaid : Prop := inodesApartUptoRow.holds Tryz.pinned (OpenSpec.upto inodesApartSpec)

end Rows
end Go.Proofs.YtjocnooekgnedaaGreatDoor
