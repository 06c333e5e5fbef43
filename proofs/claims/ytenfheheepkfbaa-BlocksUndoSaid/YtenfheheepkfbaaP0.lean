/- Closed facts on the program, for the rows. -/
import Derived.Test.YtenfheheepkfbaaProg
import Derived.ProofKit
namespace Go.Proofs.Ytenfheheepkfbaa
open Go.ChangeShapes Go.WideShapes Go.ChangeAt Go.RowKit

theorem Try.own : ownKnob Try.prog.godebug = none := by kernel_rfl
theorem Try.laidOut : laidOutB Try.prog = true := by kernel_rfl
theorem Try.cells23 : Try.prog.cellsOf 23 = 3 := by kernel_rfl

end Go.Proofs.Ytenfheheepkfbaa
