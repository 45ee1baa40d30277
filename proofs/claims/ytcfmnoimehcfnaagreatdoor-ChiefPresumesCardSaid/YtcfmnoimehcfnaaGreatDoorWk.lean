/- The program's main, as the rows tell it. Conditions: none. -/
import Derived.Test.YtcfmnoimehcfnaaGreatDoorWr
set_option linter.unusedVariables false
set_option maxRecDepth 100000
namespace Go.Proofs.YtcfmnoimehcfnaaGreatDoor
open Go Go.ChangeShapes Go.WideShapes Go.ChangeAt Go.RowKit

theorem mainT : Tryz.prog.mainIs = some (true, "94e7422748b81089c209564227daaa93d7fd9ed6f5f31dcb8c9a95358a58db66".toList) := by kernel_rfl
end Go.Proofs.YtcfmnoimehcfnaaGreatDoor
