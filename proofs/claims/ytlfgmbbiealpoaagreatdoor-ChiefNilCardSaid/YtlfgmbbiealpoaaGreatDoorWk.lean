/- The program's main, as the rows tell it. Conditions: none. -/
import Derived.Test.YtlfgmbbiealpoaaGreatDoorWr
set_option linter.unusedVariables false
set_option maxRecDepth 100000
namespace Go.Proofs.YtlfgmbbiealpoaaGreatDoor
open Go Go.ChangeShapes Go.WideShapes Go.ChangeAt Go.RowKit

theorem mainT : Tryz.prog.mainIs = some (true, "2d15c1594fddb50522b462fb2d7dec92efa0eb3f725aea0f564a7e287067d91b".toList) := by kernel_rfl
end Go.Proofs.YtlfgmbbiealpoaaGreatDoor
