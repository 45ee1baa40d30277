/- What holds of the whole program, once: what every row asks of it. Conditions: none. -/
import Derived.Test.YtlfgmbbiealpoaaGreatDoorWr
import Derived.Test.YtlfgmbbiealpoaaGreatDoorTie
import Derived.Test.YtlfgmbbiealpoaaGreatDoorCards
set_option linter.unusedVariables false
set_option maxRecDepth 100000
namespace Go.Proofs.YtlfgmbbiealpoaaGreatDoor
open Go Go.ChangeShapes Go.WideShapes Go.ChangeAt Go.RowKit

theorem rowedT : mapsRowed Tryz.prog = true := by kernel_rfl
theorem stopsT : (([] : List String) == Tryz.prog.stops) = true := by kernel_rfl
theorem stopsN : (Tryz.prog.stops == []) = true := by kernel_rfl
theorem knobsN : (Tryz.prog.stopKnobs == []) = true := by kernel_rfl
theorem plainT : (Rows.deskNilRow.plainKeys == Tryz.prog.plainKeys) = true := by kernel_rfl
theorem heardT : Tryz.prog.stopsHeard = true := by kernel_rfl
theorem enterT : Tryz.prog.mayEnter = true := by kernel_rfl
theorem liftsT : (Rows.deskNilRow.lifted == Tryz.prog.liftsFinal) = true := by kernel_rfl
theorem makeT : (Tryz.prog.make == some Rows.deskNilRow.make) = true := by kernel_rfl
theorem looksT : true = Tryz.prog.looks [] := by kernel_rfl
theorem noGoes : Tryz.prog.funcs.any Func.goes = false := by kernel_rfl
end Go.Proofs.YtlfgmbbiealpoaaGreatDoor
