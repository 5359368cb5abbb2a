/- Texts of this proof. -/
import Derived.Test.YtdjoggpacmpfnaaGreatDoorRows
import Derived.JoinedOf
import Derived.KernelRfl
namespace Go.Proofs.YtdjoggpacmpfnaaGreatDoor.framePuts
set_option linter.unusedVariables false
set_option maxRecDepth 100000
theorem XI : (Tryz.pinned.checked.prog.mayEnter) = true := by kernel_rfl
theorem XJ : ((Rows.framePutsRow.lifted == Tryz.pinned.checked.prog.liftsFinal)) = true := by kernel_rfl
theorem XK : ((Tryz.pinned.checked.prog.make == some Rows.framePutsRow.make)) = true := by kernel_rfl
end Go.Proofs.YtdjoggpacmpfnaaGreatDoor.framePuts
