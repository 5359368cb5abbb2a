/- Texts of this proof. -/
import Derived.Test.YtdjoggpacmpfnaaGreatDoorRows
import Derived.JoinedOf
import Derived.KernelRfl
namespace Go.Proofs.YtdjoggpacmpfnaaGreatDoor.framePuts
set_option linter.unusedVariables false
set_option maxRecDepth 100000
theorem Xr : (laidOutB Tryz.pinned.checked.prog) = true := by kernel_rfl
theorem XC : (mapsRowed Tryz.pinned.checked.prog) = true := by kernel_rfl
theorem XV : ((Rows.framePutsRow.inPlace == Tryz.pinned.checked.prog.inPlace 5)) = true := by kernel_rfl
theorem Xs : ((Rows.framePutsRow.unfollowed == Tryz.pinned.checked.prog.unfollowed 5)) = true := by kernel_rfl
end Go.Proofs.YtdjoggpacmpfnaaGreatDoor.framePuts
