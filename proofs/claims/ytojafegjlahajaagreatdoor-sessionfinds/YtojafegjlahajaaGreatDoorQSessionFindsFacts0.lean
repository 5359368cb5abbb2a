/- Texts of this proof. -/
import Derived.Test.YtojafegjlahajaaGreatDoorRows
import Derived.JoinedOf
import Derived.KernelRfl
namespace Go.Proofs.YtojafegjlahajaaGreatDoor.sessionFinds
set_option linter.unusedVariables false
set_option maxRecDepth 100000
theorem Sq : (laidOutB Tryz.pinned.checked.prog) = true := by kernel_rfl
theorem SB : (mapsRowed Tryz.pinned.checked.prog) = true := by kernel_rfl
theorem SV : ((Rows.sessionFindsRow.inPlace == Tryz.pinned.checked.prog.inPlace 11)) = true := by kernel_rfl
theorem Sr : ((Rows.sessionFindsRow.unfollowed == Tryz.pinned.checked.prog.unfollowed 11)) = true := by kernel_rfl
end Go.Proofs.YtojafegjlahajaaGreatDoor.sessionFinds
