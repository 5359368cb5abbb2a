/- Texts of this proof. -/
import Derived.Test.YtojafegjlahajaaGreatDoorRows
import Derived.JoinedOf
import Derived.KernelRfl
namespace Go.Proofs.YtojafegjlahajaaGreatDoor.sessionOne
set_option linter.unusedVariables false
set_option maxRecDepth 100000
theorem Qu : (laidOutB Tryz.pinned.checked.prog) = true := by kernel_rfl
theorem QF : (mapsRowed Tryz.pinned.checked.prog) = true := by kernel_rfl
theorem Q0 : ((Rows.sessionOneRow.inPlace == Tryz.pinned.checked.prog.inPlace 9)) = true := by kernel_rfl
theorem Qv : ((Rows.sessionOneRow.unfollowed == Tryz.pinned.checked.prog.unfollowed 9)) = true := by kernel_rfl
end Go.Proofs.YtojafegjlahajaaGreatDoor.sessionOne
