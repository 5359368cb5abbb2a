/- Texts of this proof. -/
import Derived.Test.YtojafegjlahajaaGreatDoorRows
import Derived.JoinedOf
import Derived.KernelRfl
namespace Go.Proofs.YtojafegjlahajaaGreatDoor.sessionLies
set_option linter.unusedVariables false
set_option maxRecDepth 100000
theorem RR : (laidOutB Tryz.pinned.checked.prog) = true := by kernel_rfl
theorem R4 : (mapsRowed Tryz.pinned.checked.prog) = true := by kernel_rfl
theorem Sm : ((Rows.sessionLiesRow.inPlace == Tryz.pinned.checked.prog.inPlace 10)) = true := by kernel_rfl
theorem RT : ((Rows.sessionLiesRow.unfollowed == Tryz.pinned.checked.prog.unfollowed 10)) = true := by kernel_rfl
end Go.Proofs.YtojafegjlahajaaGreatDoor.sessionLies
