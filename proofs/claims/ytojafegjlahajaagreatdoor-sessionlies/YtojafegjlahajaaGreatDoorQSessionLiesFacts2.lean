/- Texts of this proof. -/
import Derived.Test.YtojafegjlahajaaGreatDoorRows
import Derived.JoinedOf
import Derived.KernelRfl
namespace Go.Proofs.YtojafegjlahajaaGreatDoor.sessionLies
set_option linter.unusedVariables false
set_option maxRecDepth 100000
theorem R_ : (Tryz.pinned.checked.prog.mayEnter) = true := by kernel_rfl
theorem Sa : ((Rows.sessionLiesRow.lifted == Tryz.pinned.checked.prog.liftsFinal)) = true := by kernel_rfl
theorem Sb : ((Tryz.pinned.checked.prog.make == some Rows.sessionLiesRow.make)) = true := by kernel_rfl
end Go.Proofs.YtojafegjlahajaaGreatDoor.sessionLies
