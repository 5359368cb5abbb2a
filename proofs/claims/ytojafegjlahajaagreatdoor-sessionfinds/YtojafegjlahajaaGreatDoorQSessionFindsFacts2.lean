/- Texts of this proof. -/
import Derived.Test.YtojafegjlahajaaGreatDoorRows
import Derived.JoinedOf
import Derived.KernelRfl
namespace Go.Proofs.YtojafegjlahajaaGreatDoor.sessionFinds
set_option linter.unusedVariables false
set_option maxRecDepth 100000
theorem SH : (Tryz.pinned.checked.prog.mayEnter) = true := by kernel_rfl
theorem SI : ((Rows.sessionFindsRow.lifted == Tryz.pinned.checked.prog.liftsFinal)) = true := by kernel_rfl
theorem SJ : ((Tryz.pinned.checked.prog.make == some Rows.sessionFindsRow.make)) = true := by kernel_rfl
end Go.Proofs.YtojafegjlahajaaGreatDoor.sessionFinds
