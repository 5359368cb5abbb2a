/- Texts of this proof. -/
import Derived.Test.YtojafegjlahajaaGreatDoorRows
import Derived.JoinedOf
import Derived.KernelRfl
namespace Go.Proofs.YtojafegjlahajaaGreatDoor.sessionOne
set_option linter.unusedVariables false
set_option maxRecDepth 100000
theorem QL : (Tryz.pinned.checked.prog.mayEnter) = true := by kernel_rfl
theorem QM : ((Rows.sessionOneRow.lifted == Tryz.pinned.checked.prog.liftsFinal)) = true := by kernel_rfl
theorem QN : ((Tryz.pinned.checked.prog.make == some Rows.sessionOneRow.make)) = true := by kernel_rfl
end Go.Proofs.YtojafegjlahajaaGreatDoor.sessionOne
