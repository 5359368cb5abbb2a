/- Texts of this proof. -/
import Derived.Test.YtojafegjlahajaaGreatDoorRows
import Derived.JoinedOf
import Derived.KernelRfl
namespace Go.Proofs.YtojafegjlahajaaGreatDoor.proofNone
set_option linter.unusedVariables false
set_option maxRecDepth 100000
theorem jf25 : (Tryz.pinned.checked.prog.mayEnter) = true := by kernel_rfl
theorem jf26 : ((Rows.proofNoneRow.lifted == Tryz.pinned.checked.prog.liftsFinal)) = true := by kernel_rfl
theorem jf27 : ((Tryz.pinned.checked.prog.make == some Rows.proofNoneRow.make)) = true := by kernel_rfl
end Go.Proofs.YtojafegjlahajaaGreatDoor.proofNone
