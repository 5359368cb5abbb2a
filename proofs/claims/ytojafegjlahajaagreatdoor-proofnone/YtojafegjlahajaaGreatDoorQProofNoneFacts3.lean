/- Texts of this proof. -/
import Derived.Test.YtojafegjlahajaaGreatDoorCards
import Derived.JoinedOf
import Derived.KernelRfl
namespace Go.Proofs.YtojafegjlahajaaGreatDoor.proofNone
set_option linter.unusedVariables false
set_option maxRecDepth 100000
theorem cfW : Rows.proofNoneRow.wfByText (OpenSpec.ofChange Rows.proofNoneSpec) = true := by kernel_rfl
theorem cfM : Tryz.pinned.checked.prog.mainIs = some (((true, "c6c8a51ec12fc40a09badfac04dc547d3b235d0aa19123fb9236b4b20d0729aa") : Bool × String).1, ((true, "c6c8a51ec12fc40a09badfac04dc547d3b235d0aa19123fb9236b4b20d0729aa") : Bool × String).2.toList) := by kernel_rfl
theorem cfN : Tryz.pinned.checked.prog.funcNamed "buttress/buttresslaw13.ProofNone" = some 12 := by kernel_rfl
theorem cfL : true = Tryz.pinned.checked.prog.looks [] := by kernel_rfl
theorem cfS : (([9] : List TypeId).all fun u => !Tryz.pinned.checked.prog.wantsStandIn u) = true := by kernel_rfl
theorem cfG : false = Rows.proofNoneRow.goesBy Tryz.pinned.checked.prog := by kernel_rfl
end Go.Proofs.YtojafegjlahajaaGreatDoor.proofNone
