/- Texts of this proof. -/
import Derived.Test.YtojafegjlahajaaGreatDoorCards
import Derived.JoinedOf
import Derived.KernelRfl
namespace Go.Proofs.YtojafegjlahajaaGreatDoor.sessionNone
set_option linter.unusedVariables false
set_option maxRecDepth 100000
theorem cfW : Rows.sessionNoneRow.wfByText (OpenSpec.ofChange Rows.sessionNoneSpec) = true := by kernel_rfl
theorem cfM : Tryz.pinned.checked.prog.mainIs = some (((true, "c6c8a51ec12fc40a09badfac04dc547d3b235d0aa19123fb9236b4b20d0729aa") : Bool × String).1, ((true, "c6c8a51ec12fc40a09badfac04dc547d3b235d0aa19123fb9236b4b20d0729aa") : Bool × String).2.toList) := by kernel_rfl
theorem cfN : Tryz.pinned.checked.prog.funcNamed "buttress/buttresslaw24.SessionNone" = some 8 := by kernel_rfl
theorem cfL : true = Tryz.pinned.checked.prog.looks [] := by kernel_rfl
theorem cfS : (([3, 3, 9, 81] : List TypeId).all fun u => !Tryz.pinned.checked.prog.wantsStandIn u) = true := by kernel_rfl
theorem cfG : false = Rows.sessionNoneRow.goesBy Tryz.pinned.checked.prog := by kernel_rfl
end Go.Proofs.YtojafegjlahajaaGreatDoor.sessionNone
