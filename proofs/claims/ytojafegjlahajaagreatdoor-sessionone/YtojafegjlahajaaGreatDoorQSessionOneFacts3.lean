/- Texts of this proof. -/
import Derived.Test.YtojafegjlahajaaGreatDoorCards
import Derived.JoinedOf
import Derived.KernelRfl
namespace Go.Proofs.YtojafegjlahajaaGreatDoor.sessionOne
set_option linter.unusedVariables false
set_option maxRecDepth 100000
theorem L8 : Rows.sessionOneRow.wfByText (OpenSpec.ofChange Rows.sessionOneSpec) = true := by kernel_rfl
theorem L5 : Tryz.pinned.checked.prog.mainIs = some (((true, "c6c8a51ec12fc40a09badfac04dc547d3b235d0aa19123fb9236b4b20d0729aa") : Bool × String).1, ((true, "c6c8a51ec12fc40a09badfac04dc547d3b235d0aa19123fb9236b4b20d0729aa") : Bool × String).2.toList) := by kernel_rfl
theorem L6 : Tryz.pinned.checked.prog.funcNamed "buttress/buttresslaw24.SessionOne" = some 9 := by kernel_rfl
theorem L4 : true = Tryz.pinned.checked.prog.looks [] := by kernel_rfl
theorem L7 : (([3, 25, 25, 27] : List TypeId).all fun u => !Tryz.pinned.checked.prog.wantsStandIn u) = true := by kernel_rfl
theorem L3 : false = Rows.sessionOneRow.goesBy Tryz.pinned.checked.prog := by kernel_rfl
end Go.Proofs.YtojafegjlahajaaGreatDoor.sessionOne
