/- Texts of this proof. -/
import Derived.Test.YtojafegjlahajaaGreatDoorCards
import Derived.JoinedOf
import Derived.KernelRfl
namespace Go.Proofs.YtojafegjlahajaaGreatDoor.sessionLies
set_option linter.unusedVariables false
set_option maxRecDepth 100000
theorem M0 : Rows.sessionLiesRow.wfByText (OpenSpec.ofChange Rows.sessionLiesSpec) = true := by kernel_rfl
theorem MX : Tryz.pinned.checked.prog.mainIs = some (((true, "c6c8a51ec12fc40a09badfac04dc547d3b235d0aa19123fb9236b4b20d0729aa") : Bool × String).1, ((true, "c6c8a51ec12fc40a09badfac04dc547d3b235d0aa19123fb9236b4b20d0729aa") : Bool × String).2.toList) := by kernel_rfl
theorem MY : Tryz.pinned.checked.prog.funcNamed "buttress/buttresslaw24.SessionLies" = some 10 := by kernel_rfl
theorem MW : true = Tryz.pinned.checked.prog.looks [] := by kernel_rfl
theorem MZ : (([3, 25, 25, 25] : List TypeId).all fun u => !Tryz.pinned.checked.prog.wantsStandIn u) = true := by kernel_rfl
theorem MV : false = Rows.sessionLiesRow.goesBy Tryz.pinned.checked.prog := by kernel_rfl
end Go.Proofs.YtojafegjlahajaaGreatDoor.sessionLies
