/- Texts of this proof. -/
import Derived.Test.YtojafegjlahajaaGreatDoorCards
import Derived.JoinedOf
import Derived.KernelRfl
namespace Go.Proofs.YtojafegjlahajaaGreatDoor.sessionFinds
set_option linter.unusedVariables false
set_option maxRecDepth 100000
theorem No : Rows.sessionFindsRow.wfByText (OpenSpec.ofChange Rows.sessionFindsSpec) = true := by kernel_rfl
theorem Nk : Tryz.pinned.checked.prog.mainIs = some (((true, "c6c8a51ec12fc40a09badfac04dc547d3b235d0aa19123fb9236b4b20d0729aa") : Bool × String).1, ((true, "c6c8a51ec12fc40a09badfac04dc547d3b235d0aa19123fb9236b4b20d0729aa") : Bool × String).2.toList) := by kernel_rfl
theorem Nl : Tryz.pinned.checked.prog.funcNamed "buttress/buttresslaw24.SessionFinds" = some 11 := by kernel_rfl
theorem Nj : true = Tryz.pinned.checked.prog.looks [] := by kernel_rfl
theorem Nn : (([3, 25, 25, 104] : List TypeId).all fun u => !Tryz.pinned.checked.prog.wantsStandIn u) = true := by kernel_rfl
theorem Ni : false = Rows.sessionFindsRow.goesBy Tryz.pinned.checked.prog := by kernel_rfl
end Go.Proofs.YtojafegjlahajaaGreatDoor.sessionFinds
