/- Texts of this proof. -/
import Derived.Test.YtdjoggpacmpfnaaGreatDoorCards
import Derived.JoinedOf
import Derived.KernelRfl
namespace Go.Proofs.YtdjoggpacmpfnaaGreatDoor.framePuts
set_option linter.unusedVariables false
set_option maxRecDepth 100000
theorem RJ : Rows.framePutsRow.wfByText (OpenSpec.ofChange Rows.framePutsSpec) = true := by kernel_rfl
theorem RG : Tryz.pinned.checked.prog.mainIs = some (((true, "62a663be3302ebcb3b073617e60359e0d7800180a5ea62a79adff8b79735354f") : Bool × String).1, ((true, "62a663be3302ebcb3b073617e60359e0d7800180a5ea62a79adff8b79735354f") : Bool × String).2.toList) := by kernel_rfl
theorem RH : Tryz.pinned.checked.prog.funcNamed "buttress/buttresslaw17.FramePuts" = some 5 := by kernel_rfl
theorem RF : true = Tryz.pinned.checked.prog.looks [] := by kernel_rfl
theorem RI : (([41] : List TypeId).all fun u => !Tryz.pinned.checked.prog.wantsStandIn u) = true := by kernel_rfl
theorem RE : false = Rows.framePutsRow.goesBy Tryz.pinned.checked.prog := by kernel_rfl
end Go.Proofs.YtdjoggpacmpfnaaGreatDoor.framePuts
