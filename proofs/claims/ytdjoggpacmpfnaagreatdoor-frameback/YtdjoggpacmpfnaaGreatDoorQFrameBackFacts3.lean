/- Texts of this proof. -/
import Derived.Test.YtdjoggpacmpfnaaGreatDoorCards
import Derived.JoinedOf
import Derived.KernelRfl
namespace Go.Proofs.YtdjoggpacmpfnaaGreatDoor.frameBack
set_option linter.unusedVariables false
set_option maxRecDepth 100000
theorem cfW : Rows.frameBackRow.wfByText (OpenSpec.ofChange Rows.frameBackSpec) = true := by kernel_rfl
theorem cfM : Tryz.pinned.checked.prog.mainIs = some (((true, "62a663be3302ebcb3b073617e60359e0d7800180a5ea62a79adff8b79735354f") : Bool × String).1, ((true, "62a663be3302ebcb3b073617e60359e0d7800180a5ea62a79adff8b79735354f") : Bool × String).2.toList) := by kernel_rfl
theorem cfN : Tryz.pinned.checked.prog.funcNamed "buttress/buttresslaw17.FrameBack" = some 7 := by kernel_rfl
theorem cfL : true = Tryz.pinned.checked.prog.looks [] := by kernel_rfl
theorem cfS : (([41, 22, 3] : List TypeId).all fun u => !Tryz.pinned.checked.prog.wantsStandIn u) = true := by kernel_rfl
theorem cfG : false = Rows.frameBackRow.goesBy Tryz.pinned.checked.prog := by kernel_rfl
end Go.Proofs.YtdjoggpacmpfnaaGreatDoor.frameBack
