/- Texts of this proof. -/
import Derived.Test.YtdjoggpacmpfnaaGreatDoorRows
import Derived.JoinedOf
import Derived.KernelRfl
namespace Go.Proofs.YtdjoggpacmpfnaaGreatDoor.framePuts
set_option linter.unusedVariables false
set_option maxRecDepth 100000
theorem Xq : (Rows.framePutsRow.wf (OpenSpec.ofChange Rows.framePutsSpec)) = true := by kernel_rfl
theorem XN : (Tryz.f5.params.all (Tryz.pinned.checked.prog.readableRec ·)) = true := by kernel_rfl
theorem XQ : (namedTie Tryz.pinned.checked.prog Rows.framePutsRow.named Rows.framePutsSpec.vars) = true := by kernel_rfl
theorem XR : ((Rows.framePutsRow.stops == [])) = true := by kernel_rfl
theorem XS : ((Tryz.pinned.checked.prog.stops == [])) = true := by kernel_rfl
theorem XT : ((Rows.framePutsRow.knobs == [])) = true := by kernel_rfl
theorem XU : ((Tryz.pinned.checked.prog.stopKnobs == [])) = true := by kernel_rfl
theorem Xt : ((Rows.framePutsRow.recurses == Tryz.pinned.checked.prog.recurses 5)) = true := by kernel_rfl
theorem Xu : ((Rows.framePutsRow.named == Tryz.pinned.checked.prog.varsNamed 5)) = true := by kernel_rfl
theorem Xv : ((Rows.framePutsRow.maps == (Tryz.f5.params.toList ++ Rows.framePutsSpec.plain.varTypes Tryz.pinned.checked.prog).any (Tryz.pinned.checked.prog.mapsRec ·))) = true := by kernel_rfl
theorem Xw : ((Rows.framePutsRow.ifaces == (Tryz.f5.params.toList ++ Rows.framePutsSpec.plain.varTypes Tryz.pinned.checked.prog).any (Tryz.pinned.checked.prog.ifacesRec ·))) = true := by kernel_rfl
theorem Xx : ((Rows.framePutsRow.mapsOut == Tryz.pinned.checked.prog.mapsAmong Tryz.f5.resultTypes.toList)) = true := by kernel_rfl
theorem Xy : ((Rows.framePutsRow.loops == (Tryz.f5.params.toList ++ Rows.framePutsSpec.plain.varTypes Tryz.pinned.checked.prog).any (Tryz.pinned.checked.prog.loopsFrom ·))) = true := by kernel_rfl
theorem Xz : ((Rows.framePutsRow.wideKeys == (Tryz.f5.params.toList ++ Rows.framePutsSpec.plain.varTypes Tryz.pinned.checked.prog ++ Tryz.f5.resultTypes.toList).any (Tryz.pinned.checked.prog.wideKeysFrom ·))) = true := by kernel_rfl
theorem XA : (Rows.framePutsSpec.vars.all (Tryz.pinned.checked.prog.varReadable ·)) = true := by kernel_rfl
theorem XB : (Tryz.f5.resultTypes.all (fun t => Tryz.pinned.checked.prog.readableRec t && decide (t < Tryz.pinned.checked.prog.types.size))) = true := by kernel_rfl
theorem XD : ((Rows.framePutsRow.ifacesOut == Tryz.f5.resultTypes.toList.any (Tryz.pinned.checked.prog.ifacesRec ·))) = true := by kernel_rfl
theorem XE : ((Rows.framePutsRow.loopsOut == Tryz.f5.resultTypes.toList.any (Tryz.pinned.checked.prog.loopsFrom ·))) = true := by kernel_rfl
theorem XF : ((Rows.framePutsRow.plainKeys == Tryz.pinned.checked.prog.plainKeys)) = true := by kernel_rfl
theorem XG : (Rows.framePutsRow.shortTexts.isNone) = true := by kernel_rfl
theorem XH : (Tryz.pinned.checked.prog.stopsHeard) = true := by kernel_rfl
theorem XL : ((Rows.framePutsRow.kinds == (if Rows.framePutsRow.domain.isEmpty then [] else Tryz.f5.params.toList.map fun t => match Tryz.pinned.checked.prog.underlying t with | some (.int k) => some k | _ => none))) = true := by kernel_rfl
theorem XM : ((Rows.framePutsRow.pinned == Rows.framePutsRow.pinnedBy)) = true := by kernel_rfl
theorem XO : ((Rows.framePutsRow.veiled == (Tryz.f5.params.toList ++ Rows.framePutsSpec.plain.varTypes Tryz.pinned.checked.prog ++ Tryz.f5.resultTypes.toList).any (Tryz.pinned.checked.prog.veiledRec ·))) = true := by kernel_rfl
theorem XP : (Rows.framePutsRow.veiledFits Tryz.pinned.checked.prog Tryz.f5.params.toList (Tryz.f5.params.toList ++ Rows.framePutsSpec.plain.varTypes Tryz.pinned.checked.prog ++ Tryz.f5.resultTypes.toList)) = true := by kernel_rfl
end Go.Proofs.YtdjoggpacmpfnaaGreatDoor.framePuts
