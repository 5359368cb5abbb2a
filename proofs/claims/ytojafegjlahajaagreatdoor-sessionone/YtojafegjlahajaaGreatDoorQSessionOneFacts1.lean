/- Texts of this proof. -/
import Derived.Test.YtojafegjlahajaaGreatDoorRows
import Derived.JoinedOf
import Derived.KernelRfl
namespace Go.Proofs.YtojafegjlahajaaGreatDoor.sessionOne
set_option linter.unusedVariables false
set_option maxRecDepth 100000
theorem Qt : (Rows.sessionOneRow.wf (OpenSpec.ofChange Rows.sessionOneSpec)) = true := by kernel_rfl
theorem QS : (Tryz.f9.params.all (Tryz.pinned.checked.prog.readableRec ·)) = true := by kernel_rfl
theorem QV : (namedTie Tryz.pinned.checked.prog Rows.sessionOneRow.named Rows.sessionOneSpec.vars) = true := by kernel_rfl
theorem QW : ((Rows.sessionOneRow.stops == [])) = true := by kernel_rfl
theorem QX : ((Tryz.pinned.checked.prog.stops == [])) = true := by kernel_rfl
theorem QY : ((Rows.sessionOneRow.knobs == [])) = true := by kernel_rfl
theorem QZ : ((Tryz.pinned.checked.prog.stopKnobs == [])) = true := by kernel_rfl
theorem Qw : ((Rows.sessionOneRow.recurses == Tryz.pinned.checked.prog.recurses 9)) = true := by kernel_rfl
theorem Qx : ((Rows.sessionOneRow.named == Tryz.pinned.checked.prog.varsNamed 9)) = true := by kernel_rfl
theorem Qy : ((Rows.sessionOneRow.maps == (Tryz.f9.params.toList ++ Rows.sessionOneSpec.plain.varTypes Tryz.pinned.checked.prog).any (Tryz.pinned.checked.prog.mapsRec ·))) = true := by kernel_rfl
theorem Qz : ((Rows.sessionOneRow.ifaces == (Tryz.f9.params.toList ++ Rows.sessionOneSpec.plain.varTypes Tryz.pinned.checked.prog).any (Tryz.pinned.checked.prog.ifacesRec ·))) = true := by kernel_rfl
theorem QA : ((Rows.sessionOneRow.mapsOut == Tryz.pinned.checked.prog.mapsAmong Tryz.f9.resultTypes.toList)) = true := by kernel_rfl
theorem QB : ((Rows.sessionOneRow.loops == (Tryz.f9.params.toList ++ Rows.sessionOneSpec.plain.varTypes Tryz.pinned.checked.prog).any (Tryz.pinned.checked.prog.loopsFrom ·))) = true := by kernel_rfl
theorem QC : ((Rows.sessionOneRow.wideKeys == (Tryz.f9.params.toList ++ Rows.sessionOneSpec.plain.varTypes Tryz.pinned.checked.prog ++ Tryz.f9.resultTypes.toList).any (Tryz.pinned.checked.prog.wideKeysFrom ·))) = true := by kernel_rfl
theorem QD : (Rows.sessionOneSpec.vars.all (Tryz.pinned.checked.prog.varReadable ·)) = true := by kernel_rfl
theorem QE : (Tryz.f9.resultTypes.all (fun t => Tryz.pinned.checked.prog.readableRec t && decide (t < Tryz.pinned.checked.prog.types.size))) = true := by kernel_rfl
theorem QG : ((Rows.sessionOneRow.ifacesOut == Tryz.f9.resultTypes.toList.any (Tryz.pinned.checked.prog.ifacesRec ·))) = true := by kernel_rfl
theorem QH : ((Rows.sessionOneRow.loopsOut == Tryz.f9.resultTypes.toList.any (Tryz.pinned.checked.prog.loopsFrom ·))) = true := by kernel_rfl
theorem QI : ((Rows.sessionOneRow.plainKeys == Tryz.pinned.checked.prog.plainKeys)) = true := by kernel_rfl
theorem QJ : (Rows.sessionOneRow.shortTexts.isNone) = true := by kernel_rfl
theorem QK : (Tryz.pinned.checked.prog.stopsHeard) = true := by kernel_rfl
theorem QO : ((Rows.sessionOneRow.kinds == (if Rows.sessionOneRow.domain.isEmpty then [] else Tryz.f9.params.toList.map fun t => match Tryz.pinned.checked.prog.underlying t with | some (.int k) => some k | _ => none))) = true := by kernel_rfl
theorem QR : ((Rows.sessionOneRow.pinned == Rows.sessionOneRow.pinnedBy)) = true := by kernel_rfl
theorem QT : ((Rows.sessionOneRow.veiled == (Tryz.f9.params.toList ++ Rows.sessionOneSpec.plain.varTypes Tryz.pinned.checked.prog ++ Tryz.f9.resultTypes.toList).any (Tryz.pinned.checked.prog.veiledRec ·))) = true := by kernel_rfl
theorem QU : (Rows.sessionOneRow.veiledFits Tryz.pinned.checked.prog Tryz.f9.params.toList (Tryz.f9.params.toList ++ Rows.sessionOneSpec.plain.varTypes Tryz.pinned.checked.prog ++ Tryz.f9.resultTypes.toList)) = true := by kernel_rfl
end Go.Proofs.YtojafegjlahajaaGreatDoor.sessionOne
