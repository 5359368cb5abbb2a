/- Texts of this proof. -/
import Derived.Test.YtojafegjlahajaaGreatDoorRows
import Derived.JoinedOf
import Derived.KernelRfl
namespace Go.Proofs.YtojafegjlahajaaGreatDoor.sessionLies
set_option linter.unusedVariables false
set_option maxRecDepth 100000
theorem RQ : (Rows.sessionLiesRow.wf (OpenSpec.ofChange Rows.sessionLiesSpec)) = true := by kernel_rfl
theorem Se : (Tryz.f10.params.all (Tryz.pinned.checked.prog.readableRec ·)) = true := by kernel_rfl
theorem Sh : (namedTie Tryz.pinned.checked.prog Rows.sessionLiesRow.named Rows.sessionLiesSpec.vars) = true := by kernel_rfl
theorem Si : ((Rows.sessionLiesRow.stops == [])) = true := by kernel_rfl
theorem Sj : ((Tryz.pinned.checked.prog.stops == [])) = true := by kernel_rfl
theorem Sk : ((Rows.sessionLiesRow.knobs == [])) = true := by kernel_rfl
theorem Sl : ((Tryz.pinned.checked.prog.stopKnobs == [])) = true := by kernel_rfl
theorem RU : ((Rows.sessionLiesRow.recurses == Tryz.pinned.checked.prog.recurses 10)) = true := by kernel_rfl
theorem RV : ((Rows.sessionLiesRow.named == Tryz.pinned.checked.prog.varsNamed 10)) = true := by kernel_rfl
theorem RW : ((Rows.sessionLiesRow.maps == (Tryz.f10.params.toList ++ Rows.sessionLiesSpec.plain.varTypes Tryz.pinned.checked.prog).any (Tryz.pinned.checked.prog.mapsRec ·))) = true := by kernel_rfl
theorem RX : ((Rows.sessionLiesRow.ifaces == (Tryz.f10.params.toList ++ Rows.sessionLiesSpec.plain.varTypes Tryz.pinned.checked.prog).any (Tryz.pinned.checked.prog.ifacesRec ·))) = true := by kernel_rfl
theorem RY : ((Rows.sessionLiesRow.mapsOut == Tryz.pinned.checked.prog.mapsAmong Tryz.f10.resultTypes.toList)) = true := by kernel_rfl
theorem RZ : ((Rows.sessionLiesRow.loops == (Tryz.f10.params.toList ++ Rows.sessionLiesSpec.plain.varTypes Tryz.pinned.checked.prog).any (Tryz.pinned.checked.prog.loopsFrom ·))) = true := by kernel_rfl
theorem R1 : ((Rows.sessionLiesRow.wideKeys == (Tryz.f10.params.toList ++ Rows.sessionLiesSpec.plain.varTypes Tryz.pinned.checked.prog ++ Tryz.f10.resultTypes.toList).any (Tryz.pinned.checked.prog.wideKeysFrom ·))) = true := by kernel_rfl
theorem R2 : (Rows.sessionLiesSpec.vars.all (Tryz.pinned.checked.prog.varReadable ·)) = true := by kernel_rfl
theorem R3 : (Tryz.f10.resultTypes.all (fun t => Tryz.pinned.checked.prog.readableRec t && decide (t < Tryz.pinned.checked.prog.types.size))) = true := by kernel_rfl
theorem R5 : ((Rows.sessionLiesRow.ifacesOut == Tryz.f10.resultTypes.toList.any (Tryz.pinned.checked.prog.ifacesRec ·))) = true := by kernel_rfl
theorem R6 : ((Rows.sessionLiesRow.loopsOut == Tryz.f10.resultTypes.toList.any (Tryz.pinned.checked.prog.loopsFrom ·))) = true := by kernel_rfl
theorem R7 : ((Rows.sessionLiesRow.plainKeys == Tryz.pinned.checked.prog.plainKeys)) = true := by kernel_rfl
theorem R8 : (Rows.sessionLiesRow.shortTexts.isNone) = true := by kernel_rfl
theorem R9 : (Tryz.pinned.checked.prog.stopsHeard) = true := by kernel_rfl
theorem Sc : ((Rows.sessionLiesRow.kinds == (if Rows.sessionLiesRow.domain.isEmpty then [] else Tryz.f10.params.toList.map fun t => match Tryz.pinned.checked.prog.underlying t with | some (.int k) => some k | _ => none))) = true := by kernel_rfl
theorem Sd : ((Rows.sessionLiesRow.pinned == Rows.sessionLiesRow.pinnedBy)) = true := by kernel_rfl
theorem Sf : ((Rows.sessionLiesRow.veiled == (Tryz.f10.params.toList ++ Rows.sessionLiesSpec.plain.varTypes Tryz.pinned.checked.prog ++ Tryz.f10.resultTypes.toList).any (Tryz.pinned.checked.prog.veiledRec ·))) = true := by kernel_rfl
theorem Sg : (Rows.sessionLiesRow.veiledFits Tryz.pinned.checked.prog Tryz.f10.params.toList (Tryz.f10.params.toList ++ Rows.sessionLiesSpec.plain.varTypes Tryz.pinned.checked.prog ++ Tryz.f10.resultTypes.toList)) = true := by kernel_rfl
end Go.Proofs.YtojafegjlahajaaGreatDoor.sessionLies
