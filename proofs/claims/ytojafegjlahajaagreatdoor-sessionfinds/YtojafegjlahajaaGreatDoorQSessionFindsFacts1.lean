/- Texts of this proof. -/
import Derived.Test.YtojafegjlahajaaGreatDoorRows
import Derived.JoinedOf
import Derived.KernelRfl
namespace Go.Proofs.YtojafegjlahajaaGreatDoor.sessionFinds
set_option linter.unusedVariables false
set_option maxRecDepth 100000
theorem Sn : (Rows.sessionFindsRow.wf (OpenSpec.ofChange Rows.sessionFindsSpec)) = true := by kernel_rfl
theorem SM : (Tryz.f11.params.all (Tryz.pinned.checked.prog.readableRec ·)) = true := by kernel_rfl
theorem SP : (namedTie Tryz.pinned.checked.prog Rows.sessionFindsRow.named Rows.sessionFindsSpec.vars) = true := by kernel_rfl
theorem SQ : ((Rows.sessionFindsRow.stops == [])) = true := by kernel_rfl
theorem SR : ((Tryz.pinned.checked.prog.stops == [])) = true := by kernel_rfl
theorem SS : ((Rows.sessionFindsRow.knobs == [])) = true := by kernel_rfl
theorem SU : ((Tryz.pinned.checked.prog.stopKnobs == [])) = true := by kernel_rfl
theorem Ss : ((Rows.sessionFindsRow.recurses == Tryz.pinned.checked.prog.recurses 11)) = true := by kernel_rfl
theorem St : ((Rows.sessionFindsRow.named == Tryz.pinned.checked.prog.varsNamed 11)) = true := by kernel_rfl
theorem Su : ((Rows.sessionFindsRow.maps == (Tryz.f11.params.toList ++ Rows.sessionFindsSpec.plain.varTypes Tryz.pinned.checked.prog).any (Tryz.pinned.checked.prog.mapsRec ·))) = true := by kernel_rfl
theorem Sv : ((Rows.sessionFindsRow.ifaces == (Tryz.f11.params.toList ++ Rows.sessionFindsSpec.plain.varTypes Tryz.pinned.checked.prog).any (Tryz.pinned.checked.prog.ifacesRec ·))) = true := by kernel_rfl
theorem Sw : ((Rows.sessionFindsRow.mapsOut == Tryz.pinned.checked.prog.mapsAmong Tryz.f11.resultTypes.toList)) = true := by kernel_rfl
theorem Sx : ((Rows.sessionFindsRow.loops == (Tryz.f11.params.toList ++ Rows.sessionFindsSpec.plain.varTypes Tryz.pinned.checked.prog).any (Tryz.pinned.checked.prog.loopsFrom ·))) = true := by kernel_rfl
theorem Sy : ((Rows.sessionFindsRow.wideKeys == (Tryz.f11.params.toList ++ Rows.sessionFindsSpec.plain.varTypes Tryz.pinned.checked.prog ++ Tryz.f11.resultTypes.toList).any (Tryz.pinned.checked.prog.wideKeysFrom ·))) = true := by kernel_rfl
theorem Sz : (Rows.sessionFindsSpec.vars.all (Tryz.pinned.checked.prog.varReadable ·)) = true := by kernel_rfl
theorem SA : (Tryz.f11.resultTypes.all (fun t => Tryz.pinned.checked.prog.readableRec t && decide (t < Tryz.pinned.checked.prog.types.size))) = true := by kernel_rfl
theorem SC : ((Rows.sessionFindsRow.ifacesOut == Tryz.f11.resultTypes.toList.any (Tryz.pinned.checked.prog.ifacesRec ·))) = true := by kernel_rfl
theorem SD : ((Rows.sessionFindsRow.loopsOut == Tryz.f11.resultTypes.toList.any (Tryz.pinned.checked.prog.loopsFrom ·))) = true := by kernel_rfl
theorem SE : ((Rows.sessionFindsRow.plainKeys == Tryz.pinned.checked.prog.plainKeys)) = true := by kernel_rfl
theorem SF : (Rows.sessionFindsRow.shortTexts.isNone) = true := by kernel_rfl
theorem SG : (Tryz.pinned.checked.prog.stopsHeard) = true := by kernel_rfl
theorem SK : ((Rows.sessionFindsRow.kinds == (if Rows.sessionFindsRow.domain.isEmpty then [] else Tryz.f11.params.toList.map fun t => match Tryz.pinned.checked.prog.underlying t with | some (.int k) => some k | _ => none))) = true := by kernel_rfl
theorem SL : ((Rows.sessionFindsRow.pinned == Rows.sessionFindsRow.pinnedBy)) = true := by kernel_rfl
theorem SN : ((Rows.sessionFindsRow.veiled == (Tryz.f11.params.toList ++ Rows.sessionFindsSpec.plain.varTypes Tryz.pinned.checked.prog ++ Tryz.f11.resultTypes.toList).any (Tryz.pinned.checked.prog.veiledRec ·))) = true := by kernel_rfl
theorem SO : (Rows.sessionFindsRow.veiledFits Tryz.pinned.checked.prog Tryz.f11.params.toList (Tryz.f11.params.toList ++ Rows.sessionFindsSpec.plain.varTypes Tryz.pinned.checked.prog ++ Tryz.f11.resultTypes.toList)) = true := by kernel_rfl
end Go.Proofs.YtojafegjlahajaaGreatDoor.sessionFinds
