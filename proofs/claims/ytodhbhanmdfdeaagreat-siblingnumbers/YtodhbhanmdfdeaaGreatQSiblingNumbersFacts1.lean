/- Texts of this proof. -/
import Derived.Test.YtodhbhanmdfdeaaGreatRows
import Derived.JoinedOf
import Derived.KernelRfl
namespace Go.Proofs.YtodhbhanmdfdeaaGreat.siblingNumbers
set_option linter.unusedVariables false
set_option maxRecDepth 100000
theorem jf0 : (Rows.siblingNumbersRow.wf (OpenSpec.ofChange Rows.siblingNumbersSpec)) = true := by kernel_rfl
theorem jf3 : (Tryz.f12.params.all (Tryz.pinned.checked.prog.readableRec ·)) = true := by kernel_rfl
theorem jf4 : (namedTie Tryz.pinned.checked.prog Rows.siblingNumbersRow.named Rows.siblingNumbersSpec.vars) = true := by kernel_rfl
theorem jf5 : ((Rows.siblingNumbersRow.stops == [])) = true := by kernel_rfl
theorem jf6 : ((Tryz.pinned.checked.prog.stops == [])) = true := by kernel_rfl
theorem jf7 : ((Rows.siblingNumbersRow.knobs == [])) = true := by kernel_rfl
theorem jf8 : ((Tryz.pinned.checked.prog.stopKnobs == [])) = true := by kernel_rfl
theorem jf11 : ((Rows.siblingNumbersRow.recurses == Tryz.pinned.checked.prog.recurses 12)) = true := by kernel_rfl
theorem jf12 : ((Rows.siblingNumbersRow.named == Tryz.pinned.checked.prog.varsNamed 12)) = true := by kernel_rfl
theorem jf13 : ((Rows.siblingNumbersRow.maps == (Tryz.f12.params.toList ++ Rows.siblingNumbersSpec.plain.varTypes Tryz.pinned.checked.prog).any (Tryz.pinned.checked.prog.mapsRec ·))) = true := by kernel_rfl
theorem jf14 : ((Rows.siblingNumbersRow.ifaces == (Tryz.f12.params.toList ++ Rows.siblingNumbersSpec.plain.varTypes Tryz.pinned.checked.prog).any (Tryz.pinned.checked.prog.ifacesRec ·))) = true := by kernel_rfl
theorem jf15 : ((Rows.siblingNumbersRow.mapsOut == Tryz.pinned.checked.prog.mapsAmong Tryz.f12.resultTypes.toList)) = true := by kernel_rfl
theorem jf16 : ((Rows.siblingNumbersRow.loops == (Tryz.f12.params.toList ++ Rows.siblingNumbersSpec.plain.varTypes Tryz.pinned.checked.prog).any (Tryz.pinned.checked.prog.loopsFrom ·))) = true := by kernel_rfl
theorem jf17 : ((Rows.siblingNumbersRow.wideKeys == (Tryz.f12.params.toList ++ Rows.siblingNumbersSpec.plain.varTypes Tryz.pinned.checked.prog ++ Tryz.f12.resultTypes.toList).any (Tryz.pinned.checked.prog.wideKeysFrom ·))) = true := by kernel_rfl
theorem jf18 : (Rows.siblingNumbersSpec.vars.all (Tryz.pinned.checked.prog.varReadable ·)) = true := by kernel_rfl
theorem jf19 : (Tryz.f12.resultTypes.all (fun t => Tryz.pinned.checked.prog.readableRec t && decide (t < Tryz.pinned.checked.prog.types.size))) = true := by kernel_rfl
theorem jf20 : ((Rows.siblingNumbersRow.ifacesOut == Tryz.f12.resultTypes.toList.any (Tryz.pinned.checked.prog.ifacesRec ·))) = true := by kernel_rfl
theorem jf21 : ((Rows.siblingNumbersRow.loopsOut == Tryz.f12.resultTypes.toList.any (Tryz.pinned.checked.prog.loopsFrom ·))) = true := by kernel_rfl
theorem jf22 : ((Rows.siblingNumbersRow.plainKeys == Tryz.pinned.checked.prog.plainKeys)) = true := by kernel_rfl
theorem jf23 : (Rows.siblingNumbersRow.shortTexts.isNone) = true := by kernel_rfl
theorem jf24 : (Tryz.pinned.checked.prog.stopsHeard) = true := by kernel_rfl
theorem jf28 : ((Rows.siblingNumbersRow.kinds == (if Rows.siblingNumbersRow.domain.isEmpty then [] else Tryz.f12.params.toList.map fun t => match Tryz.pinned.checked.prog.underlying t with | some (.int k) => some k | _ => none))) = true := by kernel_rfl
theorem jf29 : ((Rows.siblingNumbersRow.pinned == Rows.siblingNumbersRow.pinnedBy)) = true := by kernel_rfl
theorem jf30 : ((Rows.siblingNumbersRow.veiled == (Tryz.f12.params.toList ++ Rows.siblingNumbersSpec.plain.varTypes Tryz.pinned.checked.prog ++ Tryz.f12.resultTypes.toList).any (Tryz.pinned.checked.prog.veiledRec ·))) = true := by kernel_rfl
theorem jf31 : (Rows.siblingNumbersRow.veiledFits Tryz.pinned.checked.prog Tryz.f12.params.toList (Tryz.f12.params.toList ++ Rows.siblingNumbersSpec.plain.varTypes Tryz.pinned.checked.prog ++ Tryz.f12.resultTypes.toList)) = true := by kernel_rfl
end Go.Proofs.YtodhbhanmdfdeaaGreat.siblingNumbers
