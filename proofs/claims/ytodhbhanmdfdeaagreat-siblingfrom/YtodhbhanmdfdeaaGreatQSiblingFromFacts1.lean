/- Texts of this proof. -/
import Derived.Test.YtodhbhanmdfdeaaGreatRows
import Derived.JoinedOf
import Derived.KernelRfl
namespace Go.Proofs.YtodhbhanmdfdeaaGreat.siblingFrom
set_option linter.unusedVariables false
set_option maxRecDepth 100000
theorem jf0 : (Rows.siblingFromRow.wf (OpenSpec.ofChange Rows.siblingFromSpec)) = true := by kernel_rfl
theorem jf3 : (Tryz.f10.params.all (Tryz.pinned.checked.prog.readableRec ·)) = true := by kernel_rfl
theorem jf4 : (namedTie Tryz.pinned.checked.prog Rows.siblingFromRow.named Rows.siblingFromSpec.vars) = true := by kernel_rfl
theorem jf5 : ((Rows.siblingFromRow.stops == [])) = true := by kernel_rfl
theorem jf6 : ((Tryz.pinned.checked.prog.stops == [])) = true := by kernel_rfl
theorem jf7 : ((Rows.siblingFromRow.knobs == [])) = true := by kernel_rfl
theorem jf8 : ((Tryz.pinned.checked.prog.stopKnobs == [])) = true := by kernel_rfl
theorem jf11 : ((Rows.siblingFromRow.recurses == Tryz.pinned.checked.prog.recurses 10)) = true := by kernel_rfl
theorem jf12 : ((Rows.siblingFromRow.named == Tryz.pinned.checked.prog.varsNamed 10)) = true := by kernel_rfl
theorem jf13 : ((Rows.siblingFromRow.maps == (Tryz.f10.params.toList ++ Rows.siblingFromSpec.plain.varTypes Tryz.pinned.checked.prog).any (Tryz.pinned.checked.prog.mapsRec ·))) = true := by kernel_rfl
theorem jf14 : ((Rows.siblingFromRow.ifaces == (Tryz.f10.params.toList ++ Rows.siblingFromSpec.plain.varTypes Tryz.pinned.checked.prog).any (Tryz.pinned.checked.prog.ifacesRec ·))) = true := by kernel_rfl
theorem jf15 : ((Rows.siblingFromRow.mapsOut == Tryz.pinned.checked.prog.mapsAmong Tryz.f10.resultTypes.toList)) = true := by kernel_rfl
theorem jf16 : ((Rows.siblingFromRow.loops == (Tryz.f10.params.toList ++ Rows.siblingFromSpec.plain.varTypes Tryz.pinned.checked.prog).any (Tryz.pinned.checked.prog.loopsFrom ·))) = true := by kernel_rfl
theorem jf17 : ((Rows.siblingFromRow.wideKeys == (Tryz.f10.params.toList ++ Rows.siblingFromSpec.plain.varTypes Tryz.pinned.checked.prog ++ Tryz.f10.resultTypes.toList).any (Tryz.pinned.checked.prog.wideKeysFrom ·))) = true := by kernel_rfl
theorem jf18 : (Rows.siblingFromSpec.vars.all (Tryz.pinned.checked.prog.varReadable ·)) = true := by kernel_rfl
theorem jf19 : (Tryz.f10.resultTypes.all (fun t => Tryz.pinned.checked.prog.readableRec t && decide (t < Tryz.pinned.checked.prog.types.size))) = true := by kernel_rfl
theorem jf20 : ((Rows.siblingFromRow.ifacesOut == Tryz.f10.resultTypes.toList.any (Tryz.pinned.checked.prog.ifacesRec ·))) = true := by kernel_rfl
theorem jf21 : ((Rows.siblingFromRow.loopsOut == Tryz.f10.resultTypes.toList.any (Tryz.pinned.checked.prog.loopsFrom ·))) = true := by kernel_rfl
theorem jf22 : ((Rows.siblingFromRow.plainKeys == Tryz.pinned.checked.prog.plainKeys)) = true := by kernel_rfl
theorem jf23 : (Rows.siblingFromRow.shortTexts.isNone) = true := by kernel_rfl
theorem jf24 : (Tryz.pinned.checked.prog.stopsHeard) = true := by kernel_rfl
theorem jf28 : ((Rows.siblingFromRow.kinds == (if Rows.siblingFromRow.domain.isEmpty then [] else Tryz.f10.params.toList.map fun t => match Tryz.pinned.checked.prog.underlying t with | some (.int k) => some k | _ => none))) = true := by kernel_rfl
theorem jf29 : ((Rows.siblingFromRow.pinned == Rows.siblingFromRow.pinnedBy)) = true := by kernel_rfl
theorem jf30 : ((Rows.siblingFromRow.veiled == (Tryz.f10.params.toList ++ Rows.siblingFromSpec.plain.varTypes Tryz.pinned.checked.prog ++ Tryz.f10.resultTypes.toList).any (Tryz.pinned.checked.prog.veiledRec ·))) = true := by kernel_rfl
theorem jf31 : (Rows.siblingFromRow.veiledFits Tryz.pinned.checked.prog Tryz.f10.params.toList (Tryz.f10.params.toList ++ Rows.siblingFromSpec.plain.varTypes Tryz.pinned.checked.prog ++ Tryz.f10.resultTypes.toList)) = true := by kernel_rfl
end Go.Proofs.YtodhbhanmdfdeaaGreat.siblingFrom
