/- Texts of this proof. -/
import Derived.Test.YtodhbhanmdfdeaaGreatRows
import Derived.JoinedOf
import Derived.KernelRfl
namespace Go.Proofs.YtodhbhanmdfdeaaGreat.siblingBack
set_option linter.unusedVariables false
set_option maxRecDepth 100000
theorem jf0 : (Rows.siblingBackRow.wf (OpenSpec.ofChange Rows.siblingBackSpec)) = true := by kernel_rfl
theorem jf3 : (Tryz.f13.params.all (Tryz.pinned.checked.prog.readableRec ·)) = true := by kernel_rfl
theorem jf4 : (namedTie Tryz.pinned.checked.prog Rows.siblingBackRow.named Rows.siblingBackSpec.vars) = true := by kernel_rfl
theorem jf5 : ((Rows.siblingBackRow.stops == [])) = true := by kernel_rfl
theorem jf6 : ((Tryz.pinned.checked.prog.stops == [])) = true := by kernel_rfl
theorem jf7 : ((Rows.siblingBackRow.knobs == [])) = true := by kernel_rfl
theorem jf8 : ((Tryz.pinned.checked.prog.stopKnobs == [])) = true := by kernel_rfl
theorem jf11 : ((Rows.siblingBackRow.recurses == Tryz.pinned.checked.prog.recurses 13)) = true := by kernel_rfl
theorem jf12 : ((Rows.siblingBackRow.named == Tryz.pinned.checked.prog.varsNamed 13)) = true := by kernel_rfl
theorem jf13 : ((Rows.siblingBackRow.maps == (Tryz.f13.params.toList ++ Rows.siblingBackSpec.plain.varTypes Tryz.pinned.checked.prog).any (Tryz.pinned.checked.prog.mapsRec ·))) = true := by kernel_rfl
theorem jf14 : ((Rows.siblingBackRow.ifaces == (Tryz.f13.params.toList ++ Rows.siblingBackSpec.plain.varTypes Tryz.pinned.checked.prog).any (Tryz.pinned.checked.prog.ifacesRec ·))) = true := by kernel_rfl
theorem jf15 : ((Rows.siblingBackRow.mapsOut == Tryz.pinned.checked.prog.mapsAmong Tryz.f13.resultTypes.toList)) = true := by kernel_rfl
theorem jf16 : ((Rows.siblingBackRow.loops == (Tryz.f13.params.toList ++ Rows.siblingBackSpec.plain.varTypes Tryz.pinned.checked.prog).any (Tryz.pinned.checked.prog.loopsFrom ·))) = true := by kernel_rfl
theorem jf17 : ((Rows.siblingBackRow.wideKeys == (Tryz.f13.params.toList ++ Rows.siblingBackSpec.plain.varTypes Tryz.pinned.checked.prog ++ Tryz.f13.resultTypes.toList).any (Tryz.pinned.checked.prog.wideKeysFrom ·))) = true := by kernel_rfl
theorem jf18 : (Rows.siblingBackSpec.vars.all (Tryz.pinned.checked.prog.varReadable ·)) = true := by kernel_rfl
theorem jf19 : (Tryz.f13.resultTypes.all (fun t => Tryz.pinned.checked.prog.readableRec t && decide (t < Tryz.pinned.checked.prog.types.size))) = true := by kernel_rfl
theorem jf20 : ((Rows.siblingBackRow.ifacesOut == Tryz.f13.resultTypes.toList.any (Tryz.pinned.checked.prog.ifacesRec ·))) = true := by kernel_rfl
theorem jf21 : ((Rows.siblingBackRow.loopsOut == Tryz.f13.resultTypes.toList.any (Tryz.pinned.checked.prog.loopsFrom ·))) = true := by kernel_rfl
theorem jf22 : ((Rows.siblingBackRow.plainKeys == Tryz.pinned.checked.prog.plainKeys)) = true := by kernel_rfl
theorem jf23 : (Rows.siblingBackRow.shortTexts.isNone) = true := by kernel_rfl
theorem jf24 : (Tryz.pinned.checked.prog.stopsHeard) = true := by kernel_rfl
theorem jf28 : ((Rows.siblingBackRow.kinds == (if Rows.siblingBackRow.domain.isEmpty then [] else Tryz.f13.params.toList.map fun t => match Tryz.pinned.checked.prog.underlying t with | some (.int k) => some k | _ => none))) = true := by kernel_rfl
theorem jf29 : ((Rows.siblingBackRow.pinned == Rows.siblingBackRow.pinnedBy)) = true := by kernel_rfl
theorem jf30 : ((Rows.siblingBackRow.veiled == (Tryz.f13.params.toList ++ Rows.siblingBackSpec.plain.varTypes Tryz.pinned.checked.prog ++ Tryz.f13.resultTypes.toList).any (Tryz.pinned.checked.prog.veiledRec ·))) = true := by kernel_rfl
theorem jf31 : (Rows.siblingBackRow.veiledFits Tryz.pinned.checked.prog Tryz.f13.params.toList (Tryz.f13.params.toList ++ Rows.siblingBackSpec.plain.varTypes Tryz.pinned.checked.prog ++ Tryz.f13.resultTypes.toList)) = true := by kernel_rfl
end Go.Proofs.YtodhbhanmdfdeaaGreat.siblingBack
