/- Proved: whatever its input, NetNumbers of buttresslaw27 returns true, and its input reads as it did; no condition beside the given row's own. (The frame is the kit's shell's.) -/
import Derived.Test.YthaebmfgelaleaaGreatRows
import Derived.WalkKit
import Derived.ProofKit
import Derived.OpenShut
import Derived.ShutString
import Derived.ChangeOld
import Derived.Below
import Derived.SizedLaws
import Derived.Carry
import Derived.Test.YthaebmfgelaleaaGreatSpOpen
import Derived.Test.YthaebmfgelaleaaGreatRnet7
namespace Go.Proofs.YthaebmfgelaleaaGreat.netNumbers
open Go.ChangeShapes Go.WideShapes Go.ChangeAt Go.RowKit Go.Sp
open Go.ChangeMaps (open_string shut_string)
set_option linter.unusedVariables false
set_option maxRecDepth 100000

theorem own : ownKnob Go.Proofs.Tryz.prog.godebug = none := by kernel_rfl
theorem laidOut : laidOutB Go.Proofs.Tryz.prog = true := by kernel_rfl

theorem lifted (os : Os) (started : os.Started) (H : Type) (enc : TypeId × Value → H) :
    ReturnsInHanded {} Go.Proofs.Tryz.checked os 4 .any (Rows.netNumbersSpec.pre6 enc Go.Proofs.Tryz.prog Go.Proofs.Tryz.f4 Rows.netNumbersRow.domain false) (Rows.netNumbersSpec.post enc Go.Proofs.Tryz.prog Go.Proofs.Tryz.f4 false true false false) := by
  refine returnsInHanded_of_change_sized (C := Go.Proofs.Tryz.checked) own started (by kernel_rfl) Go.Proofs.Tryz.func4
    (ChangeSpec.witness6 (enc := enc) (C := Go.Proofs.Tryz.checked) false ⟨#[], #[], []⟩ 8 (by kernel_rfl) (by kernel_rfl) (by kernel_rfl) (by kernel_rfl)) ?_
  intro W base args ds gs before hval0 hW hcnd hreach _
  have hval : ∀ (j : Nat) t v, Go.Proofs.Tryz.f4.params[j]? = some t → args[j]? = some v → Value.okWide Go.Proofs.Tryz.prog W .any base t v := hval0
  have hW' := hW
  obtain ⟨p, q, hA0, hV, rfl, hfz, hnd⟩ := hW
  have hA : DataW.TrodAll enc Go.Proofs.Tryz.prog W 0 (fun _ => true) true Go.Proofs.Tryz.f4.params.toList args.toList ds p := hA0
  rw [Go.Proofs.Tryz.params4] at hA hval hreach
  obtain ⟨rfl, rfl, rfl⟩ := trodAll_none hA
  obtain ⟨rfl, rfl⟩ := trodVars_none hV
  refine ((netNumbers_c) W.gr (Fr.sub_refl _) W (Holds.of_world W)).mono fun e W' ⟨η', h, hw⟩ => ?_
  cases e with
  | returned v =>
    obtain ⟨rfl, rfl⟩ := h
    have bel := hw.below
    exact ⟨_, rfl, _, _, _, [], _, [], hW', trodAll_mk1 (shut_bool Go.Proofs.Tryz.underlying4 _), trodAll_mk0, rfl, bel.frame _, fun h => by cases h⟩
  | panicked _ => exact h.elim
  | outgrown => exact h.elim

theorem over : Rows.netNumbersRow.holds Tryz.pinned (OpenSpec.ofChange Rows.netNumbersSpec) :=
  OpenClaim.holds_of_wide 4 Go.Proofs.Tryz.f4 rfl rfl rfl rfl rfl rfl rfl ⟨rfl, rfl, rfl, rfl, rfl⟩ rfl rfl rfl rfl rfl (by kernel_rfl) Go.Proofs.Tryz.func4 (by kernel_rfl)
    (of_decide_eq_true (by kernel_rfl)) (by unfold Func.isWrapper; first | (rw [if_pos (by decide +kernel)]; kernel_rfl) | (rw [if_neg (by decide +kernel)]; exact ⟨rfl, rfl⟩))
    (fun os started H enc _ => lifted os started H enc)


/-- ████ THE STATEMENT ████ -/
theorem proved : Rows.NetNumbersSaid := over
#print axioms proved
end Go.Proofs.YthaebmfgelaleaaGreat.netNumbers
