/- Proved: whatever its input, SiblingGets of buttresslaw09 returns true, and its input reads as it did; no condition beside the given row's own. (The frame is the kit's shell's.) -/
import Derived.WalkKit
import Derived.ProofKit
import Derived.OpenShut
import Derived.ShutString
import Derived.ChangeOld
import Derived.Below
import Derived.SizedLaws
import Derived.Carry
import Derived.Test.YtodhbhanmdfdeaaGreatQSiblingGetsFacts2
import Derived.Test.YtodhbhanmdfdeaaGreatQSiblingGetsFacts1
import Derived.Test.YtodhbhanmdfdeaaGreatQSiblingGetsFacts0
import Derived.Test.YtodhbhanmdfdeaaGreatQSlaw6
namespace Go.Proofs.YtodhbhanmdfdeaaGreat.siblingGets
open Go.ChangeShapes Go.WideShapes Go.ChangeAt Go.RowKit Go.Sp
open Go.ChangeMaps (open_string shut_string)
set_option linter.unusedVariables false
set_option maxRecDepth 100000
theorem own : ownKnob Tryz.prog.godebug = none := by kernel_rfl
theorem laidOut : laidOutB Tryz.prog = true := by kernel_rfl
theorem opens5 : Opens Tryz.prog 5 Rp.u8 Anyv := Opens.u8 Tryz.underlying5
theorem opens31 : Opens Tryz.prog 31 (Rp.slice Rp.u8) (Within Anyv) := Opens.slice opens5 Tryz.underlying31 (by kernel_rfl) (of_decide_eq_true (by kernel_rfl)) (by decide)
theorem lifted (os : Os) (started : os.Started) (H : Type) (enc : TypeId × Value → H) :
  ReturnsInHanded {} Tryz.checked os 11 .any (Rows.siblingGetsSpec.pre6 enc Tryz.prog Tryz.f11 Rows.siblingGetsRow.domain false) (Rows.siblingGetsSpec.post enc Tryz.prog Tryz.f11 false true false false) := by
 refine returnsInHanded_of_change_sized (C := Tryz.checked) own started (by kernel_rfl) Tryz.func11
  (ChangeSpec.witness6 (enc := enc) (C := Tryz.checked) false ⟨#[], #[.slice none 0 0], []⟩ 8 (by kernel_rfl) (by kernel_rfl) (by kernel_rfl) (by kernel_rfl)) ?_
 intro W base args ds gs before hval0 hW hcnd hreach _
 have hval : ∀ (j : Nat) t v, Tryz.f11.params[j]? = some t → args[j]? = some v → Value.okWide Tryz.prog W .any base t v := hval0
 have hW' := hW
 obtain ⟨p, q, hA0, hV, rfl, hfz, hnd⟩ := hW
 have hA : DataW.TrodAll enc Tryz.prog W 0 (fun _ => true) true Tryz.f11.params.toList args.toList ds p := hA0
 rw [Tryz.params11] at hA hval hreach
 obtain ⟨v0, vs0, d0, ds0, p0, q0, hargs, rfl, rfl, r0, t0⟩ := trodAll_cons hA
 obtain ⟨rfl, rfl, rfl⟩ := trodAll_nil t0
 obtain rfl : args = #[v0] := by cases args; simp_all
 obtain ⟨rfl, rfl⟩ := trodVars_none hV
 have hre : ∀ n ∈ DataW.weightsEach _ _ _, n ≤ reachBytes := fun n hn => by simpa using List.all_eq_true.mp hreach n hn
 obtain ⟨s0, m0, c0, rfl⟩ := okWide_slice Tryz.underlying31 (hval 0 31 v0 rfl rfl)
 have k0 := r0
 have lt0 : ∀ x ∈ p0, x.block < W.heap.size := by obtain ⟨m, hm⟩ := k0; exact DataW.trod_lt m _ _ _ hm
 obtain ⟨x0, h0, q0⟩ : ∃ xs, Arr Rp.u8 W.fr (.slice s0 m0 c0) xs ∧ (Within Anyv) xs := by
  obtain ⟨fuel, hf⟩ := r0
  exact Opens.arr opens31 hf (light_each hre 0 (by simp) (by simp))
 refine ((siblingGets_c (r := W.fr) h0) W.gr (Fr.sub_refl _) W (Holds.of_world W)).mono fun e W' ⟨η', h, hw⟩ => ?_
 cases e with
 | returned v =>
  obtain ⟨rfl, rfl⟩ := h
  have bel := hw.below
  exact ⟨_, rfl, _, _, _, [], _, [], hW', trodAll_mk1 (shut_bool Tryz.underlying4 _), (trodAll_cons_mk (Below.trod laidOut (by kernel_rfl) (of_decide_eq_true (by kernel_rfl)) k0 bel lt0) trodAll_mk0), rfl, bel.frame _, fun h => by cases h⟩
 | panicked _ => exact h.elim
 | outgrown => exact h.elim
theorem and2 {a b : Bool} (ha : a = true) (hb : b = true) : (a && b) = true := by rw [ha, hb]; rfl
theorem closed : joinedFacts Tryz.pinned.checked.prog 11 Tryz.f11 Rows.siblingGetsSpec Rows.siblingGetsRow = true := and2 (and2 (and2 (and2 (and2 (and2 (and2 (and2 (and2 (and2 (and2 (and2 (and2 (and2 (and2 (and2 (and2 (and2 (and2 (and2 (and2 (and2 (and2 (and2 (and2 (and2 (and2 (and2 (and2 (and2 (and2 (jf0) jf1) jf2) jf3) jf4) jf5) jf6) jf7) jf8) jf9) jf10) jf11) jf12) jf13) jf14) jf15) jf16) jf17) jf18) jf19) jf20) jf21) jf22) jf23) jf24) jf25) jf26) jf27) jf28) jf29) jf30) jf31
theorem over : Rows.siblingGetsRow.holds Tryz.pinned (OpenSpec.ofChange Rows.siblingGetsSpec) :=
 OpenClaim.holds_of_wide 11 Tryz.f11 rfl rfl rfl rfl rfl rfl rfl ⟨rfl, rfl, rfl, rfl, rfl⟩ rfl rfl rfl rfl rfl (by kernel_rfl) Tryz.func11 closed
  (of_decide_eq_true (by kernel_rfl)) (by unfold Func.isWrapper; first | (rw [if_pos (by decide +kernel)]; kernel_rfl) | (rw [if_neg (by decide +kernel)]; exact ⟨rfl, rfl⟩))
  (fun os started H enc _ => lifted os started H enc)
theorem proved : Rows.SiblingGetsSaid := over
#print axioms proved
end Go.Proofs.YtodhbhanmdfdeaaGreat.siblingGets
