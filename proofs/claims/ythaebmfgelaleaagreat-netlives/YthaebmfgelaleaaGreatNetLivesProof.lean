/- Proved: whatever its input, NetLives of buttresslaw27 returns true, and its input reads as it did; no condition beside the given row's own. (The frame is the kit's shell's.) -/
import Derived.Test.YthaebmfgelaleaaGreatRows
import Derived.WalkKit
import Derived.ProofKit
import Derived.OpenShut
import Derived.ShutString
import Derived.ChangeOld
import Derived.Below
import Derived.SizedLaws
import Derived.Carry
import Derived.Test.YthaebmfgelaleaaGreatSpOpen
import Derived.Test.YthaebmfgelaleaaGreatRnet6
namespace Go.Proofs.YthaebmfgelaleaaGreat.netLives
open Go.ChangeShapes Go.WideShapes Go.ChangeAt Go.RowKit Go.Sp
open Go.ChangeMaps (open_string shut_string)
set_option linter.unusedVariables false
set_option maxRecDepth 100000

theorem own : ownKnob Go.Proofs.Tryz.prog.godebug = none := by kernel_rfl
theorem laidOut : laidOutB Go.Proofs.Tryz.prog = true := by kernel_rfl
theorem opens5 : Opens Go.Proofs.Tryz.prog 5 Rp.u8 Anyv := Opens.u8 Go.Proofs.Tryz.underlying5
theorem opens33 : Opens Go.Proofs.Tryz.prog 33 (Rp.slice Rp.u8) (Within Anyv) := Opens.slice opens5 Go.Proofs.Tryz.underlying33 (by kernel_rfl) (of_decide_eq_true (by kernel_rfl)) (by decide)
theorem opens3 : Opens Go.Proofs.Tryz.prog 3 Rp.i64 InI64 := Opens.i64 Go.Proofs.Tryz.underlying3
theorem opens35 : Opens Go.Proofs.Tryz.prog 35 (Rp.prod Rp.i64 (Rp.prod Rp.i64 (Rp.prod (Rp.slice Rp.u8) Rp.unit))) (fun x => InI64 x.1 ∧ (fun x => InI64 x.1 ∧ (fun x => (Within Anyv) x.1 ∧ Anyv x.2) x.2) x.2) := by refine Opens.struct (T := (Rp.prod Rp.i64 (Rp.prod Rp.i64 (Rp.prod (Rp.slice Rp.u8) Rp.unit)))) (Q := (fun x => InI64 x.1 ∧ (fun x => InI64 x.1 ∧ (fun x => (Within Anyv) x.1 ∧ Anyv x.2) x.2) x.2)) ?_ Go.Proofs.Tryz.underlying35 (by kernel_rfl); exact (OpensF.cons rfl (by kernel_rfl) opens3 (OpensF.cons rfl (by kernel_rfl) opens3 (OpensF.cons rfl (by kernel_rfl) opens33 OpensF.nil)))
theorem opens29 : Opens Go.Proofs.Tryz.prog 29 (Rp.slice (Rp.prod Rp.i64 (Rp.prod Rp.i64 (Rp.prod (Rp.slice Rp.u8) Rp.unit)))) (Within (fun x => InI64 x.1 ∧ (fun x => InI64 x.1 ∧ (fun x => (Within Anyv) x.1 ∧ Anyv x.2) x.2) x.2)) := Opens.slice opens35 Go.Proofs.Tryz.underlying29 (by kernel_rfl) (of_decide_eq_true (by kernel_rfl)) (by decide)
theorem opens31 : Opens Go.Proofs.Tryz.prog 31 (Rp.prod Rp.i64 (Rp.prod Rp.i64 (Rp.prod Rp.i64 (Rp.prod Rp.i64 (Rp.prod (Rp.slice (Rp.prod Rp.i64 (Rp.prod Rp.i64 (Rp.prod (Rp.slice Rp.u8) Rp.unit)))) Rp.unit))))) (fun x => InI64 x.1 ∧ (fun x => InI64 x.1 ∧ (fun x => InI64 x.1 ∧ (fun x => InI64 x.1 ∧ (fun x => (Within (fun x => InI64 x.1 ∧ (fun x => InI64 x.1 ∧ (fun x => (Within Anyv) x.1 ∧ Anyv x.2) x.2) x.2)) x.1 ∧ Anyv x.2) x.2) x.2) x.2) x.2) := by refine Opens.struct (T := (Rp.prod Rp.i64 (Rp.prod Rp.i64 (Rp.prod Rp.i64 (Rp.prod Rp.i64 (Rp.prod (Rp.slice (Rp.prod Rp.i64 (Rp.prod Rp.i64 (Rp.prod (Rp.slice Rp.u8) Rp.unit)))) Rp.unit)))))) (Q := (fun x => InI64 x.1 ∧ (fun x => InI64 x.1 ∧ (fun x => InI64 x.1 ∧ (fun x => InI64 x.1 ∧ (fun x => (Within (fun x => InI64 x.1 ∧ (fun x => InI64 x.1 ∧ (fun x => (Within Anyv) x.1 ∧ Anyv x.2) x.2) x.2)) x.1 ∧ Anyv x.2) x.2) x.2) x.2) x.2)) ?_ Go.Proofs.Tryz.underlying31 (by kernel_rfl); exact (OpensF.cons rfl (by kernel_rfl) opens3 (OpensF.cons rfl (by kernel_rfl) opens3 (OpensF.cons rfl (by kernel_rfl) opens3 (OpensF.cons rfl (by kernel_rfl) opens3 (OpensF.cons rfl (by kernel_rfl) opens29 OpensF.nil)))))
theorem opens22 : Opens Go.Proofs.Tryz.prog 22 (Rp.slice (Rp.prod Rp.i64 (Rp.prod Rp.i64 (Rp.prod Rp.i64 (Rp.prod Rp.i64 (Rp.prod (Rp.slice (Rp.prod Rp.i64 (Rp.prod Rp.i64 (Rp.prod (Rp.slice Rp.u8) Rp.unit)))) Rp.unit)))))) (Within (fun x => InI64 x.1 ∧ (fun x => InI64 x.1 ∧ (fun x => InI64 x.1 ∧ (fun x => InI64 x.1 ∧ (fun x => (Within (fun x => InI64 x.1 ∧ (fun x => InI64 x.1 ∧ (fun x => (Within Anyv) x.1 ∧ Anyv x.2) x.2) x.2)) x.1 ∧ Anyv x.2) x.2) x.2) x.2) x.2)) := Opens.slice opens31 Go.Proofs.Tryz.underlying22 (by kernel_rfl) (of_decide_eq_true (by kernel_rfl)) (by decide)

theorem lifted (os : Os) (started : os.Started) (H : Type) (enc : TypeId × Value → H) :
    ReturnsInHanded {} Go.Proofs.Tryz.checked os 3 .any (Rows.netLivesSpec.pre6 enc Go.Proofs.Tryz.prog Go.Proofs.Tryz.f3 Rows.netLivesRow.domain false) (Rows.netLivesSpec.post enc Go.Proofs.Tryz.prog Go.Proofs.Tryz.f3 false true false false) := by
  refine returnsInHanded_of_change_sized (C := Go.Proofs.Tryz.checked) own started (by kernel_rfl) Go.Proofs.Tryz.func3
    (ChangeSpec.witness6 (enc := enc) (C := Go.Proofs.Tryz.checked) false ⟨#[], #[.slice none 0 0], []⟩ 8 (by kernel_rfl) (by kernel_rfl) (by kernel_rfl) (by kernel_rfl)) ?_
  intro W base args ds gs before hval0 hW hcnd hreach _
  have hval : ∀ (j : Nat) t v, Go.Proofs.Tryz.f3.params[j]? = some t → args[j]? = some v → Value.okWide Go.Proofs.Tryz.prog W .any base t v := hval0
  have hW' := hW
  obtain ⟨p, q, hA0, hV, rfl, hfz, hnd⟩ := hW
  have hA : DataW.TrodAll enc Go.Proofs.Tryz.prog W 0 (fun _ => true) true Go.Proofs.Tryz.f3.params.toList args.toList ds p := hA0
  rw [Go.Proofs.Tryz.params3] at hA hval hreach
  obtain ⟨v0, vs0, d0, ds0, p0, q0, hargs, rfl, rfl, r0, t0⟩ := trodAll_cons hA
  obtain ⟨rfl, rfl, rfl⟩ := trodAll_nil t0
  obtain rfl : args = #[v0] := by cases args; simp_all
  obtain ⟨rfl, rfl⟩ := trodVars_none hV
  have hre : ∀ n ∈ DataW.weightsEach _ _ _, n ≤ reachBytes := fun n hn => by simpa using List.all_eq_true.mp hreach n hn
  obtain ⟨s0, m0, c0, rfl⟩ := okWide_slice Go.Proofs.Tryz.underlying22 (hval 0 22 v0 rfl rfl)
  have k0 := r0
  have lt0 : ∀ x ∈ p0, x.block < W.heap.size := by obtain ⟨m, hm⟩ := k0; exact DataW.trod_lt m _ _ _ hm
  obtain ⟨x0, h0, q0⟩ : ∃ xs, Arr (Rp.prod Rp.i64 (Rp.prod Rp.i64 (Rp.prod Rp.i64 (Rp.prod Rp.i64 (Rp.prod (Rp.slice (Rp.prod Rp.i64 (Rp.prod Rp.i64 (Rp.prod (Rp.slice Rp.u8) Rp.unit)))) Rp.unit))))) W.fr (.slice s0 m0 c0) xs ∧ (Within (fun x => InI64 x.1 ∧ (fun x => InI64 x.1 ∧ (fun x => InI64 x.1 ∧ (fun x => InI64 x.1 ∧ (fun x => (Within (fun x => InI64 x.1 ∧ (fun x => InI64 x.1 ∧ (fun x => (Within Anyv) x.1 ∧ Anyv x.2) x.2) x.2)) x.1 ∧ Anyv x.2) x.2) x.2) x.2) x.2)) xs := by
    obtain ⟨fuel, hf⟩ := r0
    exact Opens.arr opens22 hf (light_each hre 0 (by simp) (by simp))
  refine ((netLives_c h0 ⟨q0.1, fun d hd => ⟨(q0.2 d hd).2.2.2.2.1.1, fun p hp => ((q0.2 d hd).2.2.2.2.1.2 p hp).2.2.1.1⟩⟩) W.gr (Fr.sub_refl _) W (Holds.of_world W)).mono fun e W' ⟨η', h, hw⟩ => ?_
  cases e with
  | returned v =>
    obtain ⟨rfl, rfl⟩ := h
    have bel := hw.below
    exact ⟨_, rfl, _, _, _, [], _, [], hW', trodAll_mk1 (shut_bool Go.Proofs.Tryz.underlying4 _), (trodAll_cons_mk (Below.trod laidOut (by kernel_rfl) (of_decide_eq_true (by kernel_rfl)) k0 bel lt0) trodAll_mk0), rfl, bel.frame _, fun h => by cases h⟩
  | panicked _ => exact h.elim
  | outgrown => exact h.elim

theorem over : Rows.netLivesRow.holds Tryz.pinned (OpenSpec.ofChange Rows.netLivesSpec) :=
  OpenClaim.holds_of_wide 3 Go.Proofs.Tryz.f3 rfl rfl rfl rfl rfl rfl rfl ⟨rfl, rfl, rfl, rfl, rfl⟩ rfl rfl rfl rfl rfl (by kernel_rfl) Go.Proofs.Tryz.func3 (by kernel_rfl)
    (of_decide_eq_true (by kernel_rfl)) (by unfold Func.isWrapper; first | (rw [if_pos (by decide +kernel)]; kernel_rfl) | (rw [if_neg (by decide +kernel)]; exact ⟨rfl, rfl⟩))
    (fun os started H enc _ => lifted os started H enc)


/-- ████ THE STATEMENT ████ -/
theorem proved : Rows.NetLivesSaid := over
#print axioms proved
end Go.Proofs.YthaebmfgelaleaaGreat.netLives
