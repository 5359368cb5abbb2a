/- Proved: whatever its input, NetNil of buttresslaw27 returns true, and its input reads as it did; no condition beside the given row's own. (The frame is the kit's shell's.) -/
import Derived.Test.YthaebmfgelaleaaRows
import Derived.WalkKit
import Derived.ProofKit
import Derived.OpenShut
import Derived.ShutString
import Derived.ChangeOld
import Derived.Below
import Derived.SizedLaws
import Derived.Carry
import Derived.Test.YthaebmfgelaleaaSpOpen
import Derived.Test.YthaebmfgelaleaaNet10
namespace Go.Proofs.Ythaebmfgelaleaa.netNil
open Go.ChangeShapes Go.WideShapes Go.ChangeAt Go.RowKit Go.Sp
open Go.ChangeMaps (open_string shut_string)
set_option linter.unusedVariables false
set_option maxRecDepth 100000

theorem own : ownKnob Go.Proofs.Try.prog.godebug = none := by kernel_rfl
theorem laidOut : laidOutB Go.Proofs.Try.prog = true := by kernel_rfl
theorem opens5 : Opens Go.Proofs.Try.prog 5 Rp.u8 Anyv := Opens.u8 Go.Proofs.Try.underlying5
theorem opens22 : Opens Go.Proofs.Try.prog 22 (Rp.slice Rp.u8) (Within Anyv) := Opens.slice opens5 Go.Proofs.Try.underlying22 (by kernel_rfl) (of_decide_eq_true (by kernel_rfl)) (by decide)
theorem opens3 : Opens Go.Proofs.Try.prog 3 Rp.i64 InI64 := Opens.i64 Go.Proofs.Try.underlying3
theorem opens24 : Opens Go.Proofs.Try.prog 24 (Rp.prod Rp.i64 (Rp.prod Rp.i64 (Rp.prod (Rp.slice Rp.u8) Rp.unit))) (fun x => InI64 x.1 ∧ (fun x => InI64 x.1 ∧ (fun x => (Within Anyv) x.1 ∧ Anyv x.2) x.2) x.2) := by refine Opens.struct (T := (Rp.prod Rp.i64 (Rp.prod Rp.i64 (Rp.prod (Rp.slice Rp.u8) Rp.unit)))) (Q := (fun x => InI64 x.1 ∧ (fun x => InI64 x.1 ∧ (fun x => (Within Anyv) x.1 ∧ Anyv x.2) x.2) x.2)) ?_ Go.Proofs.Try.underlying24 (by kernel_rfl); exact (OpensF.cons rfl (by kernel_rfl) opens3 (OpensF.cons rfl (by kernel_rfl) opens3 (OpensF.cons rfl (by kernel_rfl) opens22 OpensF.nil)))

theorem lifted (os : Os) (started : os.Started) (H : Type) (enc : TypeId × Value → H) :
    ReturnsInHanded {} Go.Proofs.Try.checked os 3 .any (Rows.netNilSpec.pre6 enc Go.Proofs.Try.prog Go.Proofs.Try.f3 Rows.netNilRow.domain false) (Rows.netNilSpec.post enc Go.Proofs.Try.prog Go.Proofs.Try.f3 false true false false) := by
  refine returnsInHanded_of_change_sized (C := Go.Proofs.Try.checked) own started (by kernel_rfl) Go.Proofs.Try.func3
    (ChangeSpec.witness6 (enc := enc) (C := Go.Proofs.Try.checked) false ⟨#[], #[.int .i64 0, .int .i64 0, .int .i64 0, .agg #[.int .i64 0, .int .i64 0, .slice none 0 0]], []⟩ 8 (by kernel_rfl) (by kernel_rfl) (by kernel_rfl) (by kernel_rfl)) ?_
  intro W base args ds gs before hval0 hW hcnd hreach _
  have hval : ∀ (j : Nat) t v, Go.Proofs.Try.f3.params[j]? = some t → args[j]? = some v → Value.okWide Go.Proofs.Try.prog W .any base t v := hval0
  have hW' := hW
  obtain ⟨p, q, hA0, hV, rfl, hfz, hnd⟩ := hW
  have hA : DataW.TrodAll enc Go.Proofs.Try.prog W 0 (fun _ => true) true Go.Proofs.Try.f3.params.toList args.toList ds p := hA0
  rw [Go.Proofs.Try.params3] at hA hval hreach
  obtain ⟨v0, vs0, d0, ds0, p0, q0, hargs, rfl, rfl, r0, t0⟩ := trodAll_cons hA
  obtain ⟨v1, vs1, d1, ds1, p1, q1, rfl, rfl, rfl, r1, t1⟩ := trodAll_cons t0
  obtain ⟨v2, vs2, d2, ds2, p2, q2, rfl, rfl, rfl, r2, t2⟩ := trodAll_cons t1
  obtain ⟨v3, vs3, d3, ds3, p3, q3, rfl, rfl, rfl, r3, t3⟩ := trodAll_cons t2
  obtain ⟨rfl, rfl, rfl⟩ := trodAll_nil t3
  obtain rfl : args = #[v0, v1, v2, v3] := by cases args; simp_all
  obtain ⟨rfl, rfl⟩ := trodVars_none hV
  have hre : ∀ n ∈ DataW.weightsEach _ _ _, n ≤ reachBytes := fun n hn => by simpa using List.all_eq_true.mp hreach n hn
  obtain ⟨x0, rfl, rfl, rfl, w0⟩ := open_int Go.Proofs.Try.underlying3 (hval 0 3 v0 rfl rfl) r0
  have q0 : InI64 x0 := by unfold InI64; simpa [Lit.wf, IntKind.min, IntKind.max, IntKind.wrap, IntKind.bits, IntKind.signed] using w0
  obtain ⟨x1, rfl, rfl, rfl, w1⟩ := open_int Go.Proofs.Try.underlying3 (hval 1 3 v1 rfl rfl) r1
  have q1 : InI64 x1 := by unfold InI64; simpa [Lit.wf, IntKind.min, IntKind.max, IntKind.wrap, IntKind.bits, IntKind.signed] using w1
  obtain ⟨x2, rfl, rfl, rfl, w2⟩ := open_int Go.Proofs.Try.underlying3 (hval 2 3 v2 rfl rfl) r2
  have q2 : InI64 x2 := by unfold InI64; simpa [Lit.wf, IntKind.min, IntKind.max, IntKind.wrap, IntKind.bits, IntKind.signed] using w2
  obtain ⟨s3, rfl, m3⟩ := okWide_struct Go.Proofs.Try.underlying24 (hval 3 24 v3 rfl rfl)
  have k3 := r3
  have lt3 : ∀ x ∈ p3, x.block < W.heap.size := by obtain ⟨m, hm⟩ := k3; exact DataW.trod_lt m _ _ _ hm
  obtain ⟨x3, h3, q3⟩ : ∃ x, ((Rp.prod Rp.i64 (Rp.prod Rp.i64 (Rp.prod (Rp.slice Rp.u8) Rp.unit)))).rel W.fr s3.toList x ∧ (fun x => InI64 x.1 ∧ (fun x => InI64 x.1 ∧ (fun x => (Within Anyv) x.1 ∧ Anyv x.2) x.2) x.2) x := by
    obtain ⟨fuel, hf⟩ := r3
    exact opens24 _ _ _ _ _ _ _ _ _ hf (light_each hre 3 (by simp) (by simp))
  refine ((netNil_e h3) W.gr (Fr.sub_refl _) W (Holds.of_world W)).mono fun e W' ⟨η', h, hw⟩ => ?_
  cases e with
  | returned v =>
    obtain ⟨rfl, rfl⟩ := h
    have bel := hw.below
    exact ⟨_, rfl, _, _, _, [], _, [], hW', trodAll_mk1 (shut_bool Go.Proofs.Try.underlying4 _), (trodAll_cons_mk (shut_int Go.Proofs.Try.underlying3 w0) (trodAll_cons_mk (shut_int Go.Proofs.Try.underlying3 w1) (trodAll_cons_mk (shut_int Go.Proofs.Try.underlying3 w2) (trodAll_cons_mk (Below.trod laidOut (by kernel_rfl) (of_decide_eq_true (by kernel_rfl)) k3 bel lt3) trodAll_mk0)))), rfl, bel.frame _, fun h => by cases h⟩
  | panicked _ => exact h.elim
  | outgrown => exact h.elim

theorem over : Rows.netNilRow.holds Try.pinned (OpenSpec.ofChange Rows.netNilSpec) :=
  OpenClaim.holds_of_wide 3 Go.Proofs.Try.f3 rfl rfl rfl rfl rfl rfl rfl ⟨rfl, rfl, rfl, rfl, rfl⟩ rfl rfl rfl rfl rfl (by kernel_rfl) Go.Proofs.Try.func3 (by kernel_rfl)
    (of_decide_eq_true (by kernel_rfl)) (by unfold Func.isWrapper; first | (rw [if_pos (by decide +kernel)]; kernel_rfl) | (rw [if_neg (by decide +kernel)]; exact ⟨rfl, rfl⟩))
    (fun os started H enc _ => lifted os started H enc)


/-- ████ THE STATEMENT ████ -/
theorem proved : Rows.NetNilSaid := over
#print axioms proved
end Go.Proofs.Ythaebmfgelaleaa.netNil
