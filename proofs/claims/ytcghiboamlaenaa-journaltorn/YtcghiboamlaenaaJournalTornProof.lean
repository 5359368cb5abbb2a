/- Proved: whatever its input, JournalTorn of buttresslaw19 returns true, and its input reads as it did; no condition beside the given row's own. (The frame is the kit's shell's.) -/
import Derived.Test.YtcghiboamlaenaaRows
import Derived.WalkKit
import Derived.ProofKit
import Derived.OpenShut
import Derived.ShutString
import Derived.ChangeOld
import Derived.Below
import Derived.SizedLaws
import Derived.Carry
import Derived.Test.YtcghiboamlaenaaSpOpen
import Derived.Test.YtcghiboamlaenaaJourn6
namespace Go.Proofs.Ytcghiboamlaenaa.journalTorn
open Go.ChangeShapes Go.WideShapes Go.ChangeAt Go.RowKit Go.Sp
open Go.ChangeMaps (open_string shut_string)
set_option linter.unusedVariables false
set_option maxRecDepth 100000

theorem own : ownKnob Go.Proofs.Try.prog.godebug = none := by kernel_rfl
theorem laidOut : laidOutB Go.Proofs.Try.prog = true := by kernel_rfl
theorem opens5 : Opens Go.Proofs.Try.prog 5 Rp.u8 Anyv := Opens.u8 Go.Proofs.Try.underlying5
theorem opens22 : Opens Go.Proofs.Try.prog 22 (Rp.slice Rp.u8) (Within Anyv) := Opens.slice opens5 Go.Proofs.Try.underlying22 (by kernel_rfl) (of_decide_eq_true (by kernel_rfl)) (by decide)
theorem opens23 : Opens Go.Proofs.Try.prog 23 Rp.u8 Anyv := Opens.u8 Go.Proofs.Try.underlying23
theorem opens25 : Opens Go.Proofs.Try.prog 25 (Rp.prod Rp.u8 (Rp.prod (Rp.slice Rp.u8) Rp.unit)) (fun x => Anyv x.1 ∧ (fun x => (Within Anyv) x.1 ∧ Anyv x.2) x.2) := by refine Opens.struct (T := (Rp.prod Rp.u8 (Rp.prod (Rp.slice Rp.u8) Rp.unit))) (Q := (fun x => Anyv x.1 ∧ (fun x => (Within Anyv) x.1 ∧ Anyv x.2) x.2)) ?_ Go.Proofs.Try.underlying25 (by kernel_rfl); exact (OpensF.cons rfl (by kernel_rfl) opens23 (OpensF.cons rfl (by kernel_rfl) opens22 OpensF.nil))
theorem opens36 : Opens Go.Proofs.Try.prog 36 (Rp.slice (Rp.prod Rp.u8 (Rp.prod (Rp.slice Rp.u8) Rp.unit))) (Within (fun x => Anyv x.1 ∧ (fun x => (Within Anyv) x.1 ∧ Anyv x.2) x.2)) := Opens.slice opens25 Go.Proofs.Try.underlying36 (by kernel_rfl) (of_decide_eq_true (by kernel_rfl)) (by decide)

theorem lifted (os : Os) (started : os.Started) (H : Type) (enc : TypeId × Value → H) :
    ReturnsInHanded {} Go.Proofs.Try.checked os 4 .any (Rows.journalTornSpec.pre6 enc Go.Proofs.Try.prog Go.Proofs.Try.f4 Rows.journalTornRow.domain false) (Rows.journalTornSpec.post enc Go.Proofs.Try.prog Go.Proofs.Try.f4 false true false false) := by
  refine returnsInHanded_of_change_sized (C := Go.Proofs.Try.checked) own started (by kernel_rfl) Go.Proofs.Try.func4
    (ChangeSpec.witness6 (enc := enc) (C := Go.Proofs.Try.checked) false ⟨#[], #[.slice none 0 0, .int .i64 0], []⟩ 8 (by kernel_rfl) (by kernel_rfl) (by kernel_rfl) (by kernel_rfl)) ?_
  intro W base args ds gs before hval0 hW hcnd hreach _
  have hval : ∀ (j : Nat) t v, Go.Proofs.Try.f4.params[j]? = some t → args[j]? = some v → Value.okWide Go.Proofs.Try.prog W .any base t v := hval0
  have hW' := hW
  obtain ⟨p, q, hA0, hV, rfl, hfz, hnd⟩ := hW
  have hA : DataW.TrodAll enc Go.Proofs.Try.prog W 0 (fun _ => true) true Go.Proofs.Try.f4.params.toList args.toList ds p := hA0
  rw [Go.Proofs.Try.params4] at hA hval hreach
  obtain ⟨v0, vs0, d0, ds0, p0, q0, hargs, rfl, rfl, r0, t0⟩ := trodAll_cons hA
  obtain ⟨v1, vs1, d1, ds1, p1, q1, rfl, rfl, rfl, r1, t1⟩ := trodAll_cons t0
  obtain ⟨rfl, rfl, rfl⟩ := trodAll_nil t1
  obtain rfl : args = #[v0, v1] := by cases args; simp_all
  obtain ⟨rfl, rfl⟩ := trodVars_none hV
  have hre : ∀ n ∈ DataW.weightsEach _ _ _, n ≤ reachBytes := fun n hn => by simpa using List.all_eq_true.mp hreach n hn
  obtain ⟨s0, m0, c0, rfl⟩ := okWide_slice Go.Proofs.Try.underlying36 (hval 0 36 v0 rfl rfl)
  have k0 := r0
  have lt0 : ∀ x ∈ p0, x.block < W.heap.size := by obtain ⟨m, hm⟩ := k0; exact DataW.trod_lt m _ _ _ hm
  obtain ⟨x0, h0, q0⟩ : ∃ xs, Arr (Rp.prod Rp.u8 (Rp.prod (Rp.slice Rp.u8) Rp.unit)) W.fr (.slice s0 m0 c0) xs ∧ (Within (fun x => Anyv x.1 ∧ (fun x => (Within Anyv) x.1 ∧ Anyv x.2) x.2)) xs := by
    obtain ⟨fuel, hf⟩ := r0
    exact Opens.arr opens36 hf (light_each hre 0 (by simp) (by simp))
  obtain ⟨x1, rfl, rfl, rfl, w1⟩ := open_int Go.Proofs.Try.underlying3 (hval 1 3 v1 rfl rfl) r1
  have q1 : InI64 x1 := by unfold InI64; simpa [Lit.wf, IntKind.min, IntKind.max, IntKind.wrap, IntKind.bits, IntKind.signed] using w1
  refine ((torn_c h0) W.gr (Fr.sub_refl _) W (Holds.of_world W)).mono fun e W' ⟨η', h, hw⟩ => ?_
  cases e with
  | returned v =>
    obtain ⟨rfl, rfl⟩ := h
    have bel := hw.below
    exact ⟨_, rfl, _, _, _, [], _, [], hW', trodAll_mk1 (shut_bool Go.Proofs.Try.underlying4 _), (trodAll_cons_mk (Below.trod laidOut (by kernel_rfl) (of_decide_eq_true (by kernel_rfl)) k0 bel lt0) (trodAll_cons_mk (shut_int Go.Proofs.Try.underlying3 w1) trodAll_mk0)), rfl, bel.frame _, fun h => by cases h⟩
  | panicked _ => exact h.elim
  | outgrown => exact h.elim

theorem over : Rows.journalTornRow.holds Try.pinned (OpenSpec.ofChange Rows.journalTornSpec) :=
  OpenClaim.holds_of_wide 4 Go.Proofs.Try.f4 rfl rfl rfl rfl rfl rfl rfl ⟨rfl, rfl, rfl, rfl, rfl⟩ rfl rfl rfl rfl rfl (by kernel_rfl) Go.Proofs.Try.func4 (by kernel_rfl)
    (of_decide_eq_true (by kernel_rfl)) (by unfold Func.isWrapper; first | (rw [if_pos (by decide +kernel)]; kernel_rfl) | (rw [if_neg (by decide +kernel)]; exact ⟨rfl, rfl⟩))
    (fun os started H enc _ => lifted os started H enc)

/-- ████ THE STATEMENT ████ -/
theorem proved : Rows.JournalTornSaid := over
#print axioms proved
end Go.Proofs.Ytcghiboamlaenaa.journalTorn
