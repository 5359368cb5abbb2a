/- Proved: whatever its input, SiblingBack of buttresslaw09 returns true, and its input reads as it did; no condition beside the given row's own. (The frame is the kit's shell's.) -/
import Derived.WalkKit
import Derived.ProofKit
import Derived.OpenShut
import Derived.ShutString
import Derived.ChangeOld
import Derived.Below
import Derived.SizedLaws
import Derived.Carry
import Derived.Test.YtodhbhanmdfdeaaGreatQSiblingBackFacts2
import Derived.Test.YtodhbhanmdfdeaaGreatQSiblingBackFacts1
import Derived.Test.YtodhbhanmdfdeaaGreatQSiblingBackFacts0
import Derived.Test.YtodhbhanmdfdeaaGreatQSlaw7
namespace Go.Proofs.YtodhbhanmdfdeaaGreat.siblingBack
open Go.ChangeShapes Go.WideShapes Go.ChangeAt Go.RowKit Go.Sp
open Go.ChangeMaps (open_string shut_string)
set_option linter.unusedVariables false
set_option maxRecDepth 100000
theorem own : ownKnob Tryz.prog.godebug = none := by kernel_rfl
theorem laidOut : laidOutB Tryz.prog = true := by kernel_rfl
theorem opens5 : Opens Tryz.prog 5 Rp.u8 Anyv := Opens.u8 Tryz.underlying5
theorem opens31 : Opens Tryz.prog 31 (Rp.slice Rp.u8) (Within Anyv) := Opens.slice opens5 Tryz.underlying31 (by kernel_rfl) (of_decide_eq_true (by kernel_rfl)) (by decide)
theorem opens4 : Opens Tryz.prog 4 Rp.bool Anyv := Opens.bool Tryz.underlying4
theorem opens3 : Opens Tryz.prog 3 Rp.i64 InI64 := Opens.i64 Tryz.underlying3
def Both {α β : Type} (Q : α → Prop) (R : β → Prop) (x : α × β) : Prop := Q x.1 ∧ R x.2
theorem OpensF.cons2 {P : Program} {f : Field} {fs : List Field} {off : Nat} {α β : Type} {T : Rp α} {U : Rp β} {Q : α → Prop} {R : β → Prop} (ho : f.offset = off) (hc : P.cellsOf f.type = T.k) (h1 : Opens P f.type T Q) (h2 : OpensF P fs (off + T.k) U R) : OpensF P (f :: fs) off (Rp.prod T U) (Both Q R) := OpensF.cons ho hc h1 h2
theorem opens166 : Opens Tryz.prog 166 (Rp.prod Rp.i64 (Rp.prod Rp.i64 Rp.unit)) (Both InI64 (Both InI64 Anyv)) := by refine Opens.struct (T := (Rp.prod Rp.i64 (Rp.prod Rp.i64 Rp.unit))) (Q := (Both InI64 (Both InI64 Anyv))) ?_ Tryz.underlying166 (by kernel_rfl); exact (OpensF.cons2 rfl (by kernel_rfl) opens3 (OpensF.cons2 rfl (by kernel_rfl) opens3 OpensF.nil))
theorem opens72 : Opens Tryz.prog 72 (Rp.slice (Rp.prod Rp.i64 (Rp.prod Rp.i64 Rp.unit))) (Within (Both InI64 (Both InI64 Anyv))) := Opens.slice opens166 Tryz.underlying72 (by kernel_rfl) (of_decide_eq_true (by kernel_rfl)) (by decide)
def ShortS (s : List UInt8) : Prop := s.length ≤ 140737488351232
theorem opens9 : Opens Tryz.prog 9 Rp.str ShortS := Opens.str Tryz.underlying9
theorem opens74 : Opens Tryz.prog 74 (Rp.prod Rp.str (Rp.prod Rp.i64 (Rp.prod Rp.i64 (Rp.prod (Rp.slice (Rp.prod Rp.i64 (Rp.prod Rp.i64 Rp.unit))) (Rp.prod Rp.bool (Rp.prod (Rp.slice Rp.u8) (Rp.prod (Rp.slice Rp.u8) Rp.unit))))))) (Both ShortS (Both InI64 (Both InI64 (Both (Within (Both InI64 (Both InI64 Anyv))) (Both Anyv (Both (Within Anyv) (Both (Within Anyv) Anyv))))))) := by refine Opens.struct (T := (Rp.prod Rp.str (Rp.prod Rp.i64 (Rp.prod Rp.i64 (Rp.prod (Rp.slice (Rp.prod Rp.i64 (Rp.prod Rp.i64 Rp.unit))) (Rp.prod Rp.bool (Rp.prod (Rp.slice Rp.u8) (Rp.prod (Rp.slice Rp.u8) Rp.unit)))))))) (Q := (Both ShortS (Both InI64 (Both InI64 (Both (Within (Both InI64 (Both InI64 Anyv))) (Both Anyv (Both (Within Anyv) (Both (Within Anyv) Anyv)))))))) ?_ Tryz.underlying74 (by kernel_rfl); exact (OpensF.cons2 rfl (by kernel_rfl) opens9 (OpensF.cons2 rfl (by kernel_rfl) opens3 (OpensF.cons2 rfl (by kernel_rfl) opens3 (OpensF.cons2 rfl (by kernel_rfl) opens72 (OpensF.cons2 rfl (by kernel_rfl) opens4 (OpensF.cons2 rfl (by kernel_rfl) opens31 (OpensF.cons2 rfl (by kernel_rfl) opens31 OpensF.nil)))))))
theorem opens47 : Opens Tryz.prog 47 (Rp.slice (Rp.prod Rp.str (Rp.prod Rp.i64 (Rp.prod Rp.i64 (Rp.prod (Rp.slice (Rp.prod Rp.i64 (Rp.prod Rp.i64 Rp.unit))) (Rp.prod Rp.bool (Rp.prod (Rp.slice Rp.u8) (Rp.prod (Rp.slice Rp.u8) Rp.unit)))))))) (Within (Both ShortS (Both InI64 (Both InI64 (Both (Within (Both InI64 (Both InI64 Anyv))) (Both Anyv (Both (Within Anyv) (Both (Within Anyv) Anyv)))))))) := Opens.slice opens74 Tryz.underlying47 (by kernel_rfl) (of_decide_eq_true (by kernel_rfl)) (by decide)
theorem lifted (os : Os) (started : os.Started) (H : Type) (enc : TypeId × Value → H) :
  ReturnsInHanded {} Tryz.checked os 13 .any (Rows.siblingBackSpec.pre6 enc Tryz.prog Tryz.f13 Rows.siblingBackRow.domain false) (Rows.siblingBackSpec.post enc Tryz.prog Tryz.f13 false true false false) := by
 refine returnsInHanded_of_change_sized (C := Tryz.checked) own started (by kernel_rfl) Tryz.func13
  (ChangeSpec.witness6 (enc := enc) (C := Tryz.checked) false ⟨#[], #[.slice none 0 0, .slice none 0 0, .int .i64 0], []⟩ 8 (by kernel_rfl) (by kernel_rfl) (by kernel_rfl) (by kernel_rfl)) ?_
 intro W base args ds gs before hval0 hW hcnd hreach _
 have hval : ∀ (j : Nat) t v, Tryz.f13.params[j]? = some t → args[j]? = some v → Value.okWide Tryz.prog W .any base t v := hval0
 have hW' := hW
 obtain ⟨p, q, hA0, hV, rfl, hfz, hnd⟩ := hW
 have hA : DataW.TrodAll enc Tryz.prog W 0 (fun _ => true) true Tryz.f13.params.toList args.toList ds p := hA0
 rw [Tryz.params13] at hA hval hreach
 obtain ⟨v0, vs0, d0, ds0, p0, q0, hargs, rfl, rfl, r0, t0⟩ := trodAll_cons hA
 obtain ⟨v1, vs1, d1, ds1, p1, q1, rfl, rfl, rfl, r1, t1⟩ := trodAll_cons t0
 obtain ⟨v2, vs2, d2, ds2, p2, q2, rfl, rfl, rfl, r2, t2⟩ := trodAll_cons t1
 obtain ⟨rfl, rfl, rfl⟩ := trodAll_nil t2
 obtain rfl : args = #[v0, v1, v2] := by cases args; simp_all
 obtain ⟨rfl, rfl⟩ := trodVars_none hV
 have hre : ∀ n ∈ DataW.weightsEach _ _ _, n ≤ reachBytes := fun n hn => by simpa using List.all_eq_true.mp hreach n hn
 obtain ⟨s0, m0, c0, rfl⟩ := okWide_slice Tryz.underlying47 (hval 0 47 v0 rfl rfl)
 have k0 := r0
 have lt0 : ∀ x ∈ p0, x.block < W.heap.size := by obtain ⟨m, hm⟩ := k0; exact DataW.trod_lt m _ _ _ hm
 obtain ⟨x0, h0, q0⟩ : ∃ xs, Arr (Rp.prod Rp.str (Rp.prod Rp.i64 (Rp.prod Rp.i64 (Rp.prod (Rp.slice (Rp.prod Rp.i64 (Rp.prod Rp.i64 Rp.unit))) (Rp.prod Rp.bool (Rp.prod (Rp.slice Rp.u8) (Rp.prod (Rp.slice Rp.u8) Rp.unit))))))) W.fr (.slice s0 m0 c0) xs ∧ (Within (Both ShortS (Both InI64 (Both InI64 (Both (Within (Both InI64 (Both InI64 Anyv))) (Both Anyv (Both (Within Anyv) (Both (Within Anyv) Anyv)))))))) xs := by
  obtain ⟨fuel, hf⟩ := r0
  exact Opens.arr opens47 hf (light_each hre 0 (by simp) (by simp))
 obtain ⟨s1, m1, c1, rfl⟩ := okWide_slice Tryz.underlying31 (hval 1 31 v1 rfl rfl)
 have k1 := r1
 have lt1 : ∀ x ∈ p1, x.block < W.heap.size := by obtain ⟨m, hm⟩ := k1; exact DataW.trod_lt m _ _ _ hm
 obtain ⟨x1, h1, q1⟩ : ∃ xs, Arr Rp.u8 W.fr (.slice s1 m1 c1) xs ∧ (Within Anyv) xs := by
  obtain ⟨fuel, hf⟩ := r1
  exact Opens.arr opens31 hf (light_each hre 1 (by simp) (by simp))
 obtain ⟨x2, rfl, rfl, rfl, w2⟩ := open_int Tryz.underlying3 (hval 2 3 v2 rfl rfl) r2
 have q2 : InI64 x2 := by unfold InI64; simpa [Lit.wf, IntKind.min, IntKind.max, IntKind.wrap, IntKind.bits, IntKind.signed] using w2
 refine ((siblingBack_c (r := W.fr) h0 ⟨q0.1, fun y hy => have u := q0.2 y hy; ⟨u.1, u.2.2.2.1.1, u.2.2.2.2.2.1.1, u.2.2.2.2.2.2.1.1⟩⟩ h1) W.gr (Fr.sub_refl _) W (Holds.of_world W)).mono fun e W' ⟨η', h, hw⟩ => ?_
 cases e with
 | returned v =>
  obtain ⟨rfl, rfl⟩ := h
  have bel := hw.below
  exact ⟨_, rfl, _, _, _, [], _, [], hW', trodAll_mk1 (shut_bool Tryz.underlying4 _), (trodAll_cons_mk (Below.trod laidOut (by kernel_rfl) (of_decide_eq_true (by kernel_rfl)) k0 bel lt0) (trodAll_cons_mk (Below.trod laidOut (by kernel_rfl) (of_decide_eq_true (by kernel_rfl)) k1 bel lt1) (trodAll_cons_mk (shut_int Tryz.underlying3 w2) trodAll_mk0))), rfl, bel.frame _, fun h => by cases h⟩
 | panicked _ => exact h.elim
 | outgrown => exact h.elim
theorem and2 {a b : Bool} (ha : a = true) (hb : b = true) : (a && b) = true := by rw [ha, hb]; rfl
theorem closed : joinedFacts Tryz.pinned.checked.prog 13 Tryz.f13 Rows.siblingBackSpec Rows.siblingBackRow = true := and2 (and2 (and2 (and2 (and2 (and2 (and2 (and2 (and2 (and2 (and2 (and2 (and2 (and2 (and2 (and2 (and2 (and2 (and2 (and2 (and2 (and2 (and2 (and2 (and2 (and2 (and2 (and2 (and2 (and2 (and2 (jf0) jf1) jf2) jf3) jf4) jf5) jf6) jf7) jf8) jf9) jf10) jf11) jf12) jf13) jf14) jf15) jf16) jf17) jf18) jf19) jf20) jf21) jf22) jf23) jf24) jf25) jf26) jf27) jf28) jf29) jf30) jf31
theorem over : Rows.siblingBackRow.holds Tryz.pinned (OpenSpec.ofChange Rows.siblingBackSpec) :=
 OpenClaim.holds_of_wide 13 Tryz.f13 rfl rfl rfl rfl rfl rfl rfl ⟨rfl, rfl, rfl, rfl, rfl⟩ rfl rfl rfl rfl rfl (by kernel_rfl) Tryz.func13 closed
  (of_decide_eq_true (by kernel_rfl)) (by unfold Func.isWrapper; first | (rw [if_pos (by decide +kernel)]; kernel_rfl) | (rw [if_neg (by decide +kernel)]; exact ⟨rfl, rfl⟩))
  (fun os started H enc _ => lifted os started H enc)
theorem proved : Rows.SiblingBackSaid := over
#print axioms proved
end Go.Proofs.YtodhbhanmdfdeaaGreat.siblingBack
