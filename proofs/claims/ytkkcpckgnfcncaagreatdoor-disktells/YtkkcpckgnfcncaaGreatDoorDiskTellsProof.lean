/- Proved: whatever its input, DiskTells of buttresslaw18 returns true, and its input reads as it did; no condition beside the given row's own. (The frame is the kit's shell's.) -/
import Derived.Test.YtkkcpckgnfcncaaGreatDoorRows
import Derived.WalkKit
import Derived.ProofKit
import Derived.OpenShut
import Derived.ShutString
import Derived.ChangeOld
import Derived.Below
import Derived.SizedLaws
import Derived.Carry
import Derived.Test.YtkkcpckgnfcncaaGreatDoorSpOpen
import Derived.Test.YtkkcpckgnfcncaaGreatDoorCards
import Derived.Test.YtkkcpckgnfcncaaGreatDoorTie
import Derived.LaidMore
import Derived.LaidLaws
import Derived.LaidHandle
import Derived.Stop.Joined
import Derived.SevenTiedAt
import GoSem.PinnedTables
import Derived.Test.YtkkcpckgnfcncaaGreatDoorDtells
namespace Go.Proofs.YtkkcpckgnfcncaaGreatDoor.diskTells
open Go.ChangeShapes Go.WideShapes Go.ChangeAt Go.RowKit Go.Sp
open Go.ChangeMaps (open_string shut_string)
set_option linter.unusedVariables false
set_option maxRecDepth 100000

theorem own : ownKnob Go.Proofs.Tryz.prog.godebug = none := by kernel_rfl
theorem laidOut : laidOutB Go.Proofs.Tryz.prog = true := by kernel_rfl
theorem opens5 : Opens Go.Proofs.Tryz.prog 5 Rp.u8 Anyv := Opens.u8 Go.Proofs.Tryz.underlying5
theorem opens22 : Opens Go.Proofs.Tryz.prog 22 (Rp.slice Rp.u8) (Within Anyv) := Opens.slice opens5 Go.Proofs.Tryz.underlying22 (by kernel_rfl) (of_decide_eq_true (by kernel_rfl)) (by decide)
def ShortS (s : List UInt8) : Prop := s.length ≤ 140737488351232
theorem opens9 : Opens Go.Proofs.Tryz.prog 9 Rp.str ShortS := Opens.str Go.Proofs.Tryz.underlying9
theorem opens3 : Opens Go.Proofs.Tryz.prog 3 Rp.i64 InI64 := Opens.i64 Go.Proofs.Tryz.underlying3
theorem opens48 : Opens Go.Proofs.Tryz.prog 48 (Rp.prod Rp.i64 (Rp.prod Rp.i64 (Rp.prod Rp.str (Rp.prod Rp.str (Rp.prod (Rp.slice Rp.u8) Rp.unit))))) (fun x => InI64 x.1 ∧ (fun x => InI64 x.1 ∧ (fun x => ShortS x.1 ∧ (fun x => ShortS x.1 ∧ (fun x => (Within Anyv) x.1 ∧ Anyv x.2) x.2) x.2) x.2) x.2) := by refine Opens.struct (T := (Rp.prod Rp.i64 (Rp.prod Rp.i64 (Rp.prod Rp.str (Rp.prod Rp.str (Rp.prod (Rp.slice Rp.u8) Rp.unit)))))) (Q := (fun x => InI64 x.1 ∧ (fun x => InI64 x.1 ∧ (fun x => ShortS x.1 ∧ (fun x => ShortS x.1 ∧ (fun x => (Within Anyv) x.1 ∧ Anyv x.2) x.2) x.2) x.2) x.2)) ?_ Go.Proofs.Tryz.underlying48 (by kernel_rfl); exact (OpensF.cons rfl (by kernel_rfl) opens3 (OpensF.cons rfl (by kernel_rfl) opens3 (OpensF.cons rfl (by kernel_rfl) opens9 (OpensF.cons rfl (by kernel_rfl) opens9 (OpensF.cons rfl (by kernel_rfl) opens22 OpensF.nil)))))
theorem opens40 : Opens Go.Proofs.Tryz.prog 40 (Rp.slice (Rp.prod Rp.i64 (Rp.prod Rp.i64 (Rp.prod Rp.str (Rp.prod Rp.str (Rp.prod (Rp.slice Rp.u8) Rp.unit)))))) (Within (fun x => InI64 x.1 ∧ (fun x => InI64 x.1 ∧ (fun x => ShortS x.1 ∧ (fun x => ShortS x.1 ∧ (fun x => (Within Anyv) x.1 ∧ Anyv x.2) x.2) x.2) x.2) x.2)) := Opens.slice opens48 Go.Proofs.Tryz.underlying40 (by kernel_rfl) (of_decide_eq_true (by kernel_rfl)) (by decide)

def pinCells : DataW Unit → Array Value
  | .agg l => (l.map fun | .lit (.int k n) => Value.int k n | _ => .bool false).toArray
  | _ => #[]
noncomputable def pin (k : Nat) (cs : Array Value) (w : World) : World :=
  { w with heap := w.heap.modify k fun
      | .cells _ t frozen => .cells cs t frozen
      | o => o }
/-- a world in which the listed variables are laid -/
noncomputable def laidWorld (os : Os) : World := pin 0 (pinCells ((Rows.diskTellsRow.laid.lookup "unicode/utf8.first").getD .nil)) (World.doorLaid Go.Proofs.Tryz.prog 4000 os)
theorem met (os : Os) (args : Array Value) : laidMetH Go.Proofs.Tryz.prog Rows.diskTellsRow.laid ((laidWorld os).forCall (fun _ _ => 0) ⟨#[], args, []⟩).memory :=
  laidMetH_of_parts3 (fuel := 8) (laidMet_of_run' 8 (by kernel_rfl) (by kernel_rfl)) (by kernel_rfl) (by kernel_rfl)

theorem lifted (os : Os) (started : os.Started) (H : Type) (enc : TypeId × Value → H) :
    ReturnsInHanded {} Go.Proofs.Tryz.checked os 4 .any (fun w args => (Rows.diskTellsSpec.pre enc Go.Proofs.Tryz.prog Go.Proofs.Tryz.f4 [] false w args ∧ laidMetH Go.Proofs.Tryz.prog Rows.diskTellsRow.laid w) ∧ sizedMet enc Go.Proofs.Tryz.prog Go.Proofs.Tryz.f4 (OpenSpec.ofChange Rows.diskTellsSpec) false w args)
      (Rows.diskTellsSpec.post enc Go.Proofs.Tryz.prog Go.Proofs.Tryz.f4 false true false false) := by
  refine returnsInHanded_of_change_and (C := Go.Proofs.Tryz.checked) (X := fun w _ => laidMetH Go.Proofs.Tryz.prog Rows.diskTellsRow.laid w) (fun _ _ _ hh h => h.of_heap hh) own started (by kernel_rfl) Go.Proofs.Tryz.func4
    (ChangeSpec.witness_shaped (enc := enc) (C := Go.Proofs.Tryz.checked) (os := os) (X := fun w _ => laidMetH Go.Proofs.Tryz.prog Rows.diskTellsRow.laid w) false (laidWorld os) #[.int .i64 0, .slice none 0 0] 8 rfl (World.shaped_of_RefB (by kernel_rfl) (by kernel_rfl)) (by kernel_rfl) (by kernel_rfl) (by kernel_rfl) (met os _)) ?_
  intro W base args ds gs before hval0 hW hcnd hreach hL _
  have hval : ∀ (j : Nat) t v, Go.Proofs.Tryz.f4.params[j]? = some t → args[j]? = some v → Value.okWide Go.Proofs.Tryz.prog W .any base t v := hval0
  have hW' := hW
  obtain ⟨p, q, hA0, hV, rfl, hfz, hnd⟩ := hW
  have hA : DataW.TrodAll enc Go.Proofs.Tryz.prog W 0 (fun _ => true) true Go.Proofs.Tryz.f4.params.toList args.toList ds p := hA0
  rw [Go.Proofs.Tryz.params4] at hA hval hreach
  obtain ⟨v0, vs0, d0, ds0, p0, q0, hargs, rfl, rfl, r0, t0⟩ := trodAll_cons hA
  obtain ⟨v1, vs1, d1, ds1, p1, q1, rfl, rfl, rfl, r1, t1⟩ := trodAll_cons t0
  obtain ⟨rfl, rfl, rfl⟩ := trodAll_nil t1
  obtain rfl : args = #[v0, v1] := by cases args; simp_all
  obtain ⟨rfl, rfl⟩ := trodVars_none hV
  have hre : ∀ n ∈ DataW.weightsEach _ _ _, n ≤ reachBytes := fun n hn => by simpa using List.all_eq_true.mp hreach n hn
  obtain ⟨x0, rfl, rfl, rfl, w0⟩ := open_int Go.Proofs.Tryz.underlying3 (hval 0 3 v0 rfl rfl) r0
  have q0 : InI64 x0 := by unfold InI64; simpa [Lit.wf, IntKind.min, IntKind.max, IntKind.wrap, IntKind.bits, IntKind.signed] using w0
  obtain ⟨s1, m1, c1, rfl⟩ := okWide_slice Go.Proofs.Tryz.underlying40 (hval 1 40 v1 rfl rfl)
  have k1 := r1
  have lt1 : ∀ x ∈ p1, x.block < W.heap.size := by obtain ⟨m, hm⟩ := k1; exact DataW.trod_lt m _ _ _ hm
  obtain ⟨x1, h1, q1⟩ : ∃ xs, Arr (Rp.prod Rp.i64 (Rp.prod Rp.i64 (Rp.prod Rp.str (Rp.prod Rp.str (Rp.prod (Rp.slice Rp.u8) Rp.unit))))) W.fr (.slice s1 m1 c1) xs ∧ (Within (fun x => InI64 x.1 ∧ (fun x => InI64 x.1 ∧ (fun x => ShortS x.1 ∧ (fun x => ShortS x.1 ∧ (fun x => (Within Anyv) x.1 ∧ Anyv x.2) x.2) x.2) x.2) x.2)) xs := by
    obtain ⟨fuel, hf⟩ := r1
    exact Opens.arr opens40 hf (light_each hre 1 (by simp) (by simp))
  refine ((diskTells_c h1 (fun x hx => ⟨Nat.le_trans (q1.2 x hx).2.2.1 (by decide), Nat.le_trans (q1.2 x hx).2.2.2.1 (by decide)⟩)) W.gr (Fr.sub_refl _) W (Holds.of_world W)).mono fun e W' ⟨η', h, hw⟩ => ?_
  cases e with
  | returned v =>
    obtain ⟨rfl, rfl⟩ := h
    have bel := hw.below
    exact ⟨_, rfl, _, _, _, [], _, [], hW', trodAll_mk1 (shut_bool Go.Proofs.Tryz.underlying4 _), (trodAll_cons_mk (shut_int Go.Proofs.Tryz.underlying3 w0) (trodAll_cons_mk (Below.trod laidOut (by kernel_rfl) (of_decide_eq_true (by kernel_rfl)) k1 bel lt1) trodAll_mk0)), rfl, bel.frame _, fun h => by cases h⟩
  | panicked _ => exact h.elim
  | outgrown => exact h.elim

theorem over : Rows.diskTellsRow.holds Tryz.pinned (OpenSpec.ofChange Rows.diskTellsSpec) :=
  OpenClaim.holds_of_wide 4 Go.Proofs.Tryz.f4 rfl rfl rfl rfl rfl rfl rfl ⟨rfl, rfl, rfl, rfl, rfl⟩ rfl rfl rfl rfl rfl (by kernel_rfl) Go.Proofs.Tryz.func4 (by kernel_rfl)
    (of_decide_eq_true (by kernel_rfl)) (by unfold Func.isWrapper; first | (rw [if_pos (by decide +kernel)]; kernel_rfl) | (rw [if_neg (by decide +kernel)]; exact ⟨rfl, rfl⟩))
    (fun os started H enc _ => lifted os started H enc)


/-- ████ THE STATEMENT: the tied card ████ -/
theorem proved : Rows.DiskTellsCardSaid :=
  Claim7.holds_tied_plain_at .later [] [.data, .pinned] true (true, "35e6f25914e457625761e4916fe44550f24d1f414caba9d6c24a12f47f2d6d47") true
    over (fun _ h => by cases h) (by kernel_rfl) (fun _ h => by cases h) diskTells_row_tie rfl ⟨rfl, rfl⟩ (by kernel_rfl) rfl
    (fun f fn hf hfn => by
      obtain rfl : f = 4 := Option.some.inj ((show Go.Proofs.Tryz.prog.funcNamed "buttress/buttresslaw18.DiskTells" = some 4 by kernel_rfl).symm.trans hf) |>.symm
      obtain rfl : fn = Go.Proofs.Tryz.f4 := (Option.some.inj (Go.Proofs.Tryz.func4.symm.trans hfn)).symm
      exact ⟨by kernel_rfl, fun j t ht => by
        rw [Go.Proofs.Tryz.params4] at ht
        have hm : t ∈ [3, 40] := by simpa using Array.mem_of_getElem? ht
        have hall : ([3, 40].all fun u => !Go.Proofs.Tryz.prog.wantsStandIn u) = true := by kernel_rfl
        exact (show Go.Proofs.Tryz.prog.wantsStandIn t = false by simpa using List.all_eq_true.1 hall t hm)⟩)
    (by kernel_rfl)
#print axioms proved
end Go.Proofs.YtkkcpckgnfcncaaGreatDoor.diskTells
