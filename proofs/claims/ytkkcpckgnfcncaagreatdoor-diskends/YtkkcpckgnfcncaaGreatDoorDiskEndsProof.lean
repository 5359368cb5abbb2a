/- Proved: whatever its input, DiskEnds of buttresslaw18 returns true, and its input reads as it did; no condition beside the given row's own. (The frame is the kit's shell's.) -/
import Derived.Test.YtkkcpckgnfcncaaGreatDoorRows
import Derived.WalkKit
import Derived.ProofKit
import Derived.OpenShut
import Derived.ShutString
import Derived.ChangeOld
import Derived.Below
import Derived.SizedLaws
import Derived.Carry
import Derived.Test.YtkkcpckgnfcncaaGreatDoorSpOpen
import Derived.Test.YtkkcpckgnfcncaaGreatDoorCards
import Derived.Test.YtkkcpckgnfcncaaGreatDoorTie
import Derived.LaidMore
import Derived.LaidLaws
import Derived.LaidHandle
import Derived.Stop.Joined
import Derived.SevenTiedAt
import GoSem.PinnedTables
import Derived.Test.YtkkcpckgnfcncaaGreatDoorDends
namespace Go.Proofs.YtkkcpckgnfcncaaGreatDoor.diskEnds
open Go.ChangeShapes Go.WideShapes Go.ChangeAt Go.RowKit Go.Sp
open Go.ChangeMaps (open_string shut_string)
set_option linter.unusedVariables false
set_option maxRecDepth 100000

theorem own : ownKnob Go.Proofs.Tryz.prog.godebug = none := by kernel_rfl
theorem laidOut : laidOutB Go.Proofs.Tryz.prog = true := by kernel_rfl

def pinCells : DataW Unit → Array Value
  | .agg l => (l.map fun | .lit (.int k n) => Value.int k n | _ => .bool false).toArray
  | _ => #[]
noncomputable def pin (k : Nat) (cs : Array Value) (w : World) : World :=
  { w with heap := w.heap.modify k fun
      | .cells _ t frozen => .cells cs t frozen
      | o => o }
/-- a world in which the listed variables are laid -/
noncomputable def laidWorld (os : Os) : World := pin 0 (pinCells ((Rows.diskEndsRow.laid.lookup "unicode/utf8.first").getD .nil)) (World.doorLaid Go.Proofs.Tryz.prog 4000 os)
theorem met (os : Os) (args : Array Value) : laidMetH Go.Proofs.Tryz.prog Rows.diskEndsRow.laid ((laidWorld os).forCall (fun _ _ => 0) ⟨#[], args, []⟩).memory :=
  laidMetH_of_parts3 (fuel := 8) (laidMet_of_run' 8 (by kernel_rfl) (by kernel_rfl)) (by kernel_rfl) (by kernel_rfl)

theorem lifted (os : Os) (started : os.Started) (H : Type) (enc : TypeId × Value → H) :
    ReturnsInHanded {} Go.Proofs.Tryz.checked os 5 .any (fun w args => (Rows.diskEndsSpec.pre enc Go.Proofs.Tryz.prog Go.Proofs.Tryz.f5 [] false w args ∧ laidMetH Go.Proofs.Tryz.prog Rows.diskEndsRow.laid w) ∧ sizedMet enc Go.Proofs.Tryz.prog Go.Proofs.Tryz.f5 (OpenSpec.ofChange Rows.diskEndsSpec) false w args)
      (Rows.diskEndsSpec.post enc Go.Proofs.Tryz.prog Go.Proofs.Tryz.f5 false true false false) := by
  refine returnsInHanded_of_change_and (C := Go.Proofs.Tryz.checked) (X := fun w _ => laidMetH Go.Proofs.Tryz.prog Rows.diskEndsRow.laid w) (fun _ _ _ hh h => h.of_heap hh) own started (by kernel_rfl) Go.Proofs.Tryz.func5
    (ChangeSpec.witness_shaped (enc := enc) (C := Go.Proofs.Tryz.checked) (os := os) (X := fun w _ => laidMetH Go.Proofs.Tryz.prog Rows.diskEndsRow.laid w) false (laidWorld os) #[] 8 rfl (World.shaped_of_RefB (by kernel_rfl) (by kernel_rfl)) (by kernel_rfl) (by kernel_rfl) (by kernel_rfl) (met os _)) ?_
  intro W base args ds gs before hval0 hW hcnd hreach hL _
  have hval : ∀ (j : Nat) t v, Go.Proofs.Tryz.f5.params[j]? = some t → args[j]? = some v → Value.okWide Go.Proofs.Tryz.prog W .any base t v := hval0
  have hW' := hW
  obtain ⟨p, q, hA0, hV, rfl, hfz, hnd⟩ := hW
  have hA : DataW.TrodAll enc Go.Proofs.Tryz.prog W 0 (fun _ => true) true Go.Proofs.Tryz.f5.params.toList args.toList ds p := hA0
  rw [Go.Proofs.Tryz.params5] at hA hval hreach
  obtain ⟨rfl, rfl, rfl⟩ := trodAll_none hA
  obtain ⟨rfl, rfl⟩ := trodVars_none hV
  refine ((diskEnds_c) W.gr (Fr.sub_refl _) W (Holds.of_world W)).mono fun e W' ⟨η', h, hw⟩ => ?_
  cases e with
  | returned v =>
    obtain ⟨rfl, rfl⟩ := h
    have bel := hw.below
    exact ⟨_, rfl, _, _, _, [], _, [], hW', trodAll_mk1 (shut_bool Go.Proofs.Tryz.underlying4 _), trodAll_mk0, rfl, bel.frame _, fun h => by cases h⟩
  | panicked _ => exact h.elim
  | outgrown => exact h.elim

theorem over : Rows.diskEndsRow.holds Tryz.pinned (OpenSpec.ofChange Rows.diskEndsSpec) :=
  OpenClaim.holds_of_wide 5 Go.Proofs.Tryz.f5 rfl rfl rfl rfl rfl rfl rfl ⟨rfl, rfl, rfl, rfl, rfl⟩ rfl rfl rfl rfl rfl (by kernel_rfl) Go.Proofs.Tryz.func5 (by kernel_rfl)
    (of_decide_eq_true (by kernel_rfl)) (by unfold Func.isWrapper; first | (rw [if_pos (by decide +kernel)]; kernel_rfl) | (rw [if_neg (by decide +kernel)]; exact ⟨rfl, rfl⟩))
    (fun os started H enc _ => lifted os started H enc)


/-- ████ THE STATEMENT: the tied card ████ -/
theorem proved : Rows.DiskEndsCardSaid :=
  Claim7.holds_tied_plain_at .later [] [.data, .pinned] true (true, "35e6f25914e457625761e4916fe44550f24d1f414caba9d6c24a12f47f2d6d47") true
    over (fun _ h => by cases h) (by kernel_rfl) (fun _ h => by cases h) diskEnds_row_tie rfl ⟨rfl, rfl⟩ (by kernel_rfl) rfl
    (fun f fn hf hfn => by
      obtain rfl : f = 5 := Option.some.inj ((show Go.Proofs.Tryz.prog.funcNamed "buttress/buttresslaw18.DiskEnds" = some 5 by kernel_rfl).symm.trans hf) |>.symm
      obtain rfl : fn = Go.Proofs.Tryz.f5 := (Option.some.inj (Go.Proofs.Tryz.func5.symm.trans hfn)).symm
      exact ⟨by kernel_rfl, fun j t ht => by
        rw [Go.Proofs.Tryz.params5] at ht
        have hm : t ∈ [] := by simpa using Array.mem_of_getElem? ht
        have hall : ([].all fun u => !Go.Proofs.Tryz.prog.wantsStandIn u) = true := by kernel_rfl
        exact (show Go.Proofs.Tryz.prog.wantsStandIn t = false by simpa using List.all_eq_true.1 hall t hm)⟩)
    (by kernel_rfl)
#print axioms proved
end Go.Proofs.YtkkcpckgnfcncaaGreatDoor.diskEnds
