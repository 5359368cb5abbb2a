/- Proved: whatever its input, DiskApart of buttresslaw18 returns true, and its input reads as it did; no condition beside the given row's own. (The frame is the kit's shell's.) -/
import Derived.Test.YtkkcpckgnfcncaaDoorRows
import Derived.WalkKit
import Derived.ProofKit
import Derived.OpenShut
import Derived.ShutString
import Derived.ChangeOld
import Derived.Below
import Derived.SizedLaws
import Derived.Carry
import Derived.Test.YtkkcpckgnfcncaaDoorSpOpen
import Derived.Test.YtkkcpckgnfcncaaDoorCards
import Derived.Test.YtkkcpckgnfcncaaDoorTie
import Derived.LaidMore
import Derived.LaidLaws
import Derived.LaidHandle
import Derived.Stop.Joined
import Derived.SevenTiedAt
import GoSem.PinnedTables
import Derived.Test.YtkkcpckgnfcncaaDoorDapart
namespace Go.Proofs.YtkkcpckgnfcncaaDoor.diskApart
open Go.ChangeShapes Go.WideShapes Go.ChangeAt Go.RowKit Go.Sp
open Go.ChangeMaps (open_string shut_string)
set_option linter.unusedVariables false
set_option maxRecDepth 100000

theorem own : ownKnob Go.Proofs.Tryd.prog.godebug = none := by kernel_rfl
theorem laidOut : laidOutB Go.Proofs.Tryd.prog = true := by kernel_rfl
theorem opens5 : Opens Go.Proofs.Tryd.prog 5 Rp.u8 Anyv := Opens.u8 Go.Proofs.Tryd.underlying5
theorem opens31 : Opens Go.Proofs.Tryd.prog 31 (Rp.slice Rp.u8) (Within Anyv) := Opens.slice opens5 Go.Proofs.Tryd.underlying31 (by kernel_rfl) (of_decide_eq_true (by kernel_rfl)) (by decide)
def ShortS (s : List UInt8) : Prop := s.length ≤ 140737488351232
theorem opens9 : Opens Go.Proofs.Tryd.prog 9 Rp.str ShortS := Opens.str Go.Proofs.Tryd.underlying9
theorem opens3 : Opens Go.Proofs.Tryd.prog 3 Rp.i64 InI64 := Opens.i64 Go.Proofs.Tryd.underlying3
theorem opens33 : Opens Go.Proofs.Tryd.prog 33 (Rp.prod Rp.i64 (Rp.prod Rp.i64 (Rp.prod Rp.str (Rp.prod Rp.str (Rp.prod (Rp.slice Rp.u8) Rp.unit))))) (fun x => InI64 x.1 ∧ (fun x => InI64 x.1 ∧ (fun x => ShortS x.1 ∧ (fun x => ShortS x.1 ∧ (fun x => (Within Anyv) x.1 ∧ Anyv x.2) x.2) x.2) x.2) x.2) := by refine Opens.struct (T := (Rp.prod Rp.i64 (Rp.prod Rp.i64 (Rp.prod Rp.str (Rp.prod Rp.str (Rp.prod (Rp.slice Rp.u8) Rp.unit)))))) (Q := (fun x => InI64 x.1 ∧ (fun x => InI64 x.1 ∧ (fun x => ShortS x.1 ∧ (fun x => ShortS x.1 ∧ (fun x => (Within Anyv) x.1 ∧ Anyv x.2) x.2) x.2) x.2) x.2)) ?_ Go.Proofs.Tryd.underlying33 (by kernel_rfl); exact (OpensF.cons rfl (by kernel_rfl) opens3 (OpensF.cons rfl (by kernel_rfl) opens3 (OpensF.cons rfl (by kernel_rfl) opens9 (OpensF.cons rfl (by kernel_rfl) opens9 (OpensF.cons rfl (by kernel_rfl) opens31 OpensF.nil)))))
theorem opens22 : Opens Go.Proofs.Tryd.prog 22 (Rp.slice (Rp.prod Rp.i64 (Rp.prod Rp.i64 (Rp.prod Rp.str (Rp.prod Rp.str (Rp.prod (Rp.slice Rp.u8) Rp.unit)))))) (Within (fun x => InI64 x.1 ∧ (fun x => InI64 x.1 ∧ (fun x => ShortS x.1 ∧ (fun x => ShortS x.1 ∧ (fun x => (Within Anyv) x.1 ∧ Anyv x.2) x.2) x.2) x.2) x.2)) := Opens.slice opens33 Go.Proofs.Tryd.underlying22 (by kernel_rfl) (of_decide_eq_true (by kernel_rfl)) (by decide)

def pinCells : DataW Unit → Array Value
  | .agg l => (l.map fun | .lit (.int k n) => Value.int k n | _ => .bool false).toArray
  | _ => #[]
noncomputable def pin (k : Nat) (cs : Array Value) (w : World) : World :=
  { w with heap := w.heap.modify k fun
      | .cells _ t frozen => .cells cs t frozen
      | o => o }
/-- a world in which the listed variables are laid -/
noncomputable def laidWorld (os : Os) : World := pin 0 (pinCells ((Rows.diskApartRow.laid.lookup "unicode/utf8.first").getD .nil)) (World.doorLaid Go.Proofs.Tryd.prog 4000 os)
theorem met (os : Os) (args : Array Value) : laidMetH Go.Proofs.Tryd.prog Rows.diskApartRow.laid ((laidWorld os).forCall (fun _ _ => 0) ⟨#[], args, []⟩).memory :=
  laidMetH_of_parts3 (fuel := 8) (laidMet_of_run' 8 (by kernel_rfl) (by kernel_rfl)) (by kernel_rfl) (by kernel_rfl)

theorem lifted (os : Os) (started : os.Started) (H : Type) (enc : TypeId × Value → H) :
    ReturnsInHanded {} Go.Proofs.Tryd.checked os 5 .any (fun w args => (Rows.diskApartSpec.pre enc Go.Proofs.Tryd.prog Go.Proofs.Tryd.f5 [] false w args ∧ laidMetH Go.Proofs.Tryd.prog Rows.diskApartRow.laid w) ∧ sizedMet enc Go.Proofs.Tryd.prog Go.Proofs.Tryd.f5 (OpenSpec.ofChange Rows.diskApartSpec) false w args)
      (Rows.diskApartSpec.post enc Go.Proofs.Tryd.prog Go.Proofs.Tryd.f5 false true false false) := by
  refine returnsInHanded_of_change_and (C := Go.Proofs.Tryd.checked) (X := fun w _ => laidMetH Go.Proofs.Tryd.prog Rows.diskApartRow.laid w) (fun _ _ _ hh h => h.of_heap hh) own started (by kernel_rfl) Go.Proofs.Tryd.func5
    (ChangeSpec.witness_shaped (enc := enc) (C := Go.Proofs.Tryd.checked) (os := os) (X := fun w _ => laidMetH Go.Proofs.Tryd.prog Rows.diskApartRow.laid w) false (laidWorld os) #[.slice none 0 0, .slice none 0 0] 8 rfl (World.shaped_of_RefB (by kernel_rfl) (by kernel_rfl)) (by kernel_rfl) (by kernel_rfl) (by kernel_rfl) (met os _)) ?_
  intro W base args ds gs before hval0 hW hcnd hreach hL _
  have hval : ∀ (j : Nat) t v, Go.Proofs.Tryd.f5.params[j]? = some t → args[j]? = some v → Value.okWide Go.Proofs.Tryd.prog W .any base t v := hval0
  have hW' := hW
  obtain ⟨p, q, hA0, hV, rfl, hfz, hnd⟩ := hW
  have hA : DataW.TrodAll enc Go.Proofs.Tryd.prog W 0 (fun _ => true) true Go.Proofs.Tryd.f5.params.toList args.toList ds p := hA0
  rw [Go.Proofs.Tryd.params5] at hA hval hreach
  obtain ⟨v0, vs0, d0, ds0, p0, q0, hargs, rfl, rfl, r0, t0⟩ := trodAll_cons hA
  obtain ⟨v1, vs1, d1, ds1, p1, q1, rfl, rfl, rfl, r1, t1⟩ := trodAll_cons t0
  obtain ⟨rfl, rfl, rfl⟩ := trodAll_nil t1
  obtain rfl : args = #[v0, v1] := by cases args; simp_all
  obtain ⟨rfl, rfl⟩ := trodVars_none hV
  have hre : ∀ n ∈ DataW.weightsEach _ _ _, n ≤ reachBytes := fun n hn => by simpa using List.all_eq_true.mp hreach n hn
  obtain ⟨s0, m0, c0, rfl⟩ := okWide_slice Go.Proofs.Tryd.underlying22 (hval 0 22 v0 rfl rfl)
  have k0 := r0
  have lt0 : ∀ x ∈ p0, x.block < W.heap.size := by obtain ⟨m, hm⟩ := k0; exact DataW.trod_lt m _ _ _ hm
  obtain ⟨x0, h0, q0⟩ : ∃ xs, Arr (Rp.prod Rp.i64 (Rp.prod Rp.i64 (Rp.prod Rp.str (Rp.prod Rp.str (Rp.prod (Rp.slice Rp.u8) Rp.unit))))) W.fr (.slice s0 m0 c0) xs ∧ (Within (fun x => InI64 x.1 ∧ (fun x => InI64 x.1 ∧ (fun x => ShortS x.1 ∧ (fun x => ShortS x.1 ∧ (fun x => (Within Anyv) x.1 ∧ Anyv x.2) x.2) x.2) x.2) x.2)) xs := by
    obtain ⟨fuel, hf⟩ := r0
    exact Opens.arr opens22 hf (light_each hre 0 (by simp) (by simp))
  obtain ⟨s1, m1, c1, rfl⟩ := okWide_slice Go.Proofs.Tryd.underlying22 (hval 1 22 v1 rfl rfl)
  have k1 := r1
  have lt1 : ∀ x ∈ p1, x.block < W.heap.size := by obtain ⟨m, hm⟩ := k1; exact DataW.trod_lt m _ _ _ hm
  obtain ⟨x1, h1, q1⟩ : ∃ xs, Arr (Rp.prod Rp.i64 (Rp.prod Rp.i64 (Rp.prod Rp.str (Rp.prod Rp.str (Rp.prod (Rp.slice Rp.u8) Rp.unit))))) W.fr (.slice s1 m1 c1) xs ∧ (Within (fun x => InI64 x.1 ∧ (fun x => InI64 x.1 ∧ (fun x => ShortS x.1 ∧ (fun x => ShortS x.1 ∧ (fun x => (Within Anyv) x.1 ∧ Anyv x.2) x.2) x.2) x.2) x.2)) xs := by
    obtain ⟨fuel, hf⟩ := r1
    exact Opens.arr opens22 hf (light_each hre 1 (by simp) (by simp))
  refine ((diskApart_c h0 h1 (fun x hx => ⟨Nat.le_trans (q0.2 x hx).2.2.1 (by decide), Nat.le_trans (q0.2 x hx).2.2.2.1 (by decide)⟩) (fun x hx => ⟨Nat.le_trans (q1.2 x hx).2.2.1 (by decide), Nat.le_trans (q1.2 x hx).2.2.2.1 (by decide)⟩)) W.gr (Fr.sub_refl _) W (Holds.of_world W)).mono fun e W' ⟨η', h, hw⟩ => ?_
  cases e with
  | returned v =>
    obtain ⟨rfl, rfl⟩ := h
    have bel := hw.below
    exact ⟨_, rfl, _, _, _, [], _, [], hW', trodAll_mk1 (shut_bool Go.Proofs.Tryd.underlying4 _), (trodAll_cons_mk (Below.trod laidOut (by kernel_rfl) (of_decide_eq_true (by kernel_rfl)) k0 bel lt0) (trodAll_cons_mk (Below.trod laidOut (by kernel_rfl) (of_decide_eq_true (by kernel_rfl)) k1 bel lt1) trodAll_mk0)), rfl, bel.frame _, fun h => by cases h⟩
  | panicked _ => exact h.elim
  | outgrown => exact h.elim

theorem over : Rows.diskApartRow.holds Tryd.pinned (OpenSpec.ofChange Rows.diskApartSpec) :=
  OpenClaim.holds_of_wide 5 Go.Proofs.Tryd.f5 rfl rfl rfl rfl rfl rfl rfl ⟨rfl, rfl, rfl, rfl, rfl⟩ rfl rfl rfl rfl rfl (by kernel_rfl) Go.Proofs.Tryd.func5 (by kernel_rfl)
    (of_decide_eq_true (by kernel_rfl)) (by unfold Func.isWrapper; first | (rw [if_pos (by decide +kernel)]; kernel_rfl) | (rw [if_neg (by decide +kernel)]; exact ⟨rfl, rfl⟩))
    (fun os started H enc _ => lifted os started H enc)


/-- ████ THE STATEMENT: the tied card ████ -/
theorem proved : Rows.DiskApartCardSaid :=
  Claim7.holds_tied_plain_at .later [] [.data, .pinned] true (true, "0d61c99893691ef36923acf6822946abfdb1b030d980c2d5b8178fb61b9429ec") true
    over (fun _ h => by cases h) (by kernel_rfl) (fun _ h => by cases h) diskApart_row_tie rfl ⟨rfl, rfl⟩ (by kernel_rfl) rfl
    (fun f fn hf hfn => by
      obtain rfl : f = 5 := Option.some.inj ((show Go.Proofs.Tryd.prog.funcNamed "buttress/buttresslaw18.DiskApart" = some 5 by kernel_rfl).symm.trans hf) |>.symm
      obtain rfl : fn = Go.Proofs.Tryd.f5 := (Option.some.inj (Go.Proofs.Tryd.func5.symm.trans hfn)).symm
      exact ⟨by kernel_rfl, fun j t ht => by
        rw [Go.Proofs.Tryd.params5] at ht
        have hm : t ∈ [22, 22] := by simpa using Array.mem_of_getElem? ht
        have hall : ([22, 22].all fun u => !Go.Proofs.Tryd.prog.wantsStandIn u) = true := by kernel_rfl
        exact (show Go.Proofs.Tryd.prog.wantsStandIn t = false by simpa using List.all_eq_true.1 hall t hm)⟩)
    (by kernel_rfl)
#print axioms proved
end Go.Proofs.YtkkcpckgnfcncaaDoor.diskApart
