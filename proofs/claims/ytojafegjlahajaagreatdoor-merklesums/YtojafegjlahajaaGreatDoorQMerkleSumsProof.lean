/- Proved: whatever its input, MerkleSums of buttresslaw12 returns true, and its input reads as it did; no condition beside the given row's own. (The frame is the kit's shell's.) -/
import Derived.WalkKit
import Derived.ProofKit
import Derived.OpenShut
import Derived.ShutString
import Derived.ChangeOld
import Derived.Below
import Derived.SizedLaws
import Derived.Carry
import Derived.Test.YtojafegjlahajaaGreatDoorQMerkleSumsFacts3
import Derived.Test.YtojafegjlahajaaGreatDoorQMerkleSumsFacts2
import Derived.Test.YtojafegjlahajaaGreatDoorQMerkleSumsFacts1
import Derived.Test.YtojafegjlahajaaGreatDoorQMerkleSumsFacts0
import Derived.Test.YtojafegjlahajaaGreatDoorTie
import Derived.LaidMore
import Derived.LaidLaws
import Derived.LaidHandle
import Derived.Stop.Joined
import Derived.SevenTiedAt
import GoSem.PinnedTables
import Derived.Test.YtojafegjlahajaaGreatDoorQLaw12s
namespace Go.Proofs.YtojafegjlahajaaGreatDoor.merkleSums
open Go.ChangeShapes Go.WideShapes Go.ChangeAt Go.RowKit Go.Sp
open Go.ChangeMaps (open_string shut_string)
set_option linter.unusedVariables false
set_option maxRecDepth 100000
theorem own : ownKnob Tryz.prog.godebug = none := by kernel_rfl
theorem laidOut : laidOutB Tryz.prog = true := by kernel_rfl
theorem opens5 : Opens Tryz.prog 5 Rp.u8 Anyv := Opens.u8 Tryz.underlying5
abbrev A24 : Type := List UInt8
abbrev R24 : Rp A24 := (Rp.slice Rp.u8)
abbrev Q24 : A24 → Prop := (Within Anyv)
theorem opens24 : Opens Tryz.prog 24 R24 Q24 := Opens.slice opens5 Tryz.underlying24 (by kernel_rfl) (of_decide_eq_true (by kernel_rfl)) (by decide)
theorem opens4 : Opens Tryz.prog 4 Rp.bool Anyv := Opens.bool Tryz.underlying4
theorem opens3 : Opens Tryz.prog 3 Rp.i64 InI64 := Opens.i64 Tryz.underlying3
def Both {α β : Type} (Q : α → Prop) (R : β → Prop) (x : α × β) : Prop := Q x.1 ∧ R x.2
theorem OpensF.cons2 {P : Program} {f : Field} {fs : List Field} {off : Nat} {α β : Type} {T : Rp α} {U : Rp β} {Q : α → Prop} {R : β → Prop} (ho : f.offset = off) (hc : P.cellsOf f.type = T.k) (h1 : Opens P f.type T Q) (h2 : OpensF P fs (off + T.k) U R) : OpensF P (f :: fs) off (Rp.prod T U) (Both Q R) := OpensF.cons ho hc h1 h2
abbrev A191 : Type := Int × Int × Unit
abbrev R191 : Rp A191 := (Rp.prod Rp.i64 (Rp.prod Rp.i64 Rp.unit))
abbrev Q191 : A191 → Prop := (Both InI64 (Both InI64 Anyv))
theorem opens191 : Opens Tryz.prog 191 R191 Q191 := by refine Opens.struct (T := R191) (Q := Q191) ?_ Tryz.underlying191 (by kernel_rfl); exact (OpensF.cons2 rfl (by kernel_rfl) opens3 (OpensF.cons2 rfl (by kernel_rfl) opens3 OpensF.nil))
abbrev A100 : Type := List A191
abbrev R100 : Rp A100 := (Rp.slice R191)
abbrev Q100 : A100 → Prop := (Within Q191)
theorem opens100 : Opens Tryz.prog 100 R100 Q100 := Opens.slice opens191 Tryz.underlying100 (by kernel_rfl) (of_decide_eq_true (by kernel_rfl)) (by decide)
def ShortS (s : List UInt8) : Prop := s.length ≤ 140737488351232
theorem opens9 : Opens Tryz.prog 9 Rp.str ShortS := Opens.str Tryz.underlying9
abbrev A102 : Type := List UInt8 × Int × Int × A100 × Bool × A24 × A24 × Unit
abbrev R102 : Rp A102 := (Rp.prod Rp.str (Rp.prod Rp.i64 (Rp.prod Rp.i64 (Rp.prod R100 (Rp.prod Rp.bool (Rp.prod R24 (Rp.prod R24 Rp.unit)))))))
abbrev Q102 : A102 → Prop := (Both ShortS (Both InI64 (Both InI64 (Both Q100 (Both Anyv (Both Q24 (Both Q24 Anyv)))))))
theorem opens102 : Opens Tryz.prog 102 R102 Q102 := by refine Opens.struct (T := R102) (Q := Q102) ?_ Tryz.underlying102 (by kernel_rfl); exact (OpensF.cons2 rfl (by kernel_rfl) opens9 (OpensF.cons2 rfl (by kernel_rfl) opens3 (OpensF.cons2 rfl (by kernel_rfl) opens3 (OpensF.cons2 rfl (by kernel_rfl) opens100 (OpensF.cons2 rfl (by kernel_rfl) opens4 (OpensF.cons2 rfl (by kernel_rfl) opens24 (OpensF.cons2 rfl (by kernel_rfl) opens24 OpensF.nil)))))))
abbrev A22 : Type := List A102
abbrev R22 : Rp A22 := (Rp.slice R102)
abbrev Q22 : A22 → Prop := (Within Q102)
theorem opens22 : Opens Tryz.prog 22 R22 Q22 := Opens.slice opens102 Tryz.underlying22 (by kernel_rfl) (of_decide_eq_true (by kernel_rfl)) (by decide)
abbrev A31 : Type := List UInt8 × A22 × Unit
abbrev R31 : Rp A31 := (Rp.prod Rp.str (Rp.prod R22 Rp.unit))
abbrev Q31 : A31 → Prop := (Both ShortS (Both Q22 Anyv))
theorem opens31 : Opens Tryz.prog 31 R31 Q31 := by refine Opens.struct (T := R31) (Q := Q31) ?_ Tryz.underlying31 (by kernel_rfl); exact (OpensF.cons2 rfl (by kernel_rfl) opens9 (OpensF.cons2 rfl (by kernel_rfl) opens22 OpensF.nil))
abbrev A25 : Type := List A31
abbrev R25 : Rp A25 := (Rp.slice R31)
abbrev Q25 : A25 → Prop := (Within Q31)
theorem opens25 : Opens Tryz.prog 25 R25 Q25 := Opens.slice opens31 Tryz.underlying25 (by kernel_rfl) (of_decide_eq_true (by kernel_rfl)) (by decide)
theorem opens23 : Opens Tryz.prog 23 Rp.u8 Anyv := Opens.u8 Tryz.underlying23
abbrev A27 : Type := UInt8 × A24 × A24 × A25 × Unit
abbrev R27 : Rp A27 := (Rp.prod Rp.u8 (Rp.prod R24 (Rp.prod R24 (Rp.prod R25 Rp.unit))))
abbrev Q27 : A27 → Prop := (Both Anyv (Both Q24 (Both Q24 (Both Q25 Anyv))))
theorem opens27 : Opens Tryz.prog 27 R27 Q27 := by refine Opens.struct (T := R27) (Q := Q27) ?_ Tryz.underlying27 (by kernel_rfl); exact (OpensF.cons2 rfl (by kernel_rfl) opens23 (OpensF.cons2 rfl (by kernel_rfl) opens24 (OpensF.cons2 rfl (by kernel_rfl) opens24 (OpensF.cons2 rfl (by kernel_rfl) opens25 OpensF.nil))))
def pinCells : DataW Unit → Array Value
 | .agg l => (l.map fun | .lit (.int k n) => Value.int k n | _ => .bool false).toArray
 | _ => #[]
noncomputable def pin (k : Nat) (cs : Array Value) (w : World) : World :=
 {w with heap := w.heap.modify k fun
   | .cells _ t frozen => .cells cs t frozen
   | o => o }
noncomputable def laidWorld (os : Os) : World := pin 3 (pinCells ((Rows.merkleSumsRow.laid.lookup "unicode/utf8.first").getD .nil)) (World.doorLaid Tryz.prog 4000 os)
theorem met (os : Os) (args : Array Value) : laidMetH Tryz.prog Rows.merkleSumsRow.laid ((laidWorld os).forCall (fun _ _ => 0) ⟨#[], args, []⟩).memory :=
 laidMetH_of_parts3 (fuel := 8) (laidMet_of_run' 8 (by kernel_rfl) (by kernel_rfl)) (by kernel_rfl) (by kernel_rfl)
theorem lifted (os : Os) (started : os.Started) (H : Type) (enc : TypeId × Value → H) :
  ReturnsInHanded {} Tryz.checked os 3 .any (fun w args => (Rows.merkleSumsSpec.pre enc Tryz.prog Tryz.f3 [] false w args ∧ laidMetH Tryz.prog Rows.merkleSumsRow.laid w) ∧ sizedMet enc Tryz.prog Tryz.f3 (OpenSpec.ofChange Rows.merkleSumsSpec) false w args)
   (Rows.merkleSumsSpec.post enc Tryz.prog Tryz.f3 false true false false) := by
 refine returnsInHanded_of_change_and (C := Tryz.checked) (X := fun w _ => laidMetH Tryz.prog Rows.merkleSumsRow.laid w) (fun _ _ _ hh h => h.of_heap hh) own started (by kernel_rfl) Tryz.func3
  (ChangeSpec.witness_shaped (enc := enc) (C := Tryz.checked) (os := os) (X := fun w _ => laidMetH Tryz.prog Rows.merkleSumsRow.laid w) false (laidWorld os) #[.slice none 0 0, .agg #[.int .u8 0, .slice none 0 0, .slice none 0 0, .slice none 0 0], .int .i64 0, .slice none 0 0] 8 rfl (World.shaped_of_RefB (by kernel_rfl) (by kernel_rfl)) (by kernel_rfl) (by kernel_rfl) (by kernel_rfl) (met os _)) ?_
 intro W base args ds gs before hval0 hW hcnd hreach hL _
 have hH : At W.fr ⟨0, 0, none⟩ (w64s shaH) := laid_at (n := "buttress/sha.begin") (vs := shaH) (t := 276) (e := 274) hL (List.mem_of_getElem? (i := 1) (by kernel_rfl)) (by kernel_rfl) (by kernel_rfl) (by kernel_rfl) (by kernel_rfl) (by kernel_rfl) (by kernel_rfl)
 have hK : At W.fr ⟨1, 0, none⟩ (w64s shaK) := laid_at (n := "buttress/sha.rest") (vs := shaK) (t := 382) (e := 274) hL (List.mem_of_getElem? (i := 2) (by kernel_rfl)) (by kernel_rfl) (by kernel_rfl) (by kernel_rfl) (by kernel_rfl) (by kernel_rfl) (by kernel_rfl)
 have hval : ∀ (j : Nat) t v, Tryz.f3.params[j]? = some t → args[j]? = some v → Value.okWide Tryz.prog W .any base t v := hval0
 have hW' := hW
 obtain ⟨p, q, hA0, hV, rfl, hfz, hnd⟩ := hW
 have hA : DataW.TrodAll enc Tryz.prog W 0 (fun _ => true) true Tryz.f3.params.toList args.toList ds p := hA0
 rw [Tryz.params3] at hA hval hreach
 obtain ⟨v0, vs0, d0, ds0, p0, q0, hargs, rfl, rfl, r0, t0⟩ := trodAll_cons hA
 obtain ⟨v1, vs1, d1, ds1, p1, q1, rfl, rfl, rfl, r1, t1⟩ := trodAll_cons t0
 obtain ⟨v2, vs2, d2, ds2, p2, q2, rfl, rfl, rfl, r2, t2⟩ := trodAll_cons t1
 obtain ⟨v3, vs3, d3, ds3, p3, q3, rfl, rfl, rfl, r3, t3⟩ := trodAll_cons t2
 obtain ⟨rfl, rfl, rfl⟩ := trodAll_nil t3
 obtain rfl : args = #[v0, v1, v2, v3] := by cases args; simp_all
 obtain ⟨rfl, rfl⟩ := trodVars_none hV
 have hre : ∀ n ∈ DataW.weightsEach _ _ _, n ≤ reachBytes := fun n hn => by simpa using List.all_eq_true.mp hreach n hn
 obtain ⟨s0, m0, c0, rfl⟩ := okWide_slice Tryz.underlying22 (hval 0 22 v0 rfl rfl)
 have k0 := r0
 have lt0 : ∀ x ∈ p0, x.block < W.heap.size := by obtain ⟨m, hm⟩ := k0; exact DataW.trod_lt m _ _ _ hm
 obtain ⟨x0, h0, q0⟩ : ∃ xs, Arr R102 W.fr (.slice s0 m0 c0) xs ∧ Q22 xs := by
  obtain ⟨fuel, hf⟩ := r0
  exact Opens.arr opens22 hf (light_each hre 0 (by simp) (by simp))
 obtain ⟨s1, rfl, m1⟩ := okWide_struct Tryz.underlying27 (hval 1 27 v1 rfl rfl)
 have k1 := r1
 have lt1 : ∀ x ∈ p1, x.block < W.heap.size := by obtain ⟨m, hm⟩ := k1; exact DataW.trod_lt m _ _ _ hm
 obtain ⟨x1, h1, q1⟩ : ∃ x, (R27).rel W.fr s1.toList x ∧ Q27 x := by
  obtain ⟨fuel, hf⟩ := r1
  exact opens27 _ _ _ _ _ _ _ _ _ hf (light_each hre 1 (by simp) (by simp))
 obtain ⟨x2, rfl, rfl, rfl, w2⟩ := open_int Tryz.underlying3 (hval 2 3 v2 rfl rfl) r2
 have q2 : InI64 x2 := by unfold InI64; simpa [Lit.wf, IntKind.min, IntKind.max, IntKind.wrap, IntKind.bits, IntKind.signed] using w2
 obtain ⟨s3, m3, c3, rfl⟩ := okWide_slice Tryz.underlying24 (hval 3 24 v3 rfl rfl)
 have k3 := r3
 have lt3 : ∀ x ∈ p3, x.block < W.heap.size := by obtain ⟨m, hm⟩ := k3; exact DataW.trod_lt m _ _ _ hm
 obtain ⟨x3, h3, q3⟩ : ∃ xs, Arr Rp.u8 W.fr (.slice s3 m3 c3) xs ∧ Q24 xs := by
  obtain ⟨fuel, hf⟩ := r3
  exact Opens.arr opens24 hf (light_each hre 3 (by simp) (by simp))
 refine ((merkleSums_e h0 h1 q2 h3 hH hK) W.gr (Fr.sub_refl _) W (Holds.of_world W)).mono fun e W' ⟨η', h, hw⟩ => ?_
 cases e with
 | returned v =>
  obtain ⟨rfl, rfl⟩ := h
  have bel := hw.below
  exact ⟨_, rfl, _, _, _, [], _, [], hW', trodAll_mk1 (shut_bool Tryz.underlying4 _), (trodAll_cons_mk (Below.trod laidOut (by kernel_rfl) (of_decide_eq_true (by kernel_rfl)) k0 bel lt0) (trodAll_cons_mk (Below.trod laidOut (by kernel_rfl) (of_decide_eq_true (by kernel_rfl)) k1 bel lt1) (trodAll_cons_mk (shut_int Tryz.underlying3 w2) (trodAll_cons_mk (Below.trod laidOut (by kernel_rfl) (of_decide_eq_true (by kernel_rfl)) k3 bel lt3) trodAll_mk0)))), rfl, bel.frame _, fun h => by cases h⟩
 | panicked _ => exact h.elim
 | outgrown => exact h.elim
theorem and2 {a b : Bool} (ha : a = true) (hb : b = true) : (a && b) = true := by rw [ha, hb]; rfl
theorem closed : joinedFacts Tryz.pinned.checked.prog 3 Tryz.f3 Rows.merkleSumsSpec Rows.merkleSumsRow = true := and2 (and2 (and2 (and2 (and2 (and2 (and2 (and2 (and2 (and2 (and2 (and2 (and2 (and2 (and2 (and2 (and2 (and2 (and2 (and2 (and2 (and2 (and2 (and2 (and2 (and2 (and2 (and2 (and2 (and2 (and2 (jf0) jf1) jf2) jf3) jf4) jf5) jf6) jf7) jf8) jf9) jf10) jf11) jf12) jf13) jf14) jf15) jf16) jf17) jf18) jf19) jf20) jf21) jf22) jf23) jf24) jf25) jf26) jf27) jf28) jf29) jf30) jf31
theorem over : Rows.merkleSumsRow.holds Tryz.pinned (OpenSpec.ofChange Rows.merkleSumsSpec) :=
 OpenClaim.holds_of_wide 3 Tryz.f3 rfl rfl rfl rfl rfl rfl rfl ⟨rfl, rfl, rfl, rfl, rfl⟩ rfl rfl rfl rfl rfl (by kernel_rfl) Tryz.func3 closed
  (of_decide_eq_true (by kernel_rfl)) (by unfold Func.isWrapper; first | (rw [if_pos (by decide +kernel)]; kernel_rfl) | (rw [if_neg (by decide +kernel)]; exact ⟨rfl, rfl⟩))
  (fun os started H enc _ => lifted os started H enc)
theorem proved : Rows.MerkleSumsCardSaid :=
 Claim7.holds_tied_plain_at .later [] [.data, .data, .data, .pinned] true (true, "c6c8a51ec12fc40a09badfac04dc547d3b235d0aa19123fb9236b4b20d0729aa") true
  over (fun _ h => by cases h) cfW (fun _ h => by cases h) merkleSums_row_tie rfl ⟨rfl, rfl⟩ cfM rfl
  (fun f fn hf hfn => by
   obtain rfl : f = 3 := Option.some.inj (cfN.symm.trans hf) |>.symm
   obtain rfl : fn = Tryz.f3 := (Option.some.inj (Tryz.func3.symm.trans hfn)).symm
   exact ⟨cfL, fun j t ht => by
    rw [Tryz.params3] at ht
    have hm : t ∈ [22, 27, 3, 24] := by simpa using Array.mem_of_getElem? ht
    have hall : ([22, 27, 3, 24].all fun u => !Tryz.prog.wantsStandIn u) = true := cfS
    exact (show Tryz.prog.wantsStandIn t = false by simpa using List.all_eq_true.1 hall t hm)⟩)
  cfG
#print axioms proved
end Go.Proofs.YtojafegjlahajaaGreatDoor.merkleSums
