/- Proved: whatever its input, SessionOne of buttresslaw24 returns true, and its input reads as it did; no condition beside the given row's own. (The frame is the kit's shell's.) -/
import Derived.WalkKit
import Derived.ProofKit
import Derived.OpenShut
import Derived.ShutString
import Derived.ChangeOld
import Derived.Below
import Derived.SizedLaws
import Derived.Carry
import Derived.Test.YtojafegjlahajaaGreatDoorQSessionOneFacts3
import Derived.Test.YtojafegjlahajaaGreatDoorQSessionOneFacts2
import Derived.Test.YtojafegjlahajaaGreatDoorQSessionOneFacts1
import Derived.Test.YtojafegjlahajaaGreatDoorQSessionOneFacts0
import Derived.Test.YtojafegjlahajaaGreatDoorTie
import Derived.LaidMore
import Derived.LaidLaws
import Derived.LaidHandle
import Derived.Stop.Joined
import Derived.SevenTiedAt
import GoSem.PinnedTables
import Derived.Test.YtojafegjlahajaaGreatDoorQLaw24o
namespace Go.Proofs.YtojafegjlahajaaGreatDoor.sessionOne
open Go.ChangeShapes Go.WideShapes Go.ChangeAt Go.RowKit Go.Sp
open Go.ChangeMaps (open_string shut_string)
set_option linter.unusedVariables false
set_option maxRecDepth 100000
theorem own : ownKnob Tryz.prog.godebug = none := by kernel_rfl
theorem laidOut : laidOutB Tryz.prog = true := by kernel_rfl
theorem Sv : dK Tryz.prog 5 ag.u8 mP := dK.u8 Tryz.underlying5
abbrev ue : Type := List UInt8
abbrev vI : ag ue := (ag.slice ag.u8)
abbrev vG : ue → Prop := (uo mP)
theorem zW : dK Tryz.prog 24 vI vG := dK.slice Sv Tryz.underlying24 (by kernel_rfl) (of_decide_eq_true (by kernel_rfl)) (by decide)
theorem Su : dK Tryz.prog 4 ag.bool mP := dK.bool Tryz.underlying4
theorem zX : dK Tryz.prog 3 ag.i64 cE := dK.i64 Tryz.underlying3
def kR {α β : Type} (Q : α → Prop) (R : β → Prop) (x : α × β) : Prop := Q x.1 ∧ R x.2
theorem fN.lC {P : Program} {f : Field} {fs : List Field} {off : Nat} {α β : Type} {T : ag α} {kF : ag β} {Q : α → Prop} {R : β → Prop} (ho : f.offset = off) (hc : P.cellsOf f.type = T.k) (h1 : dK P f.type T Q) (h2 : fN P fs (off + T.k) kF R) : fN P (f :: fs) off (ag.prod T kF) (kR Q R) := fN.cons ho hc h1 h2
abbrev AW : Type := Int × Int × Unit
abbrev A8 : ag AW := (ag.prod ag.i64 (ag.prod ag.i64 ag.unit))
abbrev A4 : AW → Prop := (kR cE (kR cE mP))
theorem Sn : dK Tryz.prog 191 A8 A4 := by refine dK.struct (T := A8) (Q := A4) ?_ Tryz.underlying191 (by kernel_rfl); exact (fN.lC rfl (by kernel_rfl) zX (fN.lC rfl (by kernel_rfl) zX fN.nil))
abbrev AU : Type := List AW
abbrev Fy : ag AU := (ag.slice A8)
abbrev Fw : AU → Prop := (uo A4)
theorem Sl : dK Tryz.prog 100 Fy Fw := dK.slice Sn Tryz.underlying100 (by kernel_rfl) (of_decide_eq_true (by kernel_rfl)) (by decide)
def A_ (s : List UInt8) : Prop := s.length ≤ 140737488351232
theorem Jp : dK Tryz.prog 9 ag.str A_ := dK.str Tryz.underlying9
abbrev AV : Type := List UInt8 × Int × Int × AU × Bool × ue × ue × Unit
abbrev A7 : ag AV := (ag.prod ag.str (ag.prod ag.i64 (ag.prod ag.i64 (ag.prod Fy (ag.prod ag.bool (ag.prod vI (ag.prod vI ag.unit)))))))
abbrev A3 : AV → Prop := (kR A_ (kR cE (kR cE (kR Fw (kR mP (kR vG (kR vG mP)))))))
theorem Sm : dK Tryz.prog 102 A7 A3 := by refine dK.struct (T := A7) (Q := A3) ?_ Tryz.underlying102 (by kernel_rfl); exact (fN.lC rfl (by kernel_rfl) Jp (fN.lC rfl (by kernel_rfl) zX (fN.lC rfl (by kernel_rfl) zX (fN.lC rfl (by kernel_rfl) Sl (fN.lC rfl (by kernel_rfl) Su (fN.lC rfl (by kernel_rfl) zW (fN.lC rfl (by kernel_rfl) zW fN.nil)))))))
abbrev AX : Type := List AV
abbrev Fz : ag AX := (ag.slice A7)
abbrev Fx : AX → Prop := (uo A3)
theorem Sq : dK Tryz.prog 22 Fz Fx := dK.slice Sm Tryz.underlying22 (by kernel_rfl) (of_decide_eq_true (by kernel_rfl)) (by decide)
abbrev AZ : Type := List UInt8 × AX × Unit
abbrev vJ : ag AZ := (ag.prod ag.str (ag.prod Fz ag.unit))
abbrev A6 : AZ → Prop := (kR A_ (kR Fx mP))
theorem St : dK Tryz.prog 31 vJ A6 := by refine dK.struct (T := vJ) (Q := A6) ?_ Tryz.underlying31 (by kernel_rfl); exact (fN.lC rfl (by kernel_rfl) Jp (fN.lC rfl (by kernel_rfl) Sq fN.nil))
abbrev AY : Type := List AZ
abbrev FA : ag AY := (ag.slice vJ)
abbrev ye : AY → Prop := (uo A6)
theorem Ek : dK Tryz.prog 25 FA ye := dK.slice St Tryz.underlying25 (by kernel_rfl) (of_decide_eq_true (by kernel_rfl)) (by decide)
theorem Sr : dK Tryz.prog 23 ag.u8 mP := dK.u8 Tryz.underlying23
abbrev Fj : Type := UInt8 × ue × ue × AY × Unit
abbrev A9 : ag Fj := (ag.prod ag.u8 (ag.prod vI (ag.prod vI (ag.prod FA ag.unit))))
abbrev A5 : Fj → Prop := (kR mP (kR vG (kR vG (kR ye mP))))
theorem Ss : dK Tryz.prog 27 A9 A5 := by refine dK.struct (T := A9) (Q := A5) ?_ Tryz.underlying27 (by kernel_rfl); exact (fN.lC rfl (by kernel_rfl) Sr (fN.lC rfl (by kernel_rfl) zW (fN.lC rfl (by kernel_rfl) zW (fN.lC rfl (by kernel_rfl) Ek fN.nil))))
def SM : DataW Unit → Array Value
 | .agg l => (l.map fun | .lit (.int k n) => Value.int k n | _ => .bool false).toArray
 | _ => #[]
noncomputable def SL (k : Nat) (cs : Array Value) (w : World) : World :=
 {w with heap := w.heap.modify k fun
   | .cells _ t frozen => .cells cs t frozen
   | o => o }
noncomputable def IF (os : Os) : World := SL 3 (SM ((Rows.sessionOneRow.laid.lookup "unicode/utf8.first").getD .nil)) (World.doorLaid Tryz.prog 4000 os)
theorem met (os : Os) (args : Array Value) : laidMetH Tryz.prog Rows.sessionOneRow.laid ((IF os).forCall (fun _ _ => 0) ⟨#[], args, []⟩).memory :=
 laidMetH_of_parts3 (fuel := 8) (laidMet_of_run' 8 (by kernel_rfl) (by kernel_rfl)) (by kernel_rfl) (by kernel_rfl)
theorem lifted (os : Os) (started : os.Started) (H : Type) (enc : TypeId × Value → H) :
  ReturnsInHanded {} Tryz.checked os 9 .any (fun w args => (Rows.sessionOneSpec.pre enc Tryz.prog Tryz.f9 [] false w args ∧ laidMetH Tryz.prog Rows.sessionOneRow.laid w) ∧ sizedMet enc Tryz.prog Tryz.f9 (OpenSpec.ofChange Rows.sessionOneSpec) false w args)
   (Rows.sessionOneSpec.post enc Tryz.prog Tryz.f9 false true false false) := by
 refine returnsInHanded_of_change_and (C := Tryz.checked) (X := fun w _ => laidMetH Tryz.prog Rows.sessionOneRow.laid w) (fun _ _ _ hh h => h.of_heap hh) own started (by kernel_rfl) Tryz.func9
  (ChangeSpec.witness_shaped (enc := enc) (C := Tryz.checked) (os := os) (X := fun w _ => laidMetH Tryz.prog Rows.sessionOneRow.laid w) false (IF os) #[.int .i64 0, .slice none 0 0, .slice none 0 0, .agg #[.int .u8 0, .slice none 0 0, .slice none 0 0, .slice none 0 0]] 8 rfl (World.shaped_of_RefB (by kernel_rfl) (by kernel_rfl)) (by kernel_rfl) (by kernel_rfl) (by kernel_rfl) (met os _)) ?_
 intro W base args ds gs before Pr hW W7 H7 hL _
 have hH : At W.fr ⟨0, 0, none⟩ (bQ ed) := IG (n := "buttress/sha.begin") (vs := ed) (t := 276) (e := 274) hL (List.mem_of_getElem? (i := 1) (by kernel_rfl)) (by kernel_rfl) (by kernel_rfl) (by kernel_rfl) (by kernel_rfl) (by kernel_rfl) (by kernel_rfl)
 have hK : At W.fr ⟨1, 0, none⟩ (bQ fZ) := IG (n := "buttress/sha.rest") (vs := fZ) (t := 382) (e := 274) hL (List.mem_of_getElem? (i := 2) (by kernel_rfl)) (by kernel_rfl) (by kernel_rfl) (by kernel_rfl) (by kernel_rfl) (by kernel_rfl) (by kernel_rfl)
 have hval : ∀ (j : Nat) t v, Tryz.f9.params[j]? = some t → args[j]? = some v → Value.okWide Tryz.prog W .any base t v := Pr
 have Nw := hW
 obtain ⟨p, q, y8, hV, rfl, hfz, di⟩ := hW
 have hA : DataW.TrodAll enc Tryz.prog W 0 (fun _ => true) true Tryz.f9.params.toList args.toList ds p := y8
 rw [Tryz.params9] at hA hval H7
 obtain ⟨v0, YW, d0, WJ, Em, q0, hargs, rfl, rfl, jr, t0⟩ := trodAll_cons hA
 obtain ⟨v1, YX, d1, WK, p1, q1, rfl, rfl, rfl, r1, t1⟩ := trodAll_cons t0
 obtain ⟨v2, YY, d2, WL, p2, q2, rfl, rfl, rfl, r2, t2⟩ := trodAll_cons t1
 obtain ⟨v3, YZ, d3, WM, p3, cH, rfl, rfl, rfl, r3, t3⟩ := trodAll_cons t2
 obtain ⟨rfl, rfl, rfl⟩ := trodAll_nil t3
 obtain rfl : args = #[v0, v1, v2, v3] := by cases args; simp_all
 obtain ⟨rfl, rfl⟩ := trodVars_none hV
 have DB : ∀ n ∈ DataW.weightsEach _ _ _, n ≤ reachBytes := fun n hn => by simpa using List.all_eq_true.mp H7 n hn
 obtain ⟨x0, rfl, rfl, rfl, w0⟩ := open_int Tryz.underlying3 (hval 0 3 v0 rfl rfl) jr
 have q0 : cE x0 := by unfold cE; simpa [Lit.wf, IntKind.min, IntKind.max, IntKind.wrap, IntKind.bits, IntKind.signed] using w0
 obtain ⟨s1, m1, c1, rfl⟩ := okWide_slice Tryz.underlying25 (hval 1 25 v1 rfl rfl)
 have k1 := r1
 have RG : ∀ x ∈ p1, x.block < W.heap.size := by obtain ⟨m, hm⟩ := k1; exact DataW.trod_lt m _ _ _ hm
 obtain ⟨x1, h1, q1⟩ : ∃ xs, aj vJ W.fr (.slice s1 m1 c1) xs ∧ ye xs := by
  obtain ⟨fuel, hf⟩ := r1
  exact dK.arr Ek hf (xy DB 1 (by simp) (by simp))
 obtain ⟨s2, m2, c2, rfl⟩ := okWide_slice Tryz.underlying25 (hval 2 25 v2 rfl rfl)
 have k2 := r2
 have RH : ∀ x ∈ p2, x.block < W.heap.size := by obtain ⟨m, hm⟩ := k2; exact DataW.trod_lt m _ _ _ hm
 obtain ⟨cD, h2, q2⟩ : ∃ xs, aj vJ W.fr (.slice s2 m2 c2) xs ∧ ye xs := by
  obtain ⟨fuel, hf⟩ := r2
  exact dK.arr Ek hf (xy DB 2 (by simp) (by simp))
 obtain ⟨s3, rfl, m3⟩ := okWide_struct Tryz.underlying27 (hval 3 27 v3 rfl rfl)
 have aR := r3
 have RI : ∀ x ∈ p3, x.block < W.heap.size := by obtain ⟨m, hm⟩ := aR; exact DataW.trod_lt m _ _ _ hm
 obtain ⟨eF, h3, cH⟩ : ∃ x, (A9).rel W.fr s3.toList x ∧ A5 x := by
  obtain ⟨fuel, hf⟩ := r3
  exact Ss _ _ _ _ _ _ _ _ _ hf (xy DB 3 (by simp) (by simp))
 refine ((Ul q0 h1 h2 h3 hH hK) W.rB (Fr.bW _) W (Holds.Jo W)).mono fun e W' ⟨ax, h, hw⟩ => ?_
 cases e with
 | returned v =>
  obtain ⟨rfl, rfl⟩ := h
  have yt := hw.below
  exact ⟨_, rfl, _, _, _, [], _, [], Nw, trodAll_mk1 (shut_bool Tryz.underlying4 _), (trodAll_cons_mk (shut_int Tryz.underlying3 w0) (trodAll_cons_mk (Below.trod laidOut (by kernel_rfl) (of_decide_eq_true (by kernel_rfl)) k1 yt RG) (trodAll_cons_mk (Below.trod laidOut (by kernel_rfl) (of_decide_eq_true (by kernel_rfl)) k2 yt RH) (trodAll_cons_mk (Below.trod laidOut (by kernel_rfl) (of_decide_eq_true (by kernel_rfl)) aR yt RI) trodAll_mk0)))), rfl, yt.frame _, fun h => by cases h⟩
 | panicked _ => exact h.elim
 | outgrown => exact h.elim
theorem fu {a b : Bool} (ha : a = true) (hb : b = true) : (a && b) = true := by rw [ha, hb]; rfl
theorem closed : joinedFacts Tryz.pinned.checked.prog 9 Tryz.f9 Rows.sessionOneSpec Rows.sessionOneRow = true := fu (fu (fu (fu (fu (fu (fu (fu (fu (fu (fu (fu (fu (fu (fu (fu (fu (fu (fu (fu (fu (fu (fu (fu (fu (fu (fu (fu (fu (fu (fu (Qt) Qu) QF) QS) QV) QW) QX) QY) QZ) Q0) Qv) Qw) Qx) Qy) Qz) QA) QB) QC) QD) QE) QG) QH) QI) QJ) QK) QL) QM) QN) QO) QR) QT) QU
theorem over : Rows.sessionOneRow.holds Tryz.pinned (OpenSpec.ofChange Rows.sessionOneSpec) :=
 OpenClaim.holds_of_wide 9 Tryz.f9 rfl rfl rfl rfl rfl rfl rfl ⟨rfl, rfl, rfl, rfl, rfl⟩ rfl rfl rfl rfl rfl (by kernel_rfl) Tryz.func9 closed
  (of_decide_eq_true (by kernel_rfl)) (by unfold Func.isWrapper; first | (rw [if_pos (by decide +kernel)]; kernel_rfl) | (rw [if_neg (by decide +kernel)]; exact ⟨rfl, rfl⟩))
  (fun os started H enc _ => lifted os started H enc)
theorem proved : Rows.SessionOneCardSaid :=
 Claim7.holds_tied_plain_at .later [] [.data, .data, .data, .pinned] true (true, "c6c8a51ec12fc40a09badfac04dc547d3b235d0aa19123fb9236b4b20d0729aa") true
  over (fun _ h => by cases h) L8 (fun _ h => by cases h) sessionOne_row_tie rfl ⟨rfl, rfl⟩ L5 rfl
  (fun f fn hf hfn => by
   obtain rfl : f = 9 := Option.some.inj (L6.symm.trans hf) |>.symm
   obtain rfl : fn = Tryz.f9 := (Option.some.inj (Tryz.func9.symm.trans hfn)).symm
   exact ⟨L4, fun j t ht => by
    rw [Tryz.params9] at ht
    have hm : t ∈ [3, 25, 25, 27] := by simpa using Array.mem_of_getElem? ht
    have hall : ([3, 25, 25, 27].all fun u => !Tryz.prog.wantsStandIn u) = true := L7
    exact (show Tryz.prog.wantsStandIn t = false by simpa using List.all_eq_true.1 hall t hm)⟩)
  L3
#print axioms proved
end Go.Proofs.YtojafegjlahajaaGreatDoor.sessionOne
