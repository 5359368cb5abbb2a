/- Proved: whatever its input, SessionLies of buttresslaw24 returns true, and its input reads as it did; no condition beside the given row's own. (The frame is the kit's shell's.) -/
import Derived.WalkKit
import Derived.ProofKit
import Derived.OpenShut
import Derived.ShutString
import Derived.ChangeOld
import Derived.Below
import Derived.SizedLaws
import Derived.Carry
import Derived.Test.YtojafegjlahajaaGreatDoorQSessionLiesFacts3
import Derived.Test.YtojafegjlahajaaGreatDoorQSessionLiesFacts2
import Derived.Test.YtojafegjlahajaaGreatDoorQSessionLiesFacts1
import Derived.Test.YtojafegjlahajaaGreatDoorQSessionLiesFacts0
import Derived.Test.YtojafegjlahajaaGreatDoorTie
import Derived.LaidMore
import Derived.LaidLaws
import Derived.LaidHandle
import Derived.Stop.Joined
import Derived.SevenTiedAt
import GoSem.PinnedTables
import Derived.Test.YtojafegjlahajaaGreatDoorQLaw24l
namespace Go.Proofs.YtojafegjlahajaaGreatDoor.sessionLies
open Go.ChangeShapes Go.WideShapes Go.ChangeAt Go.RowKit Go.Sp
open Go.ChangeMaps (open_string shut_string)
set_option linter.unusedVariables false
set_option maxRecDepth 100000
theorem own : ownKnob Tryz.prog.godebug = none := by kernel_rfl
theorem laidOut : laidOutB Tryz.prog = true := by kernel_rfl
theorem TW : dW Tryz.prog 5 ag.u8 pX := dW.u8 Tryz.underlying5
abbrev yN : Type := List UInt8
abbrev BG : ag yN := (ag.slice ag.u8)
abbrev BC : yN → Prop := (uR pX)
theorem J7 : dW Tryz.prog 24 BG BC := dW.slice TW Tryz.underlying24 (by kernel_rfl) (of_decide_eq_true (by kernel_rfl)) (by decide)
theorem TV : dW Tryz.prog 4 ag.bool pX := dW.bool Tryz.underlying4
theorem Az : dW Tryz.prog 3 ag.i64 cG := dW.i64 Tryz.underlying3
def nU {α β : Type} (Q : α → Prop) (R : β → Prop) (x : α × β) : Prop := Q x.1 ∧ R x.2
theorem iu.o3 {P : Program} {f : Field} {fs : List Field} {off : Nat} {α β : Type} {T : ag α} {kR : ag β} {Q : α → Prop} {R : β → Prop} (ho : f.offset = off) (hc : P.cellsOf f.type = T.k) (h1 : dW P f.type T Q) (h2 : iu P fs (off + T.k) kR R) : iu P (f :: fs) off (ag.prod T kR) (nU Q R) := iu.cons ho hc h1 h2
abbrev Bu : Type := Int × Int × Unit
abbrev BF : ag Bu := (ag.prod ag.i64 (ag.prod ag.i64 ag.unit))
abbrev BB : Bu → Prop := (nU cG (nU cG pX))
theorem TS : dW Tryz.prog 191 BF BB := by refine dW.struct (T := BF) (Q := BB) ?_ Tryz.underlying191 (by kernel_rfl); exact (iu.o3 rfl (by kernel_rfl) Az (iu.o3 rfl (by kernel_rfl) Az iu.nil))
abbrev Bs : Type := List Bu
abbrev Gj : ag Bs := (ag.slice BF)
abbrev Gh : Bs → Prop := (uR BB)
theorem TQ : dW Tryz.prog 100 Gj Gh := dW.slice TS Tryz.underlying100 (by kernel_rfl) (of_decide_eq_true (by kernel_rfl)) (by decide)
def BH (s : List UInt8) : Prop := s.length ≤ 140737488351232
theorem J8 : dW Tryz.prog 9 ag.str BH := dW.str Tryz.underlying9
abbrev Bt : Type := List UInt8 × Int × Int × Bs × Bool × yN × yN × Unit
abbrev BE : ag Bt := (ag.prod ag.str (ag.prod ag.i64 (ag.prod ag.i64 (ag.prod Gj (ag.prod ag.bool (ag.prod BG (ag.prod BG ag.unit)))))))
abbrev BA : Bt → Prop := (nU BH (nU cG (nU cG (nU Gh (nU pX (nU BC (nU BC pX)))))))
theorem TR : dW Tryz.prog 102 BE BA := by refine dW.struct (T := BE) (Q := BA) ?_ Tryz.underlying102 (by kernel_rfl); exact (iu.o3 rfl (by kernel_rfl) J8 (iu.o3 rfl (by kernel_rfl) Az (iu.o3 rfl (by kernel_rfl) Az (iu.o3 rfl (by kernel_rfl) TQ (iu.o3 rfl (by kernel_rfl) TV (iu.o3 rfl (by kernel_rfl) J7 (iu.o3 rfl (by kernel_rfl) J7 iu.nil)))))))
abbrev Bv : Type := List Bt
abbrev Gk : ag Bv := (ag.slice BE)
abbrev Gi : Bv → Prop := (uR BA)
theorem TT : dW Tryz.prog 22 Gk Gi := dW.slice TR Tryz.underlying22 (by kernel_rfl) (of_decide_eq_true (by kernel_rfl)) (by decide)
abbrev Bw : Type := List UInt8 × Bv × Unit
abbrev uP : ag Bw := (ag.prod ag.str (ag.prod Gk ag.unit))
abbrev BD : Bw → Prop := (nU BH (nU Gi pX))
theorem TU : dW Tryz.prog 31 uP BD := by refine dW.struct (T := uP) (Q := BD) ?_ Tryz.underlying31 (by kernel_rfl); exact (iu.o3 rfl (by kernel_rfl) J8 (iu.o3 rfl (by kernel_rfl) TT iu.nil))
abbrev F7 : Type := List Bw
abbrev L1 : ag F7 := (ag.slice uP)
abbrev yO : F7 → Prop := (uR BD)
theorem E4 : dW Tryz.prog 25 L1 yO := dW.slice TU Tryz.underlying25 (by kernel_rfl) (of_decide_eq_true (by kernel_rfl)) (by decide)
def Ud : DataW Unit → Array Value
 | .agg l => (l.map fun | .lit (.int k n) => Value.int k n | _ => .bool false).toArray
 | _ => #[]
noncomputable def Uc (k : Nat) (cs : Array Value) (w : World) : World :=
 {w with heap := w.heap.modify k fun
   | .cells _ t frozen => .cells cs t frozen
   | o => o }
noncomputable def Jr (os : Os) : World := Uc 3 (Ud ((Rows.sessionLiesRow.laid.lookup "unicode/utf8.first").getD .nil)) (World.doorLaid Tryz.prog 4000 os)
theorem met (os : Os) (args : Array Value) : laidMetH Tryz.prog Rows.sessionLiesRow.laid ((Jr os).forCall (fun _ _ => 0) ⟨#[], args, []⟩).memory :=
 laidMetH_of_parts3 (fuel := 8) (laidMet_of_run' 8 (by kernel_rfl) (by kernel_rfl)) (by kernel_rfl) (by kernel_rfl)
theorem lifted (os : Os) (started : os.Started) (H : Type) (enc : TypeId × Value → H) :
  ReturnsInHanded {} Tryz.checked os 10 .any (fun w args => (Rows.sessionLiesSpec.pre enc Tryz.prog Tryz.f10 [] false w args ∧ laidMetH Tryz.prog Rows.sessionLiesRow.laid w) ∧ sizedMet enc Tryz.prog Tryz.f10 (OpenSpec.ofChange Rows.sessionLiesSpec) false w args)
   (Rows.sessionLiesSpec.post enc Tryz.prog Tryz.f10 false true false false) := by
 refine returnsInHanded_of_change_and (C := Tryz.checked) (X := fun w _ => laidMetH Tryz.prog Rows.sessionLiesRow.laid w) (fun _ _ _ hh h => h.of_heap hh) own started (by kernel_rfl) Tryz.func10
  (ChangeSpec.witness_shaped (enc := enc) (C := Tryz.checked) (os := os) (X := fun w _ => laidMetH Tryz.prog Rows.sessionLiesRow.laid w) false (Jr os) #[.int .i64 0, .slice none 0 0, .slice none 0 0, .slice none 0 0] 8 rfl (World.shaped_of_RefB (by kernel_rfl) (by kernel_rfl)) (by kernel_rfl) (by kernel_rfl) (by kernel_rfl) (met os _)) ?_
 intro W base args ds gs before QT hW YV IT hL _
 have hH : At W.fr ⟨0, 0, none⟩ (bR er) := Js (n := "buttress/sha.begin") (vs := er) (t := 276) (e := 274) hL (List.mem_of_getElem? (i := 1) (by kernel_rfl)) (by kernel_rfl) (by kernel_rfl) (by kernel_rfl) (by kernel_rfl) (by kernel_rfl) (by kernel_rfl)
 have hK : At W.fr ⟨1, 0, none⟩ (bR gr) := Js (n := "buttress/sha.rest") (vs := gr) (t := 382) (e := 274) hL (List.mem_of_getElem? (i := 2) (by kernel_rfl)) (by kernel_rfl) (by kernel_rfl) (by kernel_rfl) (by kernel_rfl) (by kernel_rfl) (by kernel_rfl)
 have hval : ∀ (j : Nat) t v, Tryz.f10.params[j]? = some t → args[j]? = some v → Value.okWide Tryz.prog W .any base t v := QT
 have Ow := hW
 obtain ⟨p, q, zG, hV, rfl, hfz, dy⟩ := hW
 have hA : DataW.TrodAll enc Tryz.prog W 0 (fun _ => true) true Tryz.f10.params.toList args.toList ds p := zG
 rw [Tryz.params10] at hA hval IT
 obtain ⟨v0, aaJ, d0, Yw, E6, q0, hargs, rfl, rfl, jH, t0⟩ := trodAll_cons hA
 obtain ⟨v1, aaK, d1, Yx, p1, q1, rfl, rfl, rfl, r1, t1⟩ := trodAll_cons t0
 obtain ⟨v2, aaL, d2, Yy, p2, q2, rfl, rfl, rfl, r2, t2⟩ := trodAll_cons t1
 obtain ⟨v3, aaM, d3, Yz, p3, cF, rfl, rfl, rfl, r3, t3⟩ := trodAll_cons t2
 obtain ⟨rfl, rfl, rfl⟩ := trodAll_nil t3
 obtain rfl : args = #[v0, v1, v2, v3] := by cases args; simp_all
 obtain ⟨rfl, rfl⟩ := trodVars_none hV
 have Eh : ∀ n ∈ DataW.weightsEach _ _ _, n ≤ reachBytes := fun n hn => by simpa using List.all_eq_true.mp IT n hn
 obtain ⟨x0, rfl, rfl, rfl, w0⟩ := open_int Tryz.underlying3 (hval 0 3 v0 rfl rfl) jH
 have q0 : cG x0 := by unfold cG; simpa [Lit.wf, IntKind.min, IntKind.max, IntKind.wrap, IntKind.bits, IntKind.signed] using w0
 obtain ⟨s1, m1, c1, rfl⟩ := okWide_slice Tryz.underlying25 (hval 1 25 v1 rfl rfl)
 have k1 := r1
 have Ta : ∀ x ∈ p1, x.block < W.heap.size := by obtain ⟨m, hm⟩ := k1; exact DataW.trod_lt m _ _ _ hm
 obtain ⟨x1, h1, q1⟩ : ∃ xs, aj uP W.fr (.slice s1 m1 c1) xs ∧ yO xs := by
  obtain ⟨fuel, hf⟩ := r1
  exact dW.arr E4 hf (x2 Eh 1 (by simp) (by simp))
 obtain ⟨s2, m2, c2, rfl⟩ := okWide_slice Tryz.underlying25 (hval 2 25 v2 rfl rfl)
 have k2 := r2
 have Tb : ∀ x ∈ p2, x.block < W.heap.size := by obtain ⟨m, hm⟩ := k2; exact DataW.trod_lt m _ _ _ hm
 obtain ⟨cC, h2, q2⟩ : ∃ xs, aj uP W.fr (.slice s2 m2 c2) xs ∧ yO xs := by
  obtain ⟨fuel, hf⟩ := r2
  exact dW.arr E4 hf (x2 Eh 2 (by simp) (by simp))
 obtain ⟨s3, m3, c3, rfl⟩ := okWide_slice Tryz.underlying25 (hval 3 25 v3 rfl rfl)
 have bg := r3
 have Tc : ∀ x ∈ p3, x.block < W.heap.size := by obtain ⟨m, hm⟩ := bg; exact DataW.trod_lt m _ _ _ hm
 obtain ⟨eH, h3, cF⟩ : ∃ xs, aj uP W.fr (.slice s3 m3 c3) xs ∧ yO xs := by
  obtain ⟨fuel, hf⟩ := r3
  exact dW.arr E4 hf (x2 Eh 3 (by simp) (by simp))
 refine ((V6 q0 h1 h2 h3 hH hK) W.rP (Fr.bU _) W (Holds.J6 W)).mono fun e W' ⟨ax, h, hw⟩ => ?_
 cases e with
 | returned v =>
  obtain ⟨rfl, rfl⟩ := h
  have yZ := hw.below
  exact ⟨_, rfl, _, _, _, [], _, [], Ow, trodAll_mk1 (shut_bool Tryz.underlying4 _), (trodAll_cons_mk (shut_int Tryz.underlying3 w0) (trodAll_cons_mk (Below.trod laidOut (by kernel_rfl) (of_decide_eq_true (by kernel_rfl)) k1 yZ Ta) (trodAll_cons_mk (Below.trod laidOut (by kernel_rfl) (of_decide_eq_true (by kernel_rfl)) k2 yZ Tb) (trodAll_cons_mk (Below.trod laidOut (by kernel_rfl) (of_decide_eq_true (by kernel_rfl)) bg yZ Tc) trodAll_mk0)))), rfl, yZ.frame _, fun h => by cases h⟩
 | panicked _ => exact h.elim
 | outgrown => exact h.elim
theorem fE {a b : Bool} (ha : a = true) (hb : b = true) : (a && b) = true := by rw [ha, hb]; rfl
theorem closed : joinedFacts Tryz.pinned.checked.prog 10 Tryz.f10 Rows.sessionLiesSpec Rows.sessionLiesRow = true := fE (fE (fE (fE (fE (fE (fE (fE (fE (fE (fE (fE (fE (fE (fE (fE (fE (fE (fE (fE (fE (fE (fE (fE (fE (fE (fE (fE (fE (fE (fE (RQ) RR) R4) Se) Sh) Si) Sj) Sk) Sl) Sm) RT) RU) RV) RW) RX) RY) RZ) R1) R2) R3) R5) R6) R7) R8) R9) R_) Sa) Sb) Sc) Sd) Sf) Sg
theorem over : Rows.sessionLiesRow.holds Tryz.pinned (OpenSpec.ofChange Rows.sessionLiesSpec) :=
 OpenClaim.holds_of_wide 10 Tryz.f10 rfl rfl rfl rfl rfl rfl rfl ⟨rfl, rfl, rfl, rfl, rfl⟩ rfl rfl rfl rfl rfl (by kernel_rfl) Tryz.func10 closed
  (of_decide_eq_true (by kernel_rfl)) (by unfold Func.isWrapper; first | (rw [if_pos (by decide +kernel)]; kernel_rfl) | (rw [if_neg (by decide +kernel)]; exact ⟨rfl, rfl⟩))
  (fun os started H enc _ => lifted os started H enc)
theorem proved : Rows.SessionLiesCardSaid :=
 Claim7.holds_tied_plain_at .later [] [.data, .data, .data, .pinned] true (true, "c6c8a51ec12fc40a09badfac04dc547d3b235d0aa19123fb9236b4b20d0729aa") true
  over (fun _ h => by cases h) M0 (fun _ h => by cases h) sessionLies_row_tie rfl ⟨rfl, rfl⟩ MX rfl
  (fun f fn hf hfn => by
   obtain rfl : f = 10 := Option.some.inj (MY.symm.trans hf) |>.symm
   obtain rfl : fn = Tryz.f10 := (Option.some.inj (Tryz.func10.symm.trans hfn)).symm
   exact ⟨MW, fun j t ht => by
    rw [Tryz.params10] at ht
    have hm : t ∈ [3, 25, 25, 25] := by simpa using Array.mem_of_getElem? ht
    have hall : ([3, 25, 25, 25].all fun u => !Tryz.prog.wantsStandIn u) = true := MZ
    exact (show Tryz.prog.wantsStandIn t = false by simpa using List.all_eq_true.1 hall t hm)⟩)
  MV
#print axioms proved
end Go.Proofs.YtojafegjlahajaaGreatDoor.sessionLies
