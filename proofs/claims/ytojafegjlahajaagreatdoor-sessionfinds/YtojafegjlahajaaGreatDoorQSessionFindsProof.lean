/- Proved: whatever its input, SessionFinds of buttresslaw24 returns true, and its input reads as it did; no condition beside the given row's own. (The frame is the kit's shell's.) -/
import Derived.WalkKit
import Derived.ProofKit
import Derived.OpenShut
import Derived.ShutString
import Derived.ChangeOld
import Derived.Below
import Derived.SizedLaws
import Derived.Carry
import Derived.Test.YtojafegjlahajaaGreatDoorQSessionFindsFacts3
import Derived.Test.YtojafegjlahajaaGreatDoorQSessionFindsFacts2
import Derived.Test.YtojafegjlahajaaGreatDoorQSessionFindsFacts1
import Derived.Test.YtojafegjlahajaaGreatDoorQSessionFindsFacts0
import Derived.Test.YtojafegjlahajaaGreatDoorTie
import Derived.LaidMore
import Derived.LaidLaws
import Derived.LaidHandle
import Derived.Stop.Joined
import Derived.SevenTiedAt
import GoSem.PinnedTables
import Derived.Test.YtojafegjlahajaaGreatDoorQFnd2
namespace Go.Proofs.YtojafegjlahajaaGreatDoor.sessionFinds
open Go.ChangeShapes Go.WideShapes Go.ChangeAt Go.RowKit Go.Sp
open Go.ChangeMaps (open_string shut_string)
set_option linter.unusedVariables false
set_option maxRecDepth 100000
theorem own : ownKnob Tryz.prog.godebug = none := by kernel_rfl
theorem laidOut : laidOutB Tryz.prog = true := by kernel_rfl
theorem Uu : dR Tryz.prog 5 ag.u8 pY := dR.u8 Tryz.underlying5
abbrev yT : Type := List UInt8
abbrev BU : ag yT := (ag.slice ag.u8)
abbrev BP : yT → Prop := (sY pY)
theorem Kx : dR Tryz.prog 24 BU BP := dR.slice Uu Tryz.underlying24 (by kernel_rfl) (of_decide_eq_true (by kernel_rfl)) (by decide)
theorem Ut : dR Tryz.prog 4 ag.bool pY := dR.bool Tryz.underlying4
theorem yg : dR Tryz.prog 3 ag.i64 cK := dR.i64 Tryz.underlying3
def nX {α β : Type} (Q : α → Prop) (R : β → Prop) (x : α × β) : Prop := Q x.1 ∧ R x.2
theorem h_.oW {P : Program} {f : Field} {fs : List Field} {off : Nat} {α β : Type} {T : ag α} {kP : ag β} {Q : α → Prop} {R : β → Prop} (ho : f.offset = off) (hc : P.cellsOf f.type = T.k) (h1 : dR P f.type T Q) (h2 : h_ P fs (off + T.k) kP R) : h_ P (f :: fs) off (ag.prod T kP) (nX Q R) := h_.cons ho hc h1 h2
abbrev BH : Type := Int × Int × Unit
abbrev BT : ag BH := (ag.prod ag.i64 (ag.prod ag.i64 ag.unit))
abbrev BO : BH → Prop := (nX cK (nX cK pY))
theorem Uq : dR Tryz.prog 191 BT BO := by refine dR.struct (T := BT) (Q := BO) ?_ Tryz.underlying191 (by kernel_rfl); exact (h_.oW rfl (by kernel_rfl) yg (h_.oW rfl (by kernel_rfl) yg h_.nil))
abbrev BF : Type := List BH
abbrev GJ : ag BF := (ag.slice BT)
abbrev GG : BF → Prop := (sY BO)
theorem Un : dR Tryz.prog 100 GJ GG := dR.slice Uq Tryz.underlying100 (by kernel_rfl) (of_decide_eq_true (by kernel_rfl)) (by decide)
def BV (s : List UInt8) : Prop := s.length ≤ 140737488351232
theorem Kz : dR Tryz.prog 9 ag.str BV := dR.str Tryz.underlying9
abbrev BG : Type := List UInt8 × Int × Int × BF × Bool × yT × yT × Unit
abbrev BS : ag BG := (ag.prod ag.str (ag.prod ag.i64 (ag.prod ag.i64 (ag.prod GJ (ag.prod ag.bool (ag.prod BU (ag.prod BU ag.unit)))))))
abbrev BN : BG → Prop := (nX BV (nX cK (nX cK (nX GG (nX pY (nX BP (nX BP pY)))))))
theorem Uo : dR Tryz.prog 102 BS BN := by refine dR.struct (T := BS) (Q := BN) ?_ Tryz.underlying102 (by kernel_rfl); exact (h_.oW rfl (by kernel_rfl) Kz (h_.oW rfl (by kernel_rfl) yg (h_.oW rfl (by kernel_rfl) yg (h_.oW rfl (by kernel_rfl) Un (h_.oW rfl (by kernel_rfl) Ut (h_.oW rfl (by kernel_rfl) Kx (h_.oW rfl (by kernel_rfl) Kx h_.nil)))))))
abbrev BI : Type := List BG
abbrev GK : ag BI := (ag.slice BS)
abbrev GI : BI → Prop := (sY BN)
theorem Ur : dR Tryz.prog 22 GK GI := dR.slice Uo Tryz.underlying22 (by kernel_rfl) (of_decide_eq_true (by kernel_rfl)) (by decide)
abbrev BJ : Type := List UInt8 × BI × Unit
abbrev wo : ag BJ := (ag.prod ag.str (ag.prod GK ag.unit))
abbrev BR : BJ → Prop := (nX BV (nX GI pY))
theorem Us : dR Tryz.prog 31 wo BR := by refine dR.struct (T := wo) (Q := BR) ?_ Tryz.underlying31 (by kernel_rfl); exact (h_.oW rfl (by kernel_rfl) Kz (h_.oW rfl (by kernel_rfl) Ur h_.nil))
abbrev Gt : Type := List BJ
abbrev Mr : ag Gt := (ag.slice wo)
abbrev BQ : Gt → Prop := (sY BR)
theorem Ky : dR Tryz.prog 25 Mr BQ := dR.slice Us Tryz.underlying25 (by kernel_rfl) (of_decide_eq_true (by kernel_rfl)) (by decide)
abbrev Gs : Type := List Int
abbrev Mq : ag Gs := (ag.slice ag.i64)
abbrev GH : Gs → Prop := (sY cK)
theorem Up : dR Tryz.prog 104 Mq GH := dR.slice yg Tryz.underlying104 (by kernel_rfl) (of_decide_eq_true (by kernel_rfl)) (by decide)
def UR : DataW Unit → Array Value
 | .agg l => (l.map fun | .lit (.int k n) => Value.int k n | _ => .bool false).toArray
 | _ => #[]
noncomputable def UQ (k : Nat) (cs : Array Value) (w : World) : World :=
 {w with heap := w.heap.modify k fun
   | .cells _ t frozen => .cells cs t frozen
   | o => o }
noncomputable def JL (os : Os) : World := UQ 3 (UR ((Rows.sessionFindsRow.laid.lookup "unicode/utf8.first").getD .nil)) (World.doorLaid Tryz.prog 4000 os)
theorem met (os : Os) (args : Array Value) : laidMetH Tryz.prog Rows.sessionFindsRow.laid ((JL os).forCall (fun _ _ => 0) ⟨#[], args, []⟩).memory :=
 laidMetH_of_parts3 (fuel := 8) (laidMet_of_run' 8 (by kernel_rfl) (by kernel_rfl)) (by kernel_rfl) (by kernel_rfl)
theorem lifted (os : Os) (started : os.Started) (H : Type) (enc : TypeId × Value → H) :
  ReturnsInHanded {} Tryz.checked os 11 .any (fun w args => (Rows.sessionFindsSpec.pre enc Tryz.prog Tryz.f11 [] false w args ∧ laidMetH Tryz.prog Rows.sessionFindsRow.laid w) ∧ sizedMet enc Tryz.prog Tryz.f11 (OpenSpec.ofChange Rows.sessionFindsSpec) false w args)
   (Rows.sessionFindsSpec.post enc Tryz.prog Tryz.f11 false true false false) := by
 refine returnsInHanded_of_change_and (C := Tryz.checked) (X := fun w _ => laidMetH Tryz.prog Rows.sessionFindsRow.laid w) (fun _ _ _ hh h => h.of_heap hh) own started (by kernel_rfl) Tryz.func11
  (ChangeSpec.witness_shaped (enc := enc) (C := Tryz.checked) (os := os) (X := fun w _ => laidMetH Tryz.prog Rows.sessionFindsRow.laid w) false (JL os) #[.int .i64 0, .slice none 0 0, .slice none 0 0, .slice none 0 0] 8 rfl (World.shaped_of_RefB (by kernel_rfl) (by kernel_rfl)) (by kernel_rfl) (by kernel_rfl) (by kernel_rfl) (met os _)) ?_
 intro W base args ds gs before Rp hW ZF Ji hL _
 have hH : At W.fr ⟨0, 0, none⟩ (bW ev) := JM (n := "buttress/sha.begin") (vs := ev) (t := 276) (e := 274) hL (List.mem_of_getElem? (i := 1) (by kernel_rfl)) (by kernel_rfl) (by kernel_rfl) (by kernel_rfl) (by kernel_rfl) (by kernel_rfl) (by kernel_rfl)
 have hK : At W.fr ⟨1, 0, none⟩ (bW gq) := JM (n := "buttress/sha.rest") (vs := gq) (t := 382) (e := 274) hL (List.mem_of_getElem? (i := 2) (by kernel_rfl)) (by kernel_rfl) (by kernel_rfl) (by kernel_rfl) (by kernel_rfl) (by kernel_rfl) (by kernel_rfl)
 have hval : ∀ (j : Nat) t v, Tryz.f11.params[j]? = some t → args[j]? = some v → Value.okWide Tryz.prog W .any base t v := Rp
 have OZ := hW
 obtain ⟨p, q, vo, hV, rfl, hfz, dy⟩ := hW
 have hA : DataW.TrodAll enc Tryz.prog W 0 (fun _ => true) true Tryz.f11.params.toList args.toList ds p := vo
 rw [Tryz.params11] at hA hval Ji
 obtain ⟨v0, abD, d0, Zi, Ft, q0, hargs, rfl, rfl, jA, t0⟩ := trodAll_cons hA
 obtain ⟨v1, abE, d1, Zj, p1, q1, rfl, rfl, rfl, r1, t1⟩ := trodAll_cons t0
 obtain ⟨v2, abF, d2, Zk, p2, q2, rfl, rfl, rfl, r2, t2⟩ := trodAll_cons t1
 obtain ⟨v3, abG, d3, Zl, p3, cM, rfl, rfl, rfl, r3, t3⟩ := trodAll_cons t2
 obtain ⟨rfl, rfl, rfl⟩ := trodAll_nil t3
 obtain rfl : args = #[v0, v1, v2, v3] := by cases args; simp_all
 obtain ⟨rfl, rfl⟩ := trodVars_none hV
 have EG : ∀ n ∈ DataW.weightsEach _ _ _, n ≤ reachBytes := fun n hn => by simpa using List.all_eq_true.mp Ji n hn
 obtain ⟨x0, rfl, rfl, rfl, w0⟩ := open_int Tryz.underlying3 (hval 0 3 v0 rfl rfl) jA
 have q0 : cK x0 := by unfold cK; simpa [Lit.wf, IntKind.min, IntKind.max, IntKind.wrap, IntKind.bits, IntKind.signed] using w0
 obtain ⟨s1, m1, c1, rfl⟩ := okWide_slice Tryz.underlying25 (hval 1 25 v1 rfl rfl)
 have k1 := r1
 have TG : ∀ x ∈ p1, x.block < W.heap.size := by obtain ⟨m, hm⟩ := k1; exact DataW.trod_lt m _ _ _ hm
 obtain ⟨x1, h1, q1⟩ : ∃ xs, aj wo W.fr (.slice s1 m1 c1) xs ∧ BQ xs := by
  obtain ⟨fuel, hf⟩ := r1
  exact dR.arr Ky hf (x4 EG 1 (by simp) (by simp))
 obtain ⟨s2, m2, c2, rfl⟩ := okWide_slice Tryz.underlying25 (hval 2 25 v2 rfl rfl)
 have k2 := r2
 have TH : ∀ x ∈ p2, x.block < W.heap.size := by obtain ⟨m, hm⟩ := k2; exact DataW.trod_lt m _ _ _ hm
 obtain ⟨cI, h2, q2⟩ : ∃ xs, aj wo W.fr (.slice s2 m2 c2) xs ∧ BQ xs := by
  obtain ⟨fuel, hf⟩ := r2
  exact dR.arr Ky hf (x4 EG 2 (by simp) (by simp))
 obtain ⟨s3, m3, c3, rfl⟩ := okWide_slice Tryz.underlying104 (hval 3 104 v3 rfl rfl)
 have bk := r3
 have TI : ∀ x ∈ p3, x.block < W.heap.size := by obtain ⟨m, hm⟩ := bk; exact DataW.trod_lt m _ _ _ hm
 obtain ⟨ew, h3, cM⟩ : ∃ xs, aj ag.i64 W.fr (.slice s3 m3 c3) xs ∧ GH xs := by
  obtain ⟨fuel, hf⟩ := r3
  exact dR.arr Up hf (x4 EG 3 (by simp) (by simp))
 refine ((WL q0 h1 h2 h3 hH hK) W.rR (Fr.bY _) W (Holds.Kw W)).mono fun e W' ⟨ax, h, hw⟩ => ?_
 cases e with
 | returned v =>
  obtain ⟨rfl, rfl⟩ := h
  have y6 := hw.below
  exact ⟨_, rfl, _, _, _, [], _, [], OZ, trodAll_mk1 (shut_bool Tryz.underlying4 _), (trodAll_cons_mk (shut_int Tryz.underlying3 w0) (trodAll_cons_mk (Below.trod laidOut (by kernel_rfl) (of_decide_eq_true (by kernel_rfl)) k1 y6 TG) (trodAll_cons_mk (Below.trod laidOut (by kernel_rfl) (of_decide_eq_true (by kernel_rfl)) k2 y6 TH) (trodAll_cons_mk (Below.trod laidOut (by kernel_rfl) (of_decide_eq_true (by kernel_rfl)) bk y6 TI) trodAll_mk0)))), rfl, y6.frame _, fun h => by cases h⟩
 | panicked _ => exact h.elim
 | outgrown => exact h.elim
theorem fE {a b : Bool} (ha : a = true) (hb : b = true) : (a && b) = true := by rw [ha, hb]; rfl
theorem closed : joinedFacts Tryz.pinned.checked.prog 11 Tryz.f11 Rows.sessionFindsSpec Rows.sessionFindsRow = true := fE (fE (fE (fE (fE (fE (fE (fE (fE (fE (fE (fE (fE (fE (fE (fE (fE (fE (fE (fE (fE (fE (fE (fE (fE (fE (fE (fE (fE (fE (fE (Sn) Sq) SB) SM) SP) SQ) SR) SS) SU) SV) Sr) Ss) St) Su) Sv) Sw) Sx) Sy) Sz) SA) SC) SD) SE) SF) SG) SH) SI) SJ) SK) SL) SN) SO
theorem over : Rows.sessionFindsRow.holds Tryz.pinned (OpenSpec.ofChange Rows.sessionFindsSpec) :=
 OpenClaim.holds_of_wide 11 Tryz.f11 rfl rfl rfl rfl rfl rfl rfl ⟨rfl, rfl, rfl, rfl, rfl⟩ rfl rfl rfl rfl rfl (by kernel_rfl) Tryz.func11 closed
  (of_decide_eq_true (by kernel_rfl)) (by unfold Func.isWrapper; first | (rw [if_pos (by decide +kernel)]; kernel_rfl) | (rw [if_neg (by decide +kernel)]; exact ⟨rfl, rfl⟩))
  (fun os started H enc _ => lifted os started H enc)
theorem proved : Rows.SessionFindsCardSaid :=
 Claim7.holds_tied_plain_at .later [] [.data, .data, .data, .pinned] true (true, "c6c8a51ec12fc40a09badfac04dc547d3b235d0aa19123fb9236b4b20d0729aa") true
  over (fun _ h => by cases h) No (fun _ h => by cases h) sessionFinds_row_tie rfl ⟨rfl, rfl⟩ Nk rfl
  (fun f fn hf hfn => by
   obtain rfl : f = 11 := Option.some.inj (Nl.symm.trans hf) |>.symm
   obtain rfl : fn = Tryz.f11 := (Option.some.inj (Tryz.func11.symm.trans hfn)).symm
   exact ⟨Nj, fun j t ht => by
    rw [Tryz.params11] at ht
    have hm : t ∈ [3, 25, 25, 104] := by simpa using Array.mem_of_getElem? ht
    have hall : ([3, 25, 25, 104].all fun u => !Tryz.prog.wantsStandIn u) = true := Nn
    exact (show Tryz.prog.wantsStandIn t = false by simpa using List.all_eq_true.1 hall t hm)⟩)
  Ni
#print axioms proved
end Go.Proofs.YtojafegjlahajaaGreatDoor.sessionFinds
