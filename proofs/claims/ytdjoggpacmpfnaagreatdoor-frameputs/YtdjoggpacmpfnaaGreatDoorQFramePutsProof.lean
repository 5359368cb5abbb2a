/- Proved: whatever its input, FramePuts of buttresslaw17 returns true, and its input reads as it did; no condition beside the given row's own. (The frame is the kit's shell's.) -/
import Derived.WalkKit
import Derived.ProofKit
import Derived.OpenShut
import Derived.ShutString
import Derived.ChangeOld
import Derived.Below
import Derived.SizedLaws
import Derived.Carry
import Derived.Test.YtdjoggpacmpfnaaGreatDoorQFramePutsFacts3
import Derived.Test.YtdjoggpacmpfnaaGreatDoorQFramePutsFacts2
import Derived.Test.YtdjoggpacmpfnaaGreatDoorQFramePutsFacts1
import Derived.Test.YtdjoggpacmpfnaaGreatDoorQFramePutsFacts0
import Derived.Test.YtdjoggpacmpfnaaGreatDoorTie
import Derived.LaidMore
import Derived.LaidLaws
import Derived.LaidHandle
import Derived.Stop.Joined
import Derived.SevenTiedAt
import GoSem.PinnedTables
import Derived.Test.YtdjoggpacmpfnaaGreatDoorQFlaw1
namespace Go.Proofs.YtdjoggpacmpfnaaGreatDoor.framePuts
open Go.ChangeShapes Go.WideShapes Go.ChangeAt Go.RowKit Go.Sp
open Go.ChangeMaps (open_string shut_string)
set_option linter.unusedVariables false
set_option maxRecDepth 100000
theorem own : ownKnob Tryz.prog.godebug = none := by kernel_rfl
theorem laidOut : laidOutB Tryz.prog = true := by kernel_rfl
theorem ZK : dK Tryz.prog 39 ag.i64 aS := dK.i64 Tryz.underlying39
theorem ZN : dK Tryz.prog 5 ag.u8 kC := dK.u8 Tryz.underlying5
abbrev qh : Type := List UInt8
abbrev rC : ag qh := (ag.slice ag.u8)
abbrev rB : qh → Prop := (uu kC)
theorem tT : dK Tryz.prog 22 rC rB := dK.slice ZN Tryz.underlying22 (by kernel_rfl) (of_decide_eq_true (by kernel_rfl)) (by decide)
theorem tU : dK Tryz.prog 3 ag.i64 aS := dK.i64 Tryz.underlying3
def fu {α β : Type} (Q : α → Prop) (R : β → Prop) (x : α × β) : Prop := Q x.1 ∧ R x.2
theorem dO.fC {P : Program} {f : Field} {fs : List Field} {off : Nat} {α β : Type} {T : ag α} {qn : ag β} {Q : α → Prop} {R : β → Prop} (ho : f.offset = off) (hc : P.cellsOf f.type = T.k) (h1 : dK P f.type T Q) (h2 : dO P fs (off + T.k) qn R) : dO P (f :: fs) off (ag.prod T qn) (fu Q R) := dO.cons ho hc h1 h2
abbrev y2 : Type := Int × Int × Int × qh × qh × Unit
abbrev ze : ag y2 := (ag.prod ag.i64 (ag.prod ag.i64 (ag.prod ag.i64 (ag.prod rC (ag.prod rC ag.unit)))))
abbrev zb : y2 → Prop := (fu aS (fu aS (fu aS (fu rB (fu rB kC)))))
theorem Ja : dK Tryz.prog 27 ze zb := by refine dK.struct (T := ze) (Q := zb) ?_ Tryz.underlying27 (by kernel_rfl); exact (dO.fC rfl (by kernel_rfl) tU (dO.fC rfl (by kernel_rfl) tU (dO.fC rfl (by kernel_rfl) tU (dO.fC rfl (by kernel_rfl) tT (dO.fC rfl (by kernel_rfl) tT dO.nil)))))
abbrev El : Type := y2 × y2 × Unit
abbrev EI : ag El := (ag.prod ze (ag.prod ze ag.unit))
abbrev Ez : El → Prop := (fu zb (fu zb kC))
theorem ZJ : dK Tryz.prog 38 EI Ez := by refine dK.struct (T := EI) (Q := Ez) ?_ Tryz.underlying38 (by kernel_rfl); exact (dO.fC rfl (by kernel_rfl) Ja (dO.fC rfl (by kernel_rfl) Ja dO.nil))
theorem ZL : dK Tryz.prog 4 ag.bool kC := dK.bool Tryz.underlying4
abbrev Eb : Type := Int × Int × Unit
abbrev EB : ag Eb := (ag.prod ag.i64 (ag.prod ag.i64 ag.unit))
abbrev Es : Eb → Prop := (fu aS (fu aS kC))
theorem Zx : dK Tryz.prog 115 EB Es := by refine dK.struct (T := EB) (Q := Es) ?_ Tryz.underlying115 (by kernel_rfl); exact (dO.fC rfl (by kernel_rfl) tU (dO.fC rfl (by kernel_rfl) tU dO.nil))
abbrev Ec : Type := List Eb
abbrev KR : ag Ec := (ag.slice EB)
abbrev KN : Ec → Prop := (uu Es)
theorem Zy : dK Tryz.prog 116 KR KN := dK.slice Zx Tryz.underlying116 (by kernel_rfl) (of_decide_eq_true (by kernel_rfl)) (by decide)
def xB (s : List UInt8) : Prop := s.length ≤ 140737488351232
theorem A0 : dK Tryz.prog 9 ag.str xB := dK.str Tryz.underlying9
abbrev Ed : Type := List UInt8 × Int × Int × Ec × Bool × qh × qh × Unit
abbrev EC : ag Ed := (ag.prod ag.str (ag.prod ag.i64 (ag.prod ag.i64 (ag.prod KR (ag.prod ag.bool (ag.prod rC (ag.prod rC ag.unit)))))))
abbrev Et : Ed → Prop := (fu xB (fu aS (fu aS (fu KN (fu kC (fu rB (fu rB kC)))))))
theorem Zz : dK Tryz.prog 118 EC Et := by refine dK.struct (T := EC) (Q := Et) ?_ Tryz.underlying118 (by kernel_rfl); exact (dO.fC rfl (by kernel_rfl) A0 (dO.fC rfl (by kernel_rfl) tU (dO.fC rfl (by kernel_rfl) tU (dO.fC rfl (by kernel_rfl) Zy (dO.fC rfl (by kernel_rfl) ZL (dO.fC rfl (by kernel_rfl) tT (dO.fC rfl (by kernel_rfl) tT dO.nil)))))))
abbrev BH : Type := List Ed
abbrev EH : ag BH := (ag.slice EC)
abbrev Ey : BH → Prop := (uu Et)
theorem Ov : dK Tryz.prog 36 EH Ey := dK.slice Zz Tryz.underlying36 (by kernel_rfl) (of_decide_eq_true (by kernel_rfl)) (by decide)
abbrev Ee : Type := List UInt8 × BH × Unit
abbrev ED : ag Ee := (ag.prod ag.str (ag.prod EH ag.unit))
abbrev Eu : Ee → Prop := (fu xB (fu Ey kC))
theorem ZA : dK Tryz.prog 120 ED Eu := by refine dK.struct (T := ED) (Q := Eu) ?_ Tryz.underlying120 (by kernel_rfl); exact (dO.fC rfl (by kernel_rfl) A0 (dO.fC rfl (by kernel_rfl) Ov dO.nil))
abbrev Ej : Type := List Ee
abbrev KU : ag Ej := (ag.slice ED)
abbrev KQ : Ej → Prop := (uu Eu)
theorem ZH : dK Tryz.prog 33 KU KQ := dK.slice ZA Tryz.underlying33 (by kernel_rfl) (of_decide_eq_true (by kernel_rfl)) (by decide)
theorem ZG : dK Tryz.prog 32 ag.u8 kC := dK.u8 Tryz.underlying32
abbrev Ek : Type := UInt8 × qh × qh × Ej × Unit
abbrev EG : ag Ek := (ag.prod ag.u8 (ag.prod rC (ag.prod rC (ag.prod KU ag.unit))))
abbrev Ex : Ek → Prop := (fu kC (fu rB (fu rB (fu KQ kC))))
theorem ZI : dK Tryz.prog 35 EG Ex := by refine dK.struct (T := EG) (Q := Ex) ?_ Tryz.underlying35 (by kernel_rfl); exact (dO.fC rfl (by kernel_rfl) ZG (dO.fC rfl (by kernel_rfl) tT (dO.fC rfl (by kernel_rfl) tT (dO.fC rfl (by kernel_rfl) ZH dO.nil))))
abbrev Ef : Type := List UInt8 × qh × Unit
abbrev EE : ag Ef := (ag.prod ag.str (ag.prod rC ag.unit))
abbrev Ev : Ef → Prop := (fu xB (fu rB kC))
theorem ZB : dK Tryz.prog 122 EE Ev := by refine dK.struct (T := EE) (Q := Ev) ?_ Tryz.underlying122 (by kernel_rfl); exact (dO.fC rfl (by kernel_rfl) A0 (dO.fC rfl (by kernel_rfl) tT dO.nil))
abbrev Eh : Type := List Ef
abbrev KT : ag Eh := (ag.slice EE)
abbrev KP : Eh → Prop := (uu Ev)
theorem ZE : dK Tryz.prog 29 KT KP := dK.slice ZB Tryz.underlying29 (by kernel_rfl) (of_decide_eq_true (by kernel_rfl)) (by decide)
abbrev Eg : Type := List qh
abbrev KS : ag Eg := (ag.slice rC)
abbrev KO : Eg → Prop := (uu rB)
theorem ZD : dK Tryz.prog 28 KS KO := dK.slice tT Tryz.underlying28 (by kernel_rfl) (of_decide_eq_true (by kernel_rfl)) (by decide)
abbrev Ei : Type := Eg × Eh × Unit
abbrev EF : ag Ei := (ag.prod KS (ag.prod KT ag.unit))
abbrev Ew : Ei → Prop := (fu KO (fu KP kC))
theorem ZF : dK Tryz.prog 31 EF Ew := by refine dK.struct (T := EF) (Q := Ew) ?_ Tryz.underlying31 (by kernel_rfl); exact (dO.fC rfl (by kernel_rfl) ZD (dO.fC rfl (by kernel_rfl) ZE dO.nil))
theorem ZC : dK Tryz.prog 25 ag.u8 kC := dK.u8 Tryz.underlying25
abbrev KB : Type := UInt8 × Int × Int × List UInt8 × List UInt8 × y2 × qh × Ei × Ek × BH × El × Int × Unit
abbrev EJ : ag KB := (ag.prod ag.u8 (ag.prod ag.i64 (ag.prod ag.i64 (ag.prod ag.str (ag.prod ag.str (ag.prod ze (ag.prod rC (ag.prod EF (ag.prod EG (ag.prod EH (ag.prod EI (ag.prod ag.i64 ag.unit))))))))))))
abbrev EA : KB → Prop := (fu kC (fu aS (fu aS (fu xB (fu xB (fu zb (fu rB (fu Ew (fu Ex (fu Ey (fu Ez (fu aS kC))))))))))))
theorem ZM : dK Tryz.prog 41 EJ EA := by refine dK.struct (T := EJ) (Q := EA) ?_ Tryz.underlying41 (by kernel_rfl); exact (dO.fC rfl (by kernel_rfl) ZC (dO.fC rfl (by kernel_rfl) tU (dO.fC rfl (by kernel_rfl) tU (dO.fC rfl (by kernel_rfl) A0 (dO.fC rfl (by kernel_rfl) A0 (dO.fC rfl (by kernel_rfl) Ja (dO.fC rfl (by kernel_rfl) tT (dO.fC rfl (by kernel_rfl) ZF (dO.fC rfl (by kernel_rfl) ZI (dO.fC rfl (by kernel_rfl) Ov (dO.fC rfl (by kernel_rfl) ZJ (dO.fC rfl (by kernel_rfl) ZK dO.nil))))))))))))
def Z9 : DataW Unit → Array Value
 | .agg l => (l.map fun | .lit (.int k n) => Value.int k n | _ => .bool false).toArray
 | _ => #[]
noncomputable def Z8 (k : Nat) (cs : Array Value) (w : World) : World :=
 {w with heap := w.heap.modify k fun
   | .cells _ t frozen => .cells cs t frozen
   | o => o }
noncomputable def NC (os : Os) : World := Z8 2 (Z9 ((Rows.framePutsRow.laid.lookup "unicode/utf8.first").getD .nil)) (World.doorLaid Tryz.prog 4000 os)
theorem met (os : Os) (args : Array Value) : laidMetH Tryz.prog Rows.framePutsRow.laid ((NC os).forCall (fun _ _ => 0) ⟨#[], args, []⟩).memory :=
 laidMetH_of_parts3 (fuel := 8) (laidMet_of_run' 8 (by kernel_rfl) (by kernel_rfl)) (by kernel_rfl) (by kernel_rfl)
theorem lifted (os : Os) (started : os.Started) (H : Type) (enc : TypeId × Value → H) :
  ReturnsInHanded {} Tryz.checked os 5 .any (fun w args => (Rows.framePutsSpec.pre enc Tryz.prog Tryz.f5 [] false w args ∧ laidMetH Tryz.prog Rows.framePutsRow.laid w) ∧ sizedMet enc Tryz.prog Tryz.f5 (OpenSpec.ofChange Rows.framePutsSpec) false w args)
   (Rows.framePutsSpec.post enc Tryz.prog Tryz.f5 false true false false) := by
 refine returnsInHanded_of_change_and (C := Tryz.checked) (X := fun w _ => laidMetH Tryz.prog Rows.framePutsRow.laid w) (fun _ _ _ hh h => h.of_heap hh) own started (by kernel_rfl) Tryz.func5
  (ChangeSpec.witness_shaped (enc := enc) (C := Tryz.checked) (os := os) (X := fun w _ => laidMetH Tryz.prog Rows.framePutsRow.laid w) false (NC os) #[.agg #[.int .u8 0, .int .i64 0, .int .i64 0, .string ⟨#[]⟩, .string ⟨#[]⟩, .int .i64 0, .int .i64 0, .int .i64 0, .slice none 0 0, .slice none 0 0, .slice none 0 0, .slice none 0 0, .slice none 0 0, .int .u8 0, .slice none 0 0, .slice none 0 0, .slice none 0 0, .slice none 0 0, .int .i64 0, .int .i64 0, .int .i64 0, .slice none 0 0, .slice none 0 0, .int .i64 0, .int .i64 0, .int .i64 0, .slice none 0 0, .slice none 0 0, .int .i64 0]] 8 rfl (World.shaped_of_RefB (by kernel_rfl) (by kernel_rfl)) (by kernel_rfl) (by kernel_rfl) (by kernel_rfl) (met os _)) ?_
 intro W base args ds gs before WN hW agq MZ hL _
 have aU : cg W.fr ⟨0, 0, none⟩ (cz fq) := ND (n := "buttress/sha.begin") (vs := fq) (t := 354) (e := 123) hL (List.mem_of_getElem? (i := 1) (by kernel_rfl)) (by kernel_rfl) (by kernel_rfl) (by kernel_rfl) (by kernel_rfl) (by kernel_rfl) (by kernel_rfl)
 have hK : cg W.fr ⟨1, 0, none⟩ (cz gW) := ND (n := "buttress/sha.rest") (vs := gW) (t := 367) (e := 123) hL (List.mem_of_getElem? (i := 2) (by kernel_rfl)) (by kernel_rfl) (by kernel_rfl) (by kernel_rfl) (by kernel_rfl) (by kernel_rfl) (by kernel_rfl)
 have hval : ∀ (j : Nat) t v, Tryz.f5.params[j]? = some t → args[j]? = some v → Value.okWide Tryz.prog W .any base t v := WN
 have Ul := hW
 obtain ⟨p, q, Ug, hV, rfl, hfz, fm⟩ := hW
 have hA : DataW.TrodAll enc Tryz.prog W 0 (fun _ => true) true Tryz.f5.params.toList args.toList ds p := Ug
 rw [Tryz.params5] at hA hval MZ
 obtain ⟨v0, aiF, d0, af3, ZT, q0, hargs, rfl, rfl, gq, t0⟩ := trodAll_cons hA
 obtain ⟨rfl, rfl, rfl⟩ := trodAll_nil t0
 obtain rfl : args = #[v0] := by cases args; simp_all
 obtain ⟨rfl, rfl⟩ := trodVars_none hV
 have Wy : ∀ n ∈ DataW.weightsEach _ _ _, n ≤ reachBytes := fun n hn => by simpa using List.all_eq_true.mp MZ n hn
 obtain ⟨abT, rfl, YS⟩ := okWide_struct Tryz.underlying41 (hval 0 41 v0 rfl rfl)
 have k0 := gq
 have YR : ∀ x ∈ ZT, x.block < W.heap.size := by obtain ⟨m, hm⟩ := k0; exact DataW.trod_lt m _ _ _ hm
 obtain ⟨x0, h0, q0⟩ : ∃ x, (EJ).rel W.fr abT.toList x ∧ EA x := by
  obtain ⟨fuel, hf⟩ := gq
  exact ZM _ _ _ _ _ _ _ _ _ hf (ID Wy 0 (by simp) (by simp))
 refine ((Ts h0 ⟨q0.2.2.2.1, q0.2.2.2.2.1, q0.2.2.2.2.2.1.2.2.2.1.1, q0.2.2.2.2.2.1.2.2.2.2.1.1, q0.2.2.2.2.2.2.1.1, ⟨q0.2.2.2.2.2.2.2.1.1.1, fun y hy => (q0.2.2.2.2.2.2.2.1.1.2 y hy).1⟩, ⟨q0.2.2.2.2.2.2.2.1.2.1.1, fun y hy => have u := q0.2.2.2.2.2.2.2.1.2.1.2 y hy; ⟨u.1, u.2.1.1⟩⟩, q0.2.2.2.2.2.2.2.2.1.2.1.1, q0.2.2.2.2.2.2.2.2.1.2.2.1.1, ⟨q0.2.2.2.2.2.2.2.2.1.2.2.2.1.1, fun y hy => have u := q0.2.2.2.2.2.2.2.2.1.2.2.2.1.2 y hy; ⟨u.1, ⟨u.2.1.1, fun z hz => have w := u.2.1.2 z hz; ⟨w.1, w.2.2.2.1.1, w.2.2.2.2.2.1.1, w.2.2.2.2.2.2.1.1⟩⟩⟩⟩, ⟨q0.2.2.2.2.2.2.2.2.2.1.1, fun y hy => have u := q0.2.2.2.2.2.2.2.2.2.1.2 y hy; ⟨u.1, u.2.2.2.1.1, u.2.2.2.2.2.1.1, u.2.2.2.2.2.2.1.1⟩⟩, q0.2.2.2.2.2.2.2.2.2.2.1.1.2.2.2.1.1, q0.2.2.2.2.2.2.2.2.2.2.1.1.2.2.2.2.1.1, q0.2.2.2.2.2.2.2.2.2.2.1.2.1.2.2.2.1.1, q0.2.2.2.2.2.2.2.2.2.2.1.2.1.2.2.2.2.1.1⟩ aU hK) W.CJ (Fr.bH _) W (ax.Zq W)).mono fun e W' ⟨au, h, hw⟩ => ?_
 cases e with
 | returned v =>
  obtain ⟨rfl, rfl⟩ := h
  have Lb := hw.below
  exact ⟨_, rfl, _, _, _, [], _, [], Ul, trodAll_mk1 (shut_bool Tryz.underlying4 _), (trodAll_cons_mk (Below.trod laidOut (by kernel_rfl) (of_decide_eq_true (by kernel_rfl)) k0 Lb YR) trodAll_mk0), rfl, Lb.frame _, fun h => by cases h⟩
 | panicked _ => exact h.elim
 | outgrown => exact h.elim
theorem gw {a b : Bool} (ha : a = true) (hb : b = true) : (a && b) = true := by rw [ha, hb]; rfl
theorem closed : joinedFacts Tryz.pinned.checked.prog 5 Tryz.f5 Rows.framePutsSpec Rows.framePutsRow = true := gw (gw (gw (gw (gw (gw (gw (gw (gw (gw (gw (gw (gw (gw (gw (gw (gw (gw (gw (gw (gw (gw (gw (gw (gw (gw (gw (gw (gw (gw (gw (Xq) Xr) XC) XN) XQ) XR) XS) XT) XU) XV) Xs) Xt) Xu) Xv) Xw) Xx) Xy) Xz) XA) XB) XD) XE) XF) XG) XH) XI) XJ) XK) XL) XM) XO) XP
theorem over : Rows.framePutsRow.holds Tryz.pinned (OpenSpec.ofChange Rows.framePutsSpec) :=
 OpenClaim.holds_of_wide 5 Tryz.f5 rfl rfl rfl rfl rfl rfl rfl ⟨rfl, rfl, rfl, rfl, rfl⟩ rfl rfl rfl rfl rfl (by kernel_rfl) Tryz.func5 closed
  (of_decide_eq_true (by kernel_rfl)) (by unfold Func.isWrapper; first | (rw [if_pos (by decide +kernel)]; kernel_rfl) | (rw [if_neg (by decide +kernel)]; exact ⟨rfl, rfl⟩))
  (fun os started H enc _ => lifted os started H enc)
theorem proved : Rows.FramePutsCardSaid :=
 Claim7.holds_tied_plain_at .later [] [.data, .data, .data, .pinned] true (true, "62a663be3302ebcb3b073617e60359e0d7800180a5ea62a79adff8b79735354f") true
  over (fun _ h => by cases h) RJ (fun _ h => by cases h) framePuts_row_tie rfl ⟨rfl, rfl⟩ RG rfl
  (fun f fn hf hfn => by
   obtain rfl : f = 5 := Option.some.inj (RH.symm.trans hf) |>.symm
   obtain rfl : fn = Tryz.f5 := (Option.some.inj (Tryz.func5.symm.trans hfn)).symm
   exact ⟨RF, fun j t ht => by
    rw [Tryz.params5] at ht
    have hm : t ∈ [41] := by simpa using Array.mem_of_getElem? ht
    have hall : ([41].all fun u => !Tryz.prog.wantsStandIn u) = true := RI
    exact (show Tryz.prog.wantsStandIn t = false by simpa using List.all_eq_true.1 hall t hm)⟩)
  RE
#print axioms proved
end Go.Proofs.YtdjoggpacmpfnaaGreatDoor.framePuts
