/- Texts of this proof. -/
import Derived.Test.YtodhbhanmdfdeaaGreatQFc
import Derived.Test.YtodhbhanmdfdeaaGreatQGet8
import Derived.Test.YtodhbhanmdfdeaaGreatQSpRs4
import Derived.Test.YtodhbhanmdfdeaaGreatQSpAuto
open Go Go.Sp
set_option maxRecDepth 100000
attribute [local irreducible] obj Own OwnP
namespace Go.Proofs.YtodhbhanmdfdeaaGreat
theorem sequal_c {r : Fr} {va vb : Value} {xs ys : List UInt8} (ha : Arr Rp.u8 r va xs) (hb : Arr Rp.u8 r vb ys) :
  Con Tryz.prog 92 #[va, vb] r [] (Ret fun v η => v = .bool (decide (xs = ys)) ∧ η = []) := by
 refine Con.of (n := 26) _ rfl Tryz.func92 rfl rfl rfl fun g hg R hR => ?_
 have ha := ha.mono hg
 have hb := hb.mono hg
 have l1 := ha.bound
 have l2 := hb.bound
 obtain ⟨a1, c1, rfl⟩ := ha.shape
 obtain ⟨a2, c2, rfl⟩ := hb.shape
 refine S.seq <| S.region rfl <| O.q 1 rfl <| O.nil <| S.seq <| S.seq <| S.region rfl <| O.q 1 rfl <| O.op (.p rfl) (.len rfl Tryz.underlying31 rfl) <| O.q 1 rfl <| O.op (.p rfl) (.len rfl Tryz.underlying31 rfl) <| O.op (.p rfl) (.neq rfl rfl) <| O.nil ?_
 first | refine S.condD rfl (fun h10 => ?_) (fun h10 => ?_) | refine S.condB rfl (fun h10 => ?_) (fun h10 => ?_)
 ·refine S.seq <| S.region rfl <| O.q 1 rfl <| O.nil <| S.ret Tryz.results92 rfl fun w hw => hR _ _ w ?_ hw
  exact ⟨congrArg Value.bool (decide_eq_false (fun q => h10 (by rw [q]))).symm, rfl⟩
 ·have h11 : xs.length = ys.length := by omega
  refine S.skip <| S.seq <| S.seq <| S.region rfl <| O.q 1 rfl <| O.op (.p rfl) (.len rfl Tryz.underlying31 rfl) <| O.q 1 rfl <| O.nil <| S.block <| S.loopK (ι := Nat) (fun i => i ≤ xs.length ∧ xs.take i = ys.take i) (fun i => [(13, .int .i64 (i : Int))]) [(0, _), (1, _), (12, _)] (fun i => []) (fun i => xs.length - i) (0) (by exact ⟨by omega, rfl⟩) (.cons rfl (.nil)) (.cons rfl (.cons rfl (.cons rfl (.nil)))) rfl fun i hx ih => ?_
  have hm1 := meltRefl (g := g)
  obtain ⟨hi, he⟩ := hx
  refine S.seq <| S.region rfl <| O.op (.p rfl) (.lss rfl rfl) <| O.nil (S.seq ?_)
  first | refine S.condD rfl (fun h14 => ?_) (fun h14 => ?_) | refine S.condB rfl (fun h14 => ?_) (fun h14 => ?_)
  ·have hlt : i < xs.length := by omega
   refine S.skip <| S.seq <| S.block <| S.seq <| S.region rfl <| O.q 2 rfl <| O.nil <| S.seq <| S.regionD (L := [0, 1, 2, 3, 4, 5, 6, 7, 8]) F.mixed (by kernel_rfl) <| OD.q 2 rfl <| OD.ia (.p rfl) Tryz.underlying31 F.size5 rfl rfl rfl (by first | assumption | exact Arr.mono hg (by assumption) | exact Arr.left (by assumption) | exact Arr.left (Arr.mono hg (by assumption))) (h := fun p18 cs18 hp18 hr18 => ?_)
   cases hr18
   refine .quiet (.p rfl) rfl (fun _ => .loadAt F.flat5 rfl hp18 rfl) ?_
   refine OD.q 2 rfl <| OD.ia (.p rfl) Tryz.underlying31 F.size5 rfl rfl rfl (by first | assumption | exact Arr.mono hg (by assumption) | exact Arr.left (by assumption) | exact Arr.left (Arr.mono hg (by assumption))) (h := fun p22 cs22 hp22 hr22 => ?_)
   cases hr22
   refine .quiet (.p rfl) rfl (fun _ => .loadAt F.flat5 rfl hp22 rfl) ?_
   refine .quiet (.p rfl) rfl (fun _ => .neq rfl rfl) <| ODx.nil ?_
   first | refine S.condD rfl (fun h24 => ?_) (fun h24 => ?_) | refine S.condB rfl (fun h24 => ?_) (fun h24 => ?_)
   ·refine S.seq <| S.region rfl <| O.q 1 rfl <| O.nil <| S.ret Tryz.results92 rfl fun w hw => hR _ _ w ?_ hw
    exact ⟨congrArg Value.bool (decide_eq_false (fun q => by subst q; exact h24 rfl)).symm, rfl⟩
   ·refine S.skip <| S.inBlock <| S.region rfl <| O.op (.p rfl) (.add rfl rfl (IntWalk.i64_in _ (by omega))) <| O.q 1 rfl <| O.nil ?_
    exact S.wk (ih (i + 1) (by (refine ⟨hlt, ?_⟩; rw [List.take_succ_eq_append_getElem hlt, List.take_succ_eq_append_getElem (by omega), he]; congr 2; exact UInt8.toNat_inj.1 (by omega))) (by omega))
  ·refine S.exit rfl <| S.seq <| S.region rfl <| O.q 1 rfl <| O.nil <| S.ret Tryz.results92 rfl fun w hw => hR _ _ w ?_ hw
   refine ⟨congrArg Value.bool (decide_eq_true ?_).symm, rfl⟩
   have : i = xs.length := by omega
   subst this
   rwa [List.take_of_length_le (Nat.le_refl _), List.take_of_length_le (by omega)] at he
abbrev heldV (v0 v1 v2 v3 : Value) : List Value := [v0, v1, v2, v3]
abbrev heldWs (x : HeldT) (v0 v1 v2 v3 : Value) : List SProp := [ListP (LeafG tys) 49 v0 x.1, ListP (RootG tys) 52 v1 x.2.1, ListP (EvdG tys) 55 v2 x.2.2.1, OwnP Rp.i64 3 v3 x.2.2.2.1]
def HeldK (b : List UInt8) (v : Value) (η : List SProp) : Prop := ∃ x a0 c0 a1 c1 a2 c2 a3 c3, hGet b = some x ∧ v = .agg (heldV (.slice a0 x.1.length c0) (.slice a1 x.2.1.length c1) (.slice a2 x.2.2.1.length c2) (.slice a3 x.2.2.2.1.length c3)).toArray ∧ η = heldWs x (.slice a0 x.1.length c0) (.slice a1 x.2.1.length c1) (.slice a2 x.2.2.1.length c2) (.slice a3 x.2.2.2.1.length c3)
theorem hget1_c {r : Fr} {p : Nat} {va : Value} {b : List UInt8} (hp : At r ⟨p, 0, none⟩ [va]) (ha : Arr Rp.u8 r va b) (hl : b.length ≤ 1000000000) (hB : GetB b) :
  Con Tryz.prog 80 (#[] ++ #[] ++ #[.pointer (some ⟨p, 0, none⟩)]) r [] (RetP (fun v η => HeldK b v η) (fun ch η => ∃ z, ch = errP 32 z ∧ (hGet b = none ∧ z = 4) ∧ η = [])) := by
 refine Con.of (n := 36) [.pointer (some ⟨p, 0, none⟩)] rfl Tryz.func80 rfl rfl rfl fun g hg R hR => ?_
 have hp := hp.mono hg
 have ha := ha.mono hg
 have hbd := ha.bound
 obtain ⟨ax, cx, rfl⟩ := ha.shape
 refine S.seq <| S.region rfl <| O.opE (.p rfl) (.alloc (cs := [.slice none 0 0, .slice none 0 0, .slice none 0 0, .slice none 0 0]) Tryz.zeroValue27 rfl) ?_
 rintro _ _ ⟨b1, rfl, rfl⟩
 refine O.nil <| S.seq <| S.region rfl <| O.op (.p rfl) (.loadAt F.flat31 rfl hp rfl) ?_
 refine O.call0 (.p rfl) rfl F.ok81 rfl rfl (rdNew_c (by first | assumption | exact Arr.mono hg (by assumption) | exact Arr.left (by assumption) | exact Arr.left (Arr.mono hg (by assumption))) (by first | omega | (simp; done) | (simp; omega) | decide)) ?_
 rintro v5 _ ⟨b5, rfl, rfl⟩
 try simp only [zx1, zx2, zx3]
 refine O.op (.p rfl) (.build (cs := [_]) Tryz.underlying129 rfl rfl rfl rfl rfl) <| O.opE (.p rfl) (.alloc (cs := [.pointer none]) Tryz.zeroValue129 rfl) ?_
 rintro _ _ ⟨b2, rfl, rfl⟩
 refine O.opU rfl (.storeObj (by kernel_rfl) rfl rfl rfl rfl (by repeat (first | exact zh | apply zt)) (by first | (simp; done) | (simp [Value.cells]; done))) ?_
 refine O.nil <| S.seq <| S.frzO (by repeat (first | exact zh | apply zt)) fun g hs hm hb2 => ?_
 replace hg := Fr.sub_trans hg hs
 replace hR := melted hR hm
 try replace hp := hp.mono hs
 try replace ha := ha.mono hs
 clear hs hm
 refine S.regionD (L := [0, 1, 2, 4, 5, 6, 8, 9, 10, 12, 13, 14, 15, 3, 7, 11, 16, 17, 18, 19]) F.mixed (by kernel_rfl) ?_
 refine .quiet (.p rfl) rfl (fun _ => .loadAgg Tryz.isAgg129 (by kernel_rfl) rfl hb2) ?_
 refine .quiet (.p rfl) rfl (fun _ => .loadAgg Tryz.isAgg129 (by kernel_rfl) rfl hb2) ?_
 refine .quiet (.p rfl) rfl (fun _ => .mkFunc rfl rfl) <| .quiet (.p rfl) rfl (fun _ => .loadAgg Tryz.isAgg129 (by kernel_rfl) rfl hb2) ?_
 refine .quiet (.p rfl) rfl (fun _ => .loadAgg Tryz.isAgg129 (by kernel_rfl) rfl hb2) ?_
 refine .quiet (.p rfl) rfl (fun _ => .mkFunc rfl rfl) <| .quiet (.p rfl) rfl (fun _ => .loadAgg Tryz.isAgg129 (by kernel_rfl) rfl hb2) ?_
 refine .quiet (.p rfl) rfl (fun _ => .loadAgg Tryz.isAgg129 (by kernel_rfl) rfl hb2) ?_
 refine .quiet (.p rfl) rfl (fun _ => .mkFunc rfl rfl) <| .quiet (.p rfl) rfl (fun _ => .loadAgg Tryz.isAgg129 (by kernel_rfl) rfl hb2) ?_
 refine .quiet (.p rfl) rfl (fun _ => .fieldAddr F.fld129x0 rfl) <| .quiet (.p rfl) rfl (fun _ => .loadAt F.flat126 rfl hb2 rfl) ?_
 refine .quiet (.p rfl) rfl (fun _ => .mkFunc rfl rfl) <| OD.callPS (.p rfl) (by kernel_rfl) rfl F.ok82 rfl rfl (by repeat (first | exact zh | apply zt)) (someL_c hl) (fun ch η' w hX hW => by (obtain ⟨hb, rfl, rfl⟩ := hX; exact hR _ _ w ⟨4, rfl, ⟨hGet_none (by simp [heldP, hb]), rfl⟩, rfl⟩ hW.drop_all)) ?_
 rintro v10 _ ⟨p0, a10, c10, e0, rfl, rfl⟩
 try simp only [zx1, zx2, zx3]
 have l0 : p0.2.rest.length ≤ 1000000000 := Nat.le_trans (rowP_len leafP_len e0) hl
 refine OD.callPS (.p rfl) (by kernel_rfl) rfl F.ok84 rfl rfl (by repeat (first | exact zh | apply zt)) (someR_c l0) (fun ch η' w hX hW => by (obtain ⟨hb, rfl, rfl⟩ := hX; exact hR _ _ w ⟨4, rfl, ⟨hGet_none (by simp [heldP, e0, hb]), rfl⟩, rfl⟩ hW.drop_all)) ?_
 rintro v14 _ ⟨p1, a14, c14, e1, rfl, rfl⟩
 try simp only [zx1, zx2, zx3]
 have l1 : p1.2.rest.length ≤ 1000000000 := Nat.le_trans (rowP_len ownP_len e1) l0
 refine OD.callPS (.p rfl) (by kernel_rfl) rfl F.ok86 rfl rfl (by repeat (first | exact zh | apply zt)) (someE_c l1) (fun ch η' w hX hW => by (obtain ⟨hb, rfl, rfl⟩ := hX; exact hR _ _ w ⟨4, rfl, ⟨hGet_none (by simp [heldP, e0, e1, hb]), rfl⟩, rfl⟩ hW.drop_all)) ?_
 rintro v18 _ ⟨p2, a18, c18, e2, rfl, rfl⟩
 try simp only [zx1, zx2, zx3]
 have l2 : p2.2.rest.length ≤ 1000000000 := Nat.le_trans (rowP_len proofP_len e2) l1
 refine OD.callPS (.p rfl) (by kernel_rfl) rfl F.ok88 rfl rfl (by repeat (first | exact zh | apply zt)) (someN_c l2) (fun ch η' w hX hW => by (obtain ⟨hb, rfl, rfl⟩ := hX; exact hR _ _ w ⟨4, rfl, ⟨hGet_none (by simp [heldP, e0, e1, e2, hb]), rfl⟩, rfl⟩ hW.drop_all)) ?_
 rintro v23 _ ⟨p3, a23, c23, e3, rfl, rfl⟩
 try simp only [zx1, zx2, zx3]
 refine .quiet (.p rfl) rfl (fun _ => .build (cs := [_, _, _, _]) Tryz.underlying27 rfl rfl rfl rfl rfl) <| .lazy rfl (by kernel_rfl) rfl fun b3 => ?_
 refine OD.storeObj rfl (by kernel_rfl) (by kernel_rfl) rfl rfl rfl rfl (by repeat (first | exact zh | apply zt)) (by first | (simp; done) | (simp [Value.cells]; done)) ?_
 refine ODx.nil (S.seq ?_)
 have eall : heldP ⟨true, b⟩ = some ((p0.1, p1.1, p2.1, p3.1, ()), p3.2) := by simp [heldP, e0, e1, e2, e3]
 refine S.frzO (by repeat (first | exact zh | apply zt)) fun g hs hm hb3 => ?_
 replace hg := Fr.sub_trans hg hs
 replace hR := melted hR hm
 try replace hp := hp.mono hs
 try replace ha := ha.mono hs
 try replace hb2 := hb2.mono hs
 clear hs hm
 cases ed : p3.2.done with
 | false =>
  have hno : hGet b = none := hGet_not eall (fun q => by rw [ed] at q; exact absurd q.1 (by decide))
  refine S.regionD (L := [0, 1, 2, 3, 4, 6, 5, 7, 8, 9]) F.mixed (by kernel_rfl) ?_
  refine .quiet (.p rfl) rfl (fun _ => .fieldAddr F.fld129x0 rfl) <| .quiet (.p rfl) rfl (fun _ => .loadAt F.flat126 rfl hb2 rfl) ?_
  refine OD.callS (.p rfl) (by kernel_rfl) rfl F.ok91 rfl rfl (by repeat (first | exact zh | apply zt)) rdDone_c ?_
  rintro v27 _ ⟨rfl, rfl⟩
  try simp only [zx1, zx2, zx3]
  refine OD.sF 27 rfl (by exact ed) ?_
  refine OD.q 6 rfl <| OD.callP0 (.p rfl) (by kernel_rfl) rfl F.ok90 rfl rfl (imust_c _) (fun ch η' w hX hW => by (obtain ⟨hb, rfl, rfl⟩ := hX; exact hR _ _ w ⟨4, rfl, ⟨hno, rfl⟩, rfl⟩ hW.drop_all)) ?_
  rintro v34 _ ⟨hb34, rfl, rfl⟩
  try simp only [zx1, zx2, zx3]
  exact absurd hb34 (by decide)
 | true =>
  have hB' := hB _ _ eall ed
  have hg_q0 := hg
  have hR_q0 := hR
  try have hp_q0 := hp
  try have ha_q0 := ha
  try have hb2_q0 := hb2
  try have hb3_q0 := hb3
  refine S.frzH (B := ListP (LeafG tys) 49 (.slice a10 p0.1.length c10) p0.1) (by repeat (first | exact zh | apply zt)) fun gq0 hsq0 ⟨mq0, hmq0, hsmq0⟩ hbq0 => ?_
  replace hg := Fr.sub_trans hg hsq0
  replace hR := backR hR hbq0
  try replace hp := hp.mono hsq0
  try replace ha := ha.mono hsq0
  try replace hb2 := hb2.mono hsq0
  try replace hb3 := hb3.mono hsq0
  have ar0 : Arr LeafRp gq0.h (.slice a10 p0.1.length c10) p0.1 := (ListP.arr hmq0).mono hsmq0
  have hg_q1 := hg
  have hR_q1 := hR
  try have hp_q1 := hp
  try have ha_q1 := ha
  try have hb2_q1 := hb2
  try have hb3_q1 := hb3
  try have ar0_q1 := ar0
  refine S.frzH (B := ListP (RootG tys) 52 (.slice a14 p1.1.length c14) p1.1) (by repeat (first | exact zh | apply zt)) fun gq1 hsq1 ⟨mq1, hmq1, hsmq1⟩ hbq1 => ?_
  replace hg := Fr.sub_trans hg hsq1
  replace hR := backR hR hbq1
  try replace hp := hp.mono hsq1
  try replace ha := ha.mono hsq1
  try replace hb2 := hb2.mono hsq1
  try replace hb3 := hb3.mono hsq1
  try replace ar0 := ar0.mono hsq1
  have ar1 : Arr RootRp gq1.h (.slice a14 p1.1.length c14) p1.1 := (ListP.arr hmq1).mono hsmq1
  have hg_q2 := hg
  have hR_q2 := hR
  try have hp_q2 := hp
  try have ha_q2 := ha
  try have hb2_q2 := hb2
  try have hb3_q2 := hb3
  try have ar0_q2 := ar0
  try have ar1_q2 := ar1
  refine S.frzH (B := ListP (EvdG tys) 55 (.slice a18 p2.1.length c18) p2.1) (by repeat (first | exact zh | apply zt)) fun gq2 hsq2 ⟨mq2, hmq2, hsmq2⟩ hbq2 => ?_
  replace hg := Fr.sub_trans hg hsq2
  replace hR := backR hR hbq2
  try replace hp := hp.mono hsq2
  try replace ha := ha.mono hsq2
  try replace hb2 := hb2.mono hsq2
  try replace hb3 := hb3.mono hsq2
  try replace ar0 := ar0.mono hsq2
  try replace ar1 := ar1.mono hsq2
  have ar2 : Arr EvdRp gq2.h (.slice a18 p2.1.length c18) p2.1 := (ListP.arr hmq2).mono hsmq2
  have hg_q3 := hg
  have hR_q3 := hR
  try have hp_q3 := hp
  try have ha_q3 := ha
  try have hb2_q3 := hb2
  try have hb3_q3 := hb3
  try have ar0_q3 := ar0
  try have ar1_q3 := ar1
  try have ar2_q3 := ar2
  refine S.frzH (B := OwnP Rp.i64 3 (.slice a23 p3.1.length c23) p3.1) (by repeat (first | exact zh | apply zt)) fun gq3 hsq3 ⟨mq3, hmq3, hsmq3⟩ hbq3 => ?_
  replace hg := Fr.sub_trans hg hsq3
  replace hR := backR hR hbq3
  try replace hp := hp.mono hsq3
  try replace ha := ha.mono hsq3
  try replace hb2 := hb2.mono hsq3
  try replace hb3 := hb3.mono hsq3
  try replace ar0 := ar0.mono hsq3
  try replace ar1 := ar1.mono hsq3
  try replace ar2 := ar2.mono hsq3
  have ar3 : Arr Rp.i64 gq3.h (.slice a23 p3.1.length c23) p3.1 := hmq3.arr.mono hsmq3
  have hrel := HeldRp.mk ar0 ar1 ar2 ar3
  cases ew : imgW (p0.1, p1.1, p2.1, p3.1, ()) with
  | none =>
   have hno : hGet b = none := hGet_not eall (fun q => by rw [ew] at q; cases q.2)
   refine S.regionD (L := [0, 1, 2, 3, 4, 6, 5, 7, 8, 9]) F.mixed (by kernel_rfl) ?_
   refine .quiet (.p rfl) rfl (fun _ => .fieldAddr F.fld129x0 rfl) <| .quiet (.p rfl) rfl (fun _ => .loadAt F.flat126 rfl hb2 rfl) ?_
   refine OD.callS (.p rfl) (by kernel_rfl) rfl F.ok91 rfl rfl (by repeat (first | exact zh | apply zt)) rdDone_c ?_
   rintro v27 _ ⟨rfl, rfl⟩
   try simp only [zx1, zx2, zx3]
   refine OD.sT 27 rfl (by exact ed) ?_
   refine OD.q 1 rfl <| .quiet (.g rfl rfl) rfl (fun _ => .loadAgg Tryz.isAgg27 (by kernel_rfl) rfl hb3) ?_
   refine .quiet (.g rfl rfl) rfl (fun _ => .loadAt F.flat31 rfl hp rfl) ?_
   refine OD.callP0 (.g rfl rfl) (by kernel_rfl) rfl F.ok62 rfl rfl ((written_c hrel hB')) (fun ch η' w hX hW => by (obtain ⟨hb, rfl, rfl⟩ := hX; exact hR _ _ w ⟨4, rfl, ⟨hno, rfl⟩, rfl⟩ hW.drop_all)) ?_
   rintro v30 _ ⟨out, a30, c30, eo, rfl, rfl⟩
   try simp only [zx1, zx2, zx3]
   rw [ew] at eo
   cases eo
  | some out =>
   by_cases eq : out = b
   ·have hyes : hGet b = some (p0.1, p1.1, p2.1, p3.1, ()) := hGet_of eall ed (by rw [ew, eq])
    refine S.regionD (L := [0, 1, 2, 3, 4, 6, 5, 7, 8, 9]) F.mixed (by kernel_rfl) ?_
    refine .quiet (.p rfl) rfl (fun _ => .fieldAddr F.fld129x0 rfl) <| .quiet (.p rfl) rfl (fun _ => .loadAt F.flat126 rfl hb2 rfl) ?_
    refine OD.callS (.p rfl) (by kernel_rfl) rfl F.ok91 rfl rfl (by repeat (first | exact zh | apply zt)) rdDone_c ?_
    rintro v27 _ ⟨rfl, rfl⟩
    try simp only [zx1, zx2, zx3]
    refine OD.sT 27 rfl (by exact ed) ?_
    refine OD.q 1 rfl <| .quiet (.g rfl rfl) rfl (fun _ => .loadAgg Tryz.isAgg27 (by kernel_rfl) rfl hb3) ?_
    refine .quiet (.g rfl rfl) rfl (fun _ => .loadAt F.flat31 rfl hp rfl) ?_
    refine OD.callP0 (.g rfl rfl) (by kernel_rfl) rfl F.ok62 rfl rfl ((written_c hrel hB')) (fun ch η' w hX hW => by (exact absurd (ew.symm.trans hX.1) (by simp))) ?_
    rintro v30 _ ⟨out', a30, c30, eo, rfl, rfl⟩
    try simp only [zx1, zx2, zx3]
    obtain rfl : out = out' := Option.some.inj (ew.symm.trans eo)
    refine OD.callB (.g rfl rfl) (by kernel_rfl) rfl F.ok92 rfl rfl (bs := [OwnP Rp.u8 5 (.slice a30 out.length c30) out]) (by repeat (first | exact zsn | (apply zsc; focus (repeat (first | exact zh | apply zt))))) (fun m hm hd => sequal_c (hm.arr.right hd) (ha.left)) ?_
    rintro v32 _ ⟨rfl, rfl⟩
    try simp only [zx1, zx2, zx3]
    refine OD.sT 32 rfl (by simp [eq]) ?_
    refine OD.q 1 rfl <| OD.callP0 (.p rfl) (by kernel_rfl) rfl F.ok90 rfl rfl (imust_c _) (fun ch η' w hX hW => by (exact absurd hX.1 (by decide))) ?_
    rintro v34 _ ⟨hb34, rfl, rfl⟩
    try simp only [zx1, zx2, zx3]
    refine ODx.nil <| S.seq <| S.back hbq3 ?_
    replace hg := hg_q3
    replace hR := hR_q3
    try replace hp := hp_q3
    try replace ha := ha_q3
    try replace hb2 := hb2_q3
    try replace hb3 := hb3_q3
    try replace ar0 := ar0_q3
    try replace ar1 := ar1_q3
    try replace ar2 := ar2_q3
    clear hg_q3 hR_q3
    refine S.back hbq2 ?_
    replace hg := hg_q2
    replace hR := hR_q2
    try replace hp := hp_q2
    try replace ha := ha_q2
    try replace hb2 := hb2_q2
    try replace hb3 := hb3_q2
    try replace ar0 := ar0_q2
    try replace ar1 := ar1_q2
    clear hg_q2 hR_q2
    refine S.back hbq1 ?_
    replace hg := hg_q1
    replace hR := hR_q1
    try replace hp := hp_q1
    try replace ha := ha_q1
    try replace hb2 := hb2_q1
    try replace hb3 := hb3_q1
    try replace ar0 := ar0_q1
    clear hg_q1 hR_q1
    refine S.back hbq0 ?_
    replace hg := hg_q0
    replace hR := hR_q0
    try replace hp := hp_q0
    try replace ha := ha_q0
    try replace hb2 := hb2_q0
    try replace hb3 := hb3_q0
    clear hg_q0 hR_q0
    refine S.region rfl <| O.op (.p rfl) (.loadAgg Tryz.isAgg27 (by kernel_rfl) rfl hb3) ?_
    refine O.opU rfl (.storeObj (by kernel_rfl) rfl rfl rfl rfl (by repeat (first | exact zh | apply zt)) (by first | (simp; done) | (simp [Value.cells]; done))) ?_
    refine O.nil <| S.retCellAgg Tryz.results80 Tryz.isAgg27 (by kernel_rfl) rfl (by repeat (first | exact zh | apply zt)) fun w hw => Holds.end_ hR hw ?_
    exact pk ⟨_, a10, c10, a14, c14, a18, c18, a23, c23, hyes, rfl, rfl⟩
   ·have hno : hGet b = none := hGet_not eall (fun q => eq (by rw [ew] at q; exact Option.some.inj q.2))
    refine S.regionD (L := [0, 1, 2, 3, 4, 6, 5, 7, 8, 9]) F.mixed (by kernel_rfl) ?_
    refine .quiet (.p rfl) rfl (fun _ => .fieldAddr F.fld129x0 rfl) <| .quiet (.p rfl) rfl (fun _ => .loadAt F.flat126 rfl hb2 rfl) ?_
    refine OD.callS (.p rfl) (by kernel_rfl) rfl F.ok91 rfl rfl (by repeat (first | exact zh | apply zt)) rdDone_c ?_
    rintro v27 _ ⟨rfl, rfl⟩
    try simp only [zx1, zx2, zx3]
    refine OD.sT 27 rfl (by exact ed) ?_
    refine OD.q 1 rfl <| .quiet (.g rfl rfl) rfl (fun _ => .loadAgg Tryz.isAgg27 (by kernel_rfl) rfl hb3) ?_
    refine .quiet (.g rfl rfl) rfl (fun _ => .loadAt F.flat31 rfl hp rfl) ?_
    refine OD.callP0 (.g rfl rfl) (by kernel_rfl) rfl F.ok62 rfl rfl ((written_c hrel hB')) (fun ch η' w hX hW => by (exact absurd (ew.symm.trans hX.1) (by simp))) ?_
    rintro v30 _ ⟨out', a30, c30, eo, rfl, rfl⟩
    try simp only [zx1, zx2, zx3]
    obtain rfl : out = out' := Option.some.inj (ew.symm.trans eo)
    refine OD.callB (.g rfl rfl) (by kernel_rfl) rfl F.ok92 rfl rfl (bs := [OwnP Rp.u8 5 (.slice a30 out.length c30) out]) (by repeat (first | exact zsn | (apply zsc; focus (repeat (first | exact zh | apply zt))))) (fun m hm hd => sequal_c (hm.arr.right hd) (ha.left)) ?_
    rintro v32 _ ⟨rfl, rfl⟩
    try simp only [zx1, zx2, zx3]
    refine OD.sF 32 rfl (by simp [eq]) ?_
    refine OD.q 1 rfl <| OD.callP0 (.p rfl) (by kernel_rfl) rfl F.ok90 rfl rfl (imust_c _) (fun ch η' w hX hW => by (obtain ⟨hb, rfl, rfl⟩ := hX; exact hR _ _ w ⟨4, rfl, ⟨hno, rfl⟩, rfl⟩ hW.drop_all)) ?_
    rintro v34 _ ⟨hb34, rfl, rfl⟩
    try simp only [zx1, zx2, zx3]
    exact absurd hb34 (by decide)
abbrev held0 : List Value := [.slice none 0 0, .slice none 0 0, .slice none 0 0, .slice none 0 0]
def held_t (b : List UInt8) (v : Value) (η : List SProp) : Prop := (∃ u, HeldK b u η ∧ v = .tuple #[u, .int .i64 0]) ∨ (hGet b = none ∧ v = .tuple #[.agg held0.toArray, .int .i64 4] ∧ η = [])
theorem hTriedG_c {r : Fr} {first cap : Array Value} {b : List UInt8} (con : Con Tryz.prog 80 (first ++ #[] ++ cap) r [] (RetP (fun v η => HeldK b v η) (fun ch η => ∃ z, ch = errP 32 z ∧ (hGet b = none ∧ z = 4) ∧ η = []))) (h1 : (Value.func (.func 80) first cap).oneCell' = true := by rfl) :
  Con Tryz.prog 79 #[.func (.func 80) first cap] r [] (Ret fun v η => held_t b v η) :=
 (triedIH_c F.ok80 h1 (fun _ _ h => by obtain ⟨x, a0, c0, a1, c1, a2, c2, a3, c3, _, rfl, _⟩ := h; exact ⟨_, rfl, rfl, rfl⟩) con).mono (Ret.imp fun v η h => by
  rcases h with ⟨u, h2, h3⟩ | ⟨z, ⟨h2, rfl⟩, h3, h4⟩
  ·exact .inl ⟨u, h2, h3⟩
  ·exact .inr ⟨h2, h4, h3⟩)
theorem held_tY {b : List UInt8} {x : HeldT} {v : Value} {η : List SProp} (e : hGet b = some x) (h : held_t b v η) : ∃ a0 c0 a1 c1 a2 c2 a3 c3, v = .tuple #[.agg (heldV (.slice a0 x.1.length c0) (.slice a1 x.2.1.length c1) (.slice a2 x.2.2.1.length c2) (.slice a3 x.2.2.2.1.length c3)).toArray, .int .i64 0] ∧ η = heldWs x (.slice a0 x.1.length c0) (.slice a1 x.2.1.length c1) (.slice a2 x.2.2.1.length c2) (.slice a3 x.2.2.2.1.length c3) := by
 rcases h with ⟨_, ⟨y, a0, c0, a1, c1, a2, c2, a3, c3, h1, rfl, rfl⟩, rfl⟩ | ⟨h1, _⟩
 ·rw [e] at h1; obtain rfl := Option.some.inj h1; exact ⟨a0, c0, a1, c1, a2, c2, a3, c3, rfl, rfl⟩
 ·rw [e] at h1; cases h1
theorem held_tN {b : List UInt8} {v : Value} {η : List SProp} (e : hGet b = none) (h : held_t b v η) : v = .tuple #[.agg held0.toArray, .int .i64 4] ∧ η = [] := by
 rcases h with ⟨_, ⟨y, a0, c0, a1, c1, a2, c2, a3, c3, h1, _⟩, _⟩ | ⟨_, h1, h2⟩
 ·rw [e] at h1; cases h1
 ·exact ⟨h1, h2⟩
theorem hGet_c {r : Fr} {va : Value} {b : List UInt8} (ha : Arr Rp.u8 r va b) (hl : b.length ≤ 1000000000) (hB : GetB b) : Con Tryz.prog 25 #[va] r [] (Ret fun v η => held_t b v η) := by
 refine Con.of (n := 8) _ rfl Tryz.func25 rfl rfl rfl fun g hg R hR => ?_
 have ha := ha.mono hg
 obtain ⟨ax, cx, rfl⟩ := ha.shape
 cases e : hGet b with
 | some x =>
  refine S.seq <| S.region rfl <| O.opE (.p rfl) (.box (cs := [_]) rfl rfl) ?_
  rintro _ _ ⟨b1, rfl, rfl⟩
  refine O.frzO (by repeat (first | exact zh | apply zt)) fun g hs hm hb1 => ?_
  replace hg := Fr.sub_trans hg hs
  replace hR := melted hR hm
  try replace ha := ha.mono hs
  clear hs hm
  refine O.opE (.p rfl) (.alloc (cs := [.slice none 0 0, .slice none 0 0, .slice none 0 0, .slice none 0 0]) Tryz.zeroValue27 rfl) ?_
  rintro _ _ ⟨b2, rfl, rfl⟩
  refine O.q 1 rfl <| O.nil <| S.seq <| S.region rfl <| O.op (.p rfl) (.mkFunc rfl rfl) <| O.call0 (.p rfl) rfl F.ok79 rfl rfl (((hTriedG_c (hget1_c hb1 ha hl hB)).mono (Ret.imp fun _ _ h => held_tY e h))) ?_
  rintro v5 _ ⟨a0, c0, a1, c1, a2, c2, a3, c3, rfl, rfl⟩
  try simp only [zx1, zx2, zx3]
  refine O.q 2 rfl <| O.opU rfl (.storeObj (by kernel_rfl) rfl rfl rfl rfl (by repeat (first | exact zh | apply zt)) (by first | (simp; done) | (simp [Value.cells]; done))) ?_
  refine O.q 1 rfl <| O.nil <| S.retCellT Tryz.results25 rfl rfl (by repeat (first | exact zh | apply zt)) (LoadsAs.agg Tryz.isAgg27 (by kernel_rfl)) fun w hw => Holds.end_ hR hw ?_
  exact pk (.inl ⟨_, ⟨x, a0, c0, a1, c1, a2, c2, a3, c3, e, rfl, rfl⟩, rfl⟩)
 | none =>
  refine S.seq <| S.region rfl <| O.opE (.p rfl) (.box (cs := [_]) rfl rfl) ?_
  rintro _ _ ⟨b1, rfl, rfl⟩
  refine O.frzO (by repeat (first | exact zh | apply zt)) fun g hs hm hb1 => ?_
  replace hg := Fr.sub_trans hg hs
  replace hR := melted hR hm
  try replace ha := ha.mono hs
  clear hs hm
  refine O.opE (.p rfl) (.alloc (cs := [.slice none 0 0, .slice none 0 0, .slice none 0 0, .slice none 0 0]) Tryz.zeroValue27 rfl) ?_
  rintro _ _ ⟨b2, rfl, rfl⟩
  refine O.q 1 rfl <| O.nil <| S.seq <| S.region rfl <| O.op (.p rfl) (.mkFunc rfl rfl) <| O.call0 (.p rfl) rfl F.ok79 rfl rfl (((hTriedG_c (hget1_c hb1 ha hl hB)).mono (Ret.imp fun _ _ h => held_tN e h))) ?_
  rintro v5 _ ⟨rfl, rfl⟩
  try simp only [zx1, zx2, zx3]
  refine O.q 2 rfl <| O.opU rfl (.storeObj (by kernel_rfl) rfl rfl rfl rfl (by repeat (first | exact zh | apply zt)) (by first | (simp; done) | (simp [Value.cells]; done))) ?_
  refine O.q 1 rfl <| O.nil <| S.retCellT Tryz.results25 rfl rfl (by repeat (first | exact zh | apply zt)) (LoadsAs.agg Tryz.isAgg27 (by kernel_rfl)) fun w hw => Holds.end_ hR hw ?_
  exact pk (.inr ⟨e, rfl, rfl⟩)
end Go.Proofs.YtodhbhanmdfdeaaGreat
