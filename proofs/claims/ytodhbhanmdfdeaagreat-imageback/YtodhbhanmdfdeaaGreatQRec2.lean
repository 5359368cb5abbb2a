/- Texts of this proof. -/
import Derived.Test.YtodhbhanmdfdeaaGreatQFc
import Derived.Test.YtodhbhanmdfdeaaGreatQRec1
import Derived.Test.YtodhbhanmdfdeaaGreatQSpAuto
open Go Go.Sp
set_option maxRecDepth 100000
attribute [local irreducible] obj Own OwnP
namespace Go.Proofs.YtodhbhanmdfdeaaGreat
theorem wdot_c {r : Fr} {cs : List Value} {x : RecT} (h : RecRp.rel r cs x) : Con Tryz.prog 124 #[.agg cs.toArray] r [] (Ret fun v η => v = .agg #[.int .i64 x.2.1, .int .i64 x.2.2.1] ∧ η = []) := by
 obtain ⟨v3, v5, v6, rfl, k0, k1, k2, k3, k5, k6⟩ := RecRp.open h
 refine Con.of (n := 10) _ rfl Tryz.func124 rfl rfl rfl fun g hg R hR => ?_
 refine S.seq <| S.region rfl <| O.opE (.p rfl) (.box (cs := [_, _, _, _, _, _, _]) rfl rfl) ?_
 rintro _ _ ⟨b1, rfl, rfl⟩
 refine O.opE (.p rfl) (.alloc (cs := [.int .i64 0, .int .i64 0]) Tryz.zeroValue166 rfl) ?_
 rintro _ _ ⟨b2, rfl, rfl⟩
 refine O.nil <| S.seq <| S.region rfl <| O.op (.p rfl) (.fieldObj F.fld163x0 rfl) <| O.op (.p rfl) (.fieldObj F.fld74x1 rfl) <| O.op (.p rfl) (.lo F.flat3) ?_
 refine O.op (.p rfl) (.fieldObj F.fld163x0 rfl) <| O.op (.p rfl) (.fieldObj F.fld74x2 rfl) <| O.op (.p rfl) (.lo F.flat3) ?_
 refine O.op (.p rfl) (.build (cs := [_, _]) Tryz.underlying166 rfl rfl rfl rfl rfl) <| O.opU rfl (.storeObj (by kernel_rfl) rfl rfl rfl rfl (by repeat (first | exact zh | apply zt)) (by first | (simp; done) | (simp [Value.cells]; done))) ?_
 refine O.nil <| S.retCellAgg Tryz.results124 Tryz.isAgg166 (by kernel_rfl) rfl (by repeat (first | exact zh | apply zt)) fun w hw => Holds.end_ hR hw ?_
 exact pk ⟨rfl, rfl⟩
theorem wshaped_c {r : Fr} {cs : List Value} {x : RecT} (h : RecRp.rel r cs x) : Con Tryz.prog 122 #[.agg cs.toArray] r [] (Ret fun v η => v = .bool (shaped x) ∧ η = []) := by
 obtain ⟨v3, v5, v6, rfl, k0, k1, k2, k3, k5, k6⟩ := RecRp.open h
 refine Con.of (n := 48) _ rfl Tryz.func122 rfl rfl rfl fun g hg R hR => ?_
 have h := h.mono hg
 have k3 := k3.mono hg
 have k5 := k5.mono hg
 have k6 := k6.mono hg
 obtain ⟨a3, c3, rfl⟩ := k3.shape
 obtain ⟨a5, c5, rfl⟩ := k5.shape
 obtain ⟨a6, c6, rfl⟩ := k6.shape
 by_cases n1 : x.1.length < 1
 ·have e : shaped x = false := by unfold shaped; rw [decide_eq_false (show ¬ 1 ≤ x.1.length by omega)]; rfl
  refine S.seq <| S.region rfl <| O.opE (.p rfl) (.box (cs := [_, _, _, _, _, _, _]) rfl rfl) ?_
  rintro _ _ ⟨b1, rfl, rfl⟩
  refine O.q 1 rfl <| O.nil <| S.seq <| S.block <| S.seq <| S.seq <| S.region rfl <| O.op (.p rfl) (.fieldObj F.fld163x0 rfl) <| O.op (.p rfl) (.fieldObj F.fld74x0 rfl) <| O.op (.p rfl) (.lo F.flat9) ?_
  refine O.op (.p rfl) (.lenS rfl Tryz.underlying9 rfl) <| O.op (.p rfl) (.lss rfl rfl) <| O.sT 8 rfl (by simp; omega) ?_
  refine O.q 1 rfl <| O.nil <| S.condT rfl <| S.skip <| S.condT rfl <| S.seq <| S.region rfl <| O.q 1 rfl <| O.nil ?_
  exact S.rt Tryz.results122 rfl hR ⟨by rw [e], rfl⟩
 have e1 : 1 ≤ x.1.length := by omega
 by_cases n2 : 64 < x.1.length
 ·have e : shaped x = false := by unfold shaped; rw [decide_eq_false (show ¬ x.1.length ≤ 64 by omega)]; simp
  refine S.seq <| S.region rfl <| O.opE (.p rfl) (.box (cs := [_, _, _, _, _, _, _]) rfl rfl) ?_
  rintro _ _ ⟨b1, rfl, rfl⟩
  refine O.q 1 rfl <| O.nil <| S.seq <| S.block <| S.seq <| S.seq <| S.region rfl <| O.op (.p rfl) (.fieldObj F.fld163x0 rfl) <| O.op (.p rfl) (.fieldObj F.fld74x0 rfl) <| O.op (.p rfl) (.lo F.flat9) ?_
  refine O.op (.p rfl) (.lenS rfl Tryz.underlying9 rfl) <| O.op (.p rfl) (.lss rfl rfl) <| O.sF 8 rfl (by simp; omega) ?_
  refine O.q 1 rfl <| O.nil <| S.condF rfl <| S.seq <| S.region rfl <| O.op (.p rfl) (.fieldObj F.fld163x0 rfl) <| O.op (.p rfl) (.fieldObj F.fld74x0 rfl) <| O.op (.p rfl) (.lo F.flat9) ?_
  refine O.op (.p rfl) (.lenS rfl Tryz.underlying9 rfl) <| O.op (.p rfl) (.gtr rfl rfl) <| O.sT 13 rfl (by simp; omega) ?_
  refine O.q 1 rfl <| O.nil <| S.condT rfl <| S.skip <| S.condT rfl <| S.seq <| S.region rfl <| O.q 1 rfl <| O.nil ?_
  exact S.rt Tryz.results122 rfl hR ⟨by rw [e], rfl⟩
 have e2 : x.1.length ≤ 64 := by omega
 have hv1 : vecOk [rDot x] = dotOk (rDot x) := by
  cases hd : dotOk (rDot x) with
  | true => rw [vecOk_iff]; exact ⟨fun d q => by rw [List.mem_singleton.1 q]; exact hd, List.pairwise_singleton ..⟩
  | false =>
   rw [Bool.eq_false_iff]
   intro q
   have := (vecOk_iff.1 q).1 _ (List.mem_singleton.2 rfl)
   rw [hd] at this; cases this
 cases e3 : dotOk (rDot x) with
 | false =>
  have e : shaped x = false := by unfold shaped; rw [e3]; simp
  refine S.seq <| S.region rfl <| O.opE (.p rfl) (.box (cs := [_, _, _, _, _, _, _]) rfl rfl) ?_
  rintro _ _ ⟨b1, rfl, rfl⟩
  refine O.q 1 rfl <| O.nil <| S.seq <| S.block <| S.seq <| S.seq <| S.region rfl <| O.op (.p rfl) (.fieldObj F.fld163x0 rfl) <| O.op (.p rfl) (.fieldObj F.fld74x0 rfl) <| O.op (.p rfl) (.lo F.flat9) ?_
  refine O.op (.p rfl) (.lenS rfl Tryz.underlying9 rfl) <| O.op (.p rfl) (.lss rfl rfl) <| O.sF 8 rfl (by simp; omega) ?_
  refine O.q 1 rfl <| O.nil <| S.condF rfl <| S.seq <| S.region rfl <| O.op (.p rfl) (.fieldObj F.fld163x0 rfl) <| O.op (.p rfl) (.fieldObj F.fld74x0 rfl) <| O.op (.p rfl) (.lo F.flat9) ?_
  refine O.op (.p rfl) (.lenS rfl Tryz.underlying9 rfl) <| O.op (.p rfl) (.gtr rfl rfl) <| O.sF 13 rfl (by simp; omega) ?_
  refine O.q 1 rfl <| O.nil <| S.condF rfl <| S.seq <| S.region rfl <| O.op (.p rfl) (.loA (news := [_, _, _, _, _, _, _]) Tryz.isAgg163) ?_
  refine O.call0 (.p rfl) rfl F.ok124 rfl rfl (wdot_c (by first | assumption | exact Rp.rel.mono (by assumption) hg)) ?_
  rintro v15 _ ⟨rfl, rfl⟩
  try simp only [zx1, zx2, zx3]
  refine O.opE (.p rfl) (.litP (T := DotRp) (ys := [rDot x]) Tryz.underlying72 F.elem166 (by decide) rfl rfl ⟨DotRp.mk k1 k2, trivial⟩ (by decide)) ?_
  rintro v16 _ ⟨a16, c16, rfl, rfl⟩
  refine O.frzA (by repeat (first | exact zh | apply zt)) fun g hs hm ha16 => ?_
  replace hg := Fr.sub_trans hg hs
  replace hR := melted hR hm
  try replace h := h.mono hs
  try replace k3 := k3.mono hs
  try replace k5 := k5.mono hs
  try replace k6 := k6.mono hs
  clear hs hm
  refine O.call0 (.p rfl) rfl F.ok223 rfl rfl (vRight_c (by first | assumption | exact Arr.mono hg (by assumption) | exact Arr.left (by assumption) | exact Arr.left (Arr.mono hg (by assumption)))) ?_
  rintro v17 _ ⟨rfl, rfl⟩
  try simp only [zx1, zx2, zx3]
  refine O.sF 17 rfl (by rw [hv1, e3]) ?_
  refine O.op (.p rfl) (.not rfl) <| O.q 1 rfl <| O.nil <| S.condT rfl <| S.skip <| S.condT rfl <| S.seq <| S.region rfl <| O.q 1 rfl <| O.nil ?_
  exact S.rt Tryz.results122 rfl hR ⟨by rw [e], rfl⟩
 | true =>
  cases e4 : vecOk x.2.2.2.1 with
  | false =>
   have e : shaped x = false := by unfold shaped; rw [e4]; simp
   refine S.seq <| S.region rfl <| O.opE (.p rfl) (.box (cs := [_, _, _, _, _, _, _]) rfl rfl) ?_
   rintro _ _ ⟨b1, rfl, rfl⟩
   refine O.q 1 rfl <| O.nil <| S.seq <| S.block <| S.seq <| S.seq <| S.region rfl <| O.op (.p rfl) (.fieldObj F.fld163x0 rfl) <| O.op (.p rfl) (.fieldObj F.fld74x0 rfl) <| O.op (.p rfl) (.lo F.flat9) ?_
   refine O.op (.p rfl) (.lenS rfl Tryz.underlying9 rfl) <| O.op (.p rfl) (.lss rfl rfl) <| O.sF 8 rfl (by simp; omega) ?_
   refine O.q 1 rfl <| O.nil <| S.condF rfl <| S.seq <| S.region rfl <| O.op (.p rfl) (.fieldObj F.fld163x0 rfl) <| O.op (.p rfl) (.fieldObj F.fld74x0 rfl) <| O.op (.p rfl) (.lo F.flat9) ?_
   refine O.op (.p rfl) (.lenS rfl Tryz.underlying9 rfl) <| O.op (.p rfl) (.gtr rfl rfl) <| O.sF 13 rfl (by simp; omega) ?_
   refine O.q 1 rfl <| O.nil <| S.condF rfl <| S.seq <| S.region rfl <| O.op (.p rfl) (.loA (news := [_, _, _, _, _, _, _]) Tryz.isAgg163) ?_
   refine O.call0 (.p rfl) rfl F.ok124 rfl rfl (wdot_c (by first | assumption | exact Rp.rel.mono (by assumption) hg)) ?_
   rintro v15 _ ⟨rfl, rfl⟩
   try simp only [zx1, zx2, zx3]
   refine O.opE (.p rfl) (.litP (T := DotRp) (ys := [rDot x]) Tryz.underlying72 F.elem166 (by decide) rfl rfl ⟨DotRp.mk k1 k2, trivial⟩ (by decide)) ?_
   rintro v16 _ ⟨a16, c16, rfl, rfl⟩
   refine O.frzA (by repeat (first | exact zh | apply zt)) fun g hs hm ha16 => ?_
   replace hg := Fr.sub_trans hg hs
   replace hR := melted hR hm
   try replace h := h.mono hs
   try replace k3 := k3.mono hs
   try replace k5 := k5.mono hs
   try replace k6 := k6.mono hs
   clear hs hm
   refine O.call0 (.p rfl) rfl F.ok223 rfl rfl (vRight_c (by first | assumption | exact Arr.mono hg (by assumption) | exact Arr.left (by assumption) | exact Arr.left (Arr.mono hg (by assumption)))) ?_
   rintro v17 _ ⟨rfl, rfl⟩
   try simp only [zx1, zx2, zx3]
   refine O.sT 17 rfl (by rw [hv1, e3]) ?_
   refine O.op (.p rfl) (.not rfl) <| O.q 1 rfl <| O.nil <| S.condF rfl <| S.seq <| S.region rfl <| O.op (.p rfl) (.fieldObj F.fld163x0 rfl) <| O.op (.p rfl) (.fieldObj F.fld74x3 rfl) <| O.op (.p rfl) (.lo F.flat72) ?_
   refine O.call0 (.p rfl) rfl F.ok223 rfl rfl (vRight_c (by first | assumption | exact Arr.mono hg (by assumption) | exact Arr.left (by assumption) | exact Arr.left (Arr.mono hg (by assumption)))) ?_
   rintro v22 _ ⟨rfl, rfl⟩
   try simp only [zx1, zx2, zx3]
   refine O.sF 22 rfl (by exact e4) ?_
   refine O.op (.p rfl) (.not rfl) <| O.q 1 rfl <| O.nil <| S.condT rfl <| S.skip <| S.condT rfl <| S.seq <| S.region rfl <| O.q 1 rfl <| O.nil ?_
   exact S.rt Tryz.results122 rfl hR ⟨by rw [e], rfl⟩
  | true =>
   cases e5 : hasR x.2.2.2.1 (rDot x) with
   | true =>
    have e : shaped x = false := by unfold shaped; rw [e5]; simp
    refine S.seq <| S.region rfl <| O.opE (.p rfl) (.box (cs := [_, _, _, _, _, _, _]) rfl rfl) ?_
    rintro _ _ ⟨b1, rfl, rfl⟩
    refine O.q 1 rfl <| O.nil <| S.seq <| S.block <| S.seq <| S.seq <| S.region rfl <| O.op (.p rfl) (.fieldObj F.fld163x0 rfl) <| O.op (.p rfl) (.fieldObj F.fld74x0 rfl) <| O.op (.p rfl) (.lo F.flat9) ?_
    refine O.op (.p rfl) (.lenS rfl Tryz.underlying9 rfl) <| O.op (.p rfl) (.lss rfl rfl) <| O.sF 8 rfl (by simp; omega) ?_
    refine O.q 1 rfl <| O.nil <| S.condF rfl <| S.seq <| S.region rfl <| O.op (.p rfl) (.fieldObj F.fld163x0 rfl) <| O.op (.p rfl) (.fieldObj F.fld74x0 rfl) <| O.op (.p rfl) (.lo F.flat9) ?_
    refine O.op (.p rfl) (.lenS rfl Tryz.underlying9 rfl) <| O.op (.p rfl) (.gtr rfl rfl) <| O.sF 13 rfl (by simp; omega) ?_
    refine O.q 1 rfl <| O.nil <| S.condF rfl <| S.seq <| S.region rfl <| O.op (.p rfl) (.loA (news := [_, _, _, _, _, _, _]) Tryz.isAgg163) ?_
    refine O.call0 (.p rfl) rfl F.ok124 rfl rfl (wdot_c (by first | assumption | exact Rp.rel.mono (by assumption) hg)) ?_
    rintro v15 _ ⟨rfl, rfl⟩
    try simp only [zx1, zx2, zx3]
    refine O.opE (.p rfl) (.litP (T := DotRp) (ys := [rDot x]) Tryz.underlying72 F.elem166 (by decide) rfl rfl ⟨DotRp.mk k1 k2, trivial⟩ (by decide)) ?_
    rintro v16 _ ⟨a16, c16, rfl, rfl⟩
    refine O.frzA (by repeat (first | exact zh | apply zt)) fun g hs hm ha16 => ?_
    replace hg := Fr.sub_trans hg hs
    replace hR := melted hR hm
    try replace h := h.mono hs
    try replace k3 := k3.mono hs
    try replace k5 := k5.mono hs
    try replace k6 := k6.mono hs
    clear hs hm
    refine O.call0 (.p rfl) rfl F.ok223 rfl rfl (vRight_c (by first | assumption | exact Arr.mono hg (by assumption) | exact Arr.left (by assumption) | exact Arr.left (Arr.mono hg (by assumption)))) ?_
    rintro v17 _ ⟨rfl, rfl⟩
    try simp only [zx1, zx2, zx3]
    refine O.sT 17 rfl (by rw [hv1, e3]) ?_
    refine O.op (.p rfl) (.not rfl) <| O.q 1 rfl <| O.nil <| S.condF rfl <| S.seq <| S.region rfl <| O.op (.p rfl) (.fieldObj F.fld163x0 rfl) <| O.op (.p rfl) (.fieldObj F.fld74x3 rfl) <| O.op (.p rfl) (.lo F.flat72) ?_
    refine O.call0 (.p rfl) rfl F.ok223 rfl rfl (vRight_c (by first | assumption | exact Arr.mono hg (by assumption) | exact Arr.left (by assumption) | exact Arr.left (Arr.mono hg (by assumption)))) ?_
    rintro v22 _ ⟨rfl, rfl⟩
    try simp only [zx1, zx2, zx3]
    refine O.sT 22 rfl (by exact e4) ?_
    refine O.op (.p rfl) (.not rfl) <| O.q 1 rfl <| O.nil <| S.condF rfl <| S.frzO (by repeat (first | exact zh | apply zt)) fun g hs hm hbx => ?_
    replace hg := Fr.sub_trans hg hs
    replace hR := melted hR hm
    try replace h := h.mono hs
    try replace k3 := k3.mono hs
    try replace k5 := k5.mono hs
    try replace k6 := k6.mono hs
    try replace ha16 := ha16.mono hs
    clear hs hm
    refine S.regionD (L := [0, 1, 2, 3, 4, 5, 6]) F.mixed (by kernel_rfl) ?_
    refine .quiet (.p rfl) rfl (fun _ => .fieldAddr F.fld163x0 rfl) <| .quiet (.p rfl) rfl (fun _ => .fieldAddr F.fld74x3 rfl) <| .quiet (.p rfl) rfl (fun _ => .loadAt F.flat72 rfl (hbx.drop 3) rfl) ?_
    refine .quiet (.p rfl) rfl (fun _ => .loadAgg Tryz.isAgg163 (by kernel_rfl) rfl hbx) ?_
    refine OD.call0 (.p rfl) (by kernel_rfl) rfl F.ok124 rfl rfl (wdot_c (by first | assumption | exact Rp.rel.mono (by assumption) hg)) ?_
    rintro v28 _ ⟨rfl, rfl⟩
    try simp only [zx1, zx2, zx3]
    refine OD.call0 (.p rfl) (by kernel_rfl) rfl F.ok123 rfl rfl (vHas_c (rDot x) rfl (by first | assumption | exact Arr.mono hg (by assumption) | exact Arr.left (by assumption) | exact Arr.left (Arr.mono hg (by assumption)))) ?_
    rintro v29 _ ⟨rfl, rfl⟩
    try simp only [zx1, zx2, zx3]
    refine OD.sT 29 rfl (by exact e5) ?_
    refine OD.q 1 rfl <| ODx.nil <| S.condT rfl <| S.seq <| S.region rfl <| O.q 1 rfl <| O.nil ?_
    exact S.rt Tryz.results122 rfl hR ⟨by rw [e], rfl⟩
   | false =>
    have e : shaped x = (decide (x.2.2.2.2.2.1.length ≤ 1024) && (!x.2.2.2.2.1 || decide (x.2.2.2.2.2.1.length = 0))) := by unfold shaped; rw [decide_eq_true e1, decide_eq_true e2, e3, e4, e5]; simp
    rw [e] at hR
    clear e
    refine S.seq <| S.region rfl <| O.opE (.p rfl) (.box (cs := [_, _, _, _, _, _, _]) rfl rfl) ?_
    rintro _ _ ⟨b1, rfl, rfl⟩
    refine O.q 1 rfl <| O.nil <| S.seq <| S.block <| S.seq <| S.seq <| S.region rfl <| O.op (.p rfl) (.fieldObj F.fld163x0 rfl) <| O.op (.p rfl) (.fieldObj F.fld74x0 rfl) <| O.op (.p rfl) (.lo F.flat9) ?_
    refine O.op (.p rfl) (.lenS rfl Tryz.underlying9 rfl) <| O.op (.p rfl) (.lss rfl rfl) <| O.sF 8 rfl (by simp; omega) ?_
    refine O.q 1 rfl <| O.nil <| S.condF rfl <| S.seq <| S.region rfl <| O.op (.p rfl) (.fieldObj F.fld163x0 rfl) <| O.op (.p rfl) (.fieldObj F.fld74x0 rfl) <| O.op (.p rfl) (.lo F.flat9) ?_
    refine O.op (.p rfl) (.lenS rfl Tryz.underlying9 rfl) <| O.op (.p rfl) (.gtr rfl rfl) <| O.sF 13 rfl (by simp; omega) ?_
    refine O.q 1 rfl <| O.nil <| S.condF rfl <| S.seq <| S.region rfl <| O.op (.p rfl) (.loA (news := [_, _, _, _, _, _, _]) Tryz.isAgg163) ?_
    refine O.call0 (.p rfl) rfl F.ok124 rfl rfl (wdot_c (by first | assumption | exact Rp.rel.mono (by assumption) hg)) ?_
    rintro v15 _ ⟨rfl, rfl⟩
    try simp only [zx1, zx2, zx3]
    refine O.opE (.p rfl) (.litP (T := DotRp) (ys := [rDot x]) Tryz.underlying72 F.elem166 (by decide) rfl rfl ⟨DotRp.mk k1 k2, trivial⟩ (by decide)) ?_
    rintro v16 _ ⟨a16, c16, rfl, rfl⟩
    refine O.frzA (by repeat (first | exact zh | apply zt)) fun g hs hm ha16 => ?_
    replace hg := Fr.sub_trans hg hs
    replace hR := melted hR hm
    try replace h := h.mono hs
    try replace k3 := k3.mono hs
    try replace k5 := k5.mono hs
    try replace k6 := k6.mono hs
    clear hs hm
    refine O.call0 (.p rfl) rfl F.ok223 rfl rfl (vRight_c (by first | assumption | exact Arr.mono hg (by assumption) | exact Arr.left (by assumption) | exact Arr.left (Arr.mono hg (by assumption)))) ?_
    rintro v17 _ ⟨rfl, rfl⟩
    try simp only [zx1, zx2, zx3]
    refine O.sT 17 rfl (by rw [hv1, e3]) ?_
    refine O.op (.p rfl) (.not rfl) <| O.q 1 rfl <| O.nil <| S.condF rfl <| S.seq <| S.region rfl <| O.op (.p rfl) (.fieldObj F.fld163x0 rfl) <| O.op (.p rfl) (.fieldObj F.fld74x3 rfl) <| O.op (.p rfl) (.lo F.flat72) ?_
    refine O.call0 (.p rfl) rfl F.ok223 rfl rfl (vRight_c (by first | assumption | exact Arr.mono hg (by assumption) | exact Arr.left (by assumption) | exact Arr.left (Arr.mono hg (by assumption)))) ?_
    rintro v22 _ ⟨rfl, rfl⟩
    try simp only [zx1, zx2, zx3]
    refine O.sT 22 rfl (by exact e4) ?_
    refine O.op (.p rfl) (.not rfl) <| O.q 1 rfl <| O.nil <| S.condF rfl <| S.frzO (by repeat (first | exact zh | apply zt)) fun g hs hm hbx => ?_
    replace hg := Fr.sub_trans hg hs
    replace hR := melted hR hm
    try replace h := h.mono hs
    try replace k3 := k3.mono hs
    try replace k5 := k5.mono hs
    try replace k6 := k6.mono hs
    try replace ha16 := ha16.mono hs
    clear hs hm
    refine S.regionD (L := [0, 1, 2, 3, 4, 5, 6]) F.mixed (by kernel_rfl) ?_
    refine .quiet (.p rfl) rfl (fun _ => .fieldAddr F.fld163x0 rfl) <| .quiet (.p rfl) rfl (fun _ => .fieldAddr F.fld74x3 rfl) <| .quiet (.p rfl) rfl (fun _ => .loadAt F.flat72 rfl (hbx.drop 3) rfl) ?_
    refine .quiet (.p rfl) rfl (fun _ => .loadAgg Tryz.isAgg163 (by kernel_rfl) rfl hbx) ?_
    refine OD.call0 (.p rfl) (by kernel_rfl) rfl F.ok124 rfl rfl (wdot_c (by first | assumption | exact Rp.rel.mono (by assumption) hg)) ?_
    rintro v28 _ ⟨rfl, rfl⟩
    try simp only [zx1, zx2, zx3]
    refine OD.call0 (.p rfl) (by kernel_rfl) rfl F.ok123 rfl rfl (vHas_c (rDot x) rfl (by first | assumption | exact Arr.mono hg (by assumption) | exact Arr.left (by assumption) | exact Arr.left (Arr.mono hg (by assumption)))) ?_
    rintro v29 _ ⟨rfl, rfl⟩
    try simp only [zx1, zx2, zx3]
    refine OD.sF 29 rfl (by exact e5) ?_
    refine OD.q 1 rfl <| ODx.nil <| S.condF rfl <| S.skip (S.inBlock (S.seq ?_))
    by_cases n6 : 1024 < x.2.2.2.2.2.1.length
    ·
     refine S.region rfl <| O.op (.p rfl) (.fieldAddr F.fld163x0 rfl) <| O.op (.p rfl) (.fieldAddr F.fld74x5 rfl) <| O.op (.p rfl) (.loadAt F.flat31 rfl (hbx.drop 5) rfl) ?_
     refine O.op (.p rfl) (.len rfl Tryz.underlying31 rfl) <| O.op (.p rfl) (.leq rfl rfl) <| O.sF 34 rfl (by simp; omega) ?_
     refine O.q 14 rfl <| O.nil ?_
     exact S.rt Tryz.results122 rfl hR ⟨by rw [decide_eq_false (show ¬ x.2.2.2.2.2.1.length ≤ 1024 by omega)]; rfl, rfl⟩
    have e6 : x.2.2.2.2.2.1.length ≤ 1024 := by omega
    cases e7 : x.2.2.2.2.1 with
    | false =>
     refine S.region rfl <| O.op (.p rfl) (.fieldAddr F.fld163x0 rfl) <| O.op (.p rfl) (.fieldAddr F.fld74x5 rfl) <| O.op (.p rfl) (.loadAt F.flat31 rfl (hbx.drop 5) rfl) ?_
     refine O.op (.p rfl) (.len rfl Tryz.underlying31 rfl) <| O.op (.p rfl) (.leq rfl rfl) <| O.sT 34 rfl (by simp; omega) ?_
     refine O.q 1 rfl <| O.op (.g rfl rfl) (.fieldAddr F.fld163x0 rfl) <| O.op (.g rfl rfl) (.fieldAddr F.fld74x4 rfl) <| O.op (.g rfl rfl) (.loadAt F.flat4 rfl (hbx.drop 4) rfl) ?_
     refine O.slot 38 (v' := .bool false) rfl (by rw [e7]) ?_
     refine O.op (.g rfl rfl) ((by first | exact .notD rfl | exact .not rfl)) ?_
     refine O.sT 39 rfl (by rfl) ?_
     refine O.q 9 rfl <| O.nil ?_
     exact S.rt Tryz.results122 rfl hR ⟨by rw [decide_eq_true e6, e7]; rfl, rfl⟩
    | true =>
     refine S.region rfl <| O.op (.p rfl) (.fieldAddr F.fld163x0 rfl) <| O.op (.p rfl) (.fieldAddr F.fld74x5 rfl) <| O.op (.p rfl) (.loadAt F.flat31 rfl (hbx.drop 5) rfl) ?_
     refine O.op (.p rfl) (.len rfl Tryz.underlying31 rfl) <| O.op (.p rfl) (.leq rfl rfl) <| O.sT 34 rfl (by simp; omega) ?_
     refine O.q 1 rfl <| O.op (.g rfl rfl) (.fieldAddr F.fld163x0 rfl) <| O.op (.g rfl rfl) (.fieldAddr F.fld74x4 rfl) <| O.op (.g rfl rfl) (.loadAt F.flat4 rfl (hbx.drop 4) rfl) ?_
     refine O.slot 38 (v' := .bool true) rfl (by rw [e7]) ?_
     refine O.op (.g rfl rfl) ((by first | exact .notD rfl | exact .not rfl)) ?_
     refine O.sF 39 rfl (by rfl) ?_
     refine O.q 1 rfl <| O.op (.g rfl rfl) (.fieldAddr F.fld163x0 rfl) <| O.op (.g rfl rfl) (.fieldAddr F.fld74x5 rfl) <| O.op (.g rfl rfl) (.loadAt F.flat31 rfl (hbx.drop 5) rfl) ?_
     refine O.op (.g rfl rfl) (.len rfl Tryz.underlying31 rfl) <| O.op (.g rfl rfl) (.eql rfl rfl) <| O.q 3 rfl <| O.nil ?_
     exact S.rt Tryz.results122 rfl hR ⟨by rw [decide_eq_true e6, e7]; simp, rfl⟩
end Go.Proofs.YtodhbhanmdfdeaaGreat
