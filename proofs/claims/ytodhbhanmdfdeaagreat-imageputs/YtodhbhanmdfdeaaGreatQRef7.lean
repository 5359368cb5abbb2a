/- Texts of this proof, one behind the other. -/
import Derived.Test.YtodhbhanmdfdeaaGreatQFc
import Derived.Test.YtodhbhanmdfdeaaGreatQRef15
import Derived.Test.YtodhbhanmdfdeaaGreatQSpRef
import Derived.Test.YtodhbhanmdfdeaaGreatQSpAuto
section
/- Texts of this proof. -/
open Go Go.Sp
set_option maxRecDepth 100000
attribute [local irreducible] obj Own OwnP
namespace Go.Proofs.YtodhbhanmdfdeaaGreat
theorem r16ahead_c {r : Fr} {va vb : Value} {xs ys : List UInt8} (ha : Arr Rp.u8 r va xs) (hb : Arr Rp.u8 r vb ys) (hl : xs.length = ys.length) :
  Con Tryz.prog 242 #[va, vb] r [] (Ret fun v η => v = .bool (decide (xs < ys)) ∧ η = []) := by
 refine Con.of (n := 36) _ rfl Tryz.func242 rfl rfl rfl fun g hg R hR => ?_
 have ha := ha.mono hg
 have hb := hb.mono hg
 have hbd := ha.bound
 obtain ⟨a1, c1, rfl⟩ := ha.shape
 obtain ⟨a2, c2, rfl⟩ := hb.shape
 refine S.seq <| S.region rfl <| O.q 1 rfl <| O.nil <| S.seq <| S.seq <| S.region rfl <| O.q 1 rfl <| O.nil <| S.block <| S.loopK (ι := Nat) (fun i => i ≤ xs.length ∧ xs.take i = ys.take i) (fun i => [(5, .int .i64 (i : Int))]) [(0, _), (1, _)] (fun i => []) (fun i => xs.length - i) (0) (by simp) (.cons rfl (.nil)) (.cons rfl (.cons rfl (.nil))) rfl fun i hx ih => ?_
 have hm1 := meltRefl (g := g)
 obtain ⟨hx1, hx2⟩ := hx
 by_cases hi : i < xs.length
 ·have hi2 : i < ys.length := by omega
  by_cases e : xs[i] = ys[i]
  ·
   refine S.seq <| S.seq <| S.region rfl <| O.q 2 rfl <| O.op (.p rfl) (.len rfl Tryz.underlying31 rfl) <| O.op (.p rfl) (.lss rfl rfl) <| O.sT 9 rfl (by exact decide_eq_true (by omega)) ?_
   refine O.q 3 rfl <| O.op (.g rfl rfl) (.len rfl Tryz.underlying31 rfl) <| O.op (.g rfl rfl) (.lss rfl rfl) <| O.sT 14 rfl (by exact decide_eq_true (by omega)) ?_
   refine O.q 1 rfl <| O.nil <| S.condT rfl <| S.skip <| S.seq <| S.block <| S.seq <| S.regionD (L := [0, 1, 2, 3, 4, 5, 6, 7, 8]) F.mixed (by kernel_rfl) <| OD.q 2 rfl <| OD.ia (.p rfl) Tryz.underlying31 F.size5 rfl rfl rfl (by first | assumption | exact Arr.mono hg (by assumption) | exact Arr.left (by assumption) | exact Arr.left (Arr.mono hg (by assumption))) (h := fun p20 cs20 hp20 hr20 => ?_)
   cases hr20
   refine .quiet (.p rfl) rfl (fun _ => .loadAt F.flat5 rfl hp20 rfl) ?_
   refine OD.q 2 rfl <| OD.ia (.p rfl) Tryz.underlying31 F.size5 rfl rfl rfl (by first | assumption | exact Arr.mono hg (by assumption) | exact Arr.left (by assumption) | exact Arr.left (Arr.mono hg (by assumption))) (h := fun p24 cs24 hp24 hr24 => ?_)
   cases hr24
   refine .quiet (.p rfl) rfl (fun _ => .loadAt F.flat5 rfl hp24 rfl) ?_
   refine .quiet (.p rfl) rfl (fun _ => .neq rfl rfl) <| OD.sF 26 rfl (by exact decide_eq_false (by rw [e]; omega)) ?_
   refine ODx.nil <| S.condF rfl <| S.skip <| S.inBlock <| S.region rfl <| O.q 1 rfl <| O.op (.p rfl) (.add rfl rfl (IntWalk.i64_in _ (by omega))) <| O.q 1 rfl <| O.nil ?_
   exact S.wk (ih (i + 1) (by exact ⟨by omega, take_same hi hi2 hx2 e⟩) (by omega))
  ·have hne : xs[i].toNat ≠ ys[i].toNat := fun q => e (UInt8.toNat_inj.1 q)
   have hlt := lt_at hi hi2 hx2 e
   refine S.seq <| S.seq <| S.region rfl <| O.q 2 rfl <| O.op (.p rfl) (.len rfl Tryz.underlying31 rfl) <| O.op (.p rfl) (.lss rfl rfl) <| O.sT 9 rfl (by exact decide_eq_true (by omega)) ?_
   refine O.q 3 rfl <| O.op (.g rfl rfl) (.len rfl Tryz.underlying31 rfl) <| O.op (.g rfl rfl) (.lss rfl rfl) <| O.sT 14 rfl (by exact decide_eq_true (by omega)) ?_
   refine O.q 1 rfl <| O.nil <| S.condT rfl <| S.skip <| S.seq <| S.block <| S.seq <| S.regionD (L := [0, 1, 2, 3, 4, 5, 6, 7, 8]) F.mixed (by kernel_rfl) <| OD.q 2 rfl <| OD.ia (.p rfl) Tryz.underlying31 F.size5 rfl rfl rfl (by first | assumption | exact Arr.mono hg (by assumption) | exact Arr.left (by assumption) | exact Arr.left (Arr.mono hg (by assumption))) (h := fun p20 cs20 hp20 hr20 => ?_)
   cases hr20
   refine .quiet (.p rfl) rfl (fun _ => .loadAt F.flat5 rfl hp20 rfl) ?_
   refine OD.q 2 rfl <| OD.ia (.p rfl) Tryz.underlying31 F.size5 rfl rfl rfl (by first | assumption | exact Arr.mono hg (by assumption) | exact Arr.left (by assumption) | exact Arr.left (Arr.mono hg (by assumption))) (h := fun p24 cs24 hp24 hr24 => ?_)
   cases hr24
   refine .quiet (.p rfl) rfl (fun _ => .loadAt F.flat5 rfl hp24 rfl) ?_
   refine .quiet (.p rfl) rfl (fun _ => .neq rfl rfl) <| OD.sT 26 rfl (by exact decide_eq_true (by omega)) ?_
   refine ODx.nil <| S.condT rfl <| S.seq <| S.regionD (L := [0, 1, 2, 3, 4, 5, 6, 7, 8, 9]) F.mixed (by kernel_rfl) <| OD.q 2 rfl <| OD.ia (.p rfl) Tryz.underlying31 F.size5 rfl rfl rfl (by first | assumption | exact Arr.mono hg (by assumption) | exact Arr.left (by assumption) | exact Arr.left (Arr.mono hg (by assumption))) (h := fun p29 cs29 hp29 hr29 => ?_)
   cases hr29
   refine .quiet (.p rfl) rfl (fun _ => .loadAt F.flat5 rfl hp29 rfl) ?_
   refine OD.q 2 rfl <| OD.ia (.p rfl) Tryz.underlying31 F.size5 rfl rfl rfl (by first | assumption | exact Arr.mono hg (by assumption) | exact Arr.left (by assumption) | exact Arr.left (Arr.mono hg (by assumption))) (h := fun p33 cs33 hp33 hr33 => ?_)
   cases hr33
   refine .quiet (.p rfl) rfl (fun _ => .loadAt F.flat5 rfl hp33 rfl) ?_
   refine .quiet (.p rfl) rfl (fun _ => .lss rfl rfl) <| OD.q 1 rfl <| ODx.nil ?_
   exact S.rt Tryz.results242 rfl hR ⟨congrArg _ (decide_eq_decide.2 (by rw [hlt]; omega)), rfl⟩
 ·clear ih
  have hi1 : i = xs.length := by omega
  have hi2 : i = ys.length := by omega
  have he : xs = ys := by rw [← List.take_length (l := xs), ← hi1, hx2, hi2, List.take_length]
  refine S.seq <| S.seq <| S.region rfl <| O.q 2 rfl <| O.op (.p rfl) (.len rfl Tryz.underlying31 rfl) <| O.op (.p rfl) (.lss rfl rfl) <| O.sF 9 rfl (by exact decide_eq_false (by omega)) ?_
  refine O.q 6 rfl <| O.nil <| S.condF rfl <| S.exit rfl <| S.seq <| S.region rfl <| O.q 1 rfl <| O.nil ?_
  exact S.rt Tryz.results242 rfl hR ⟨congrArg _ (decide_eq_false (by rw [he]; exact List.lt_irrefl _)).symm, rfl⟩
theorem r16right_c {r : Fr} {cs : List Value} {v : EvdT} (h : EvdRp.rel r cs v) : Con Tryz.prog 155 #[.agg cs.toArray] r [] (Ret fun u η => u = .bool (evdOk v) ∧ η = []) := by
 obtain ⟨xa3, xa4, xa8, xa9, xc3, xc4, xc8, xc9, rfl, k0, k1, k2, k3, k4, k5, k6, k7, k8, k9⟩ := EvdRp.sh h
 have hO := evdOk_iff (e := v)
 have r1 : RootRp.rel r _ v.1 := RootRp.mk k0 k1 k2 k3 k4
 have r2 : RootRp.rel r _ v.2.1 := RootRp.mk k5 k6 k7 k8 k9
 refine Con.of (n := 43) _ rfl Tryz.func155 rfl rfl rfl fun g hg R hR => ?_
 have h := h.mono hg
 have r1 := r1.mono hg
 have r2 := r2.mono hg
 have k3 := k3.mono hg
 have k8 := k8.mono hg
 refine S.seq <| S.region rfl <| O.opE (.p rfl) (.box (cs := [_, _, _, _, _, _, _, _, _, _]) rfl rfl) ?_
 rintro _ _ ⟨b1, rfl, rfl⟩
 refine O.q 1 rfl <| O.nil <| S.seq <| S.frzO (by repeat (first | exact zh | apply zt)) fun g hs hm hb1 => ?_
 replace hg := Fr.sub_trans hg hs
 replace hR := melted hR hm
 try replace h := h.mono hs
 try replace r1 := r1.mono hs
 try replace r2 := r2.mono hs
 try replace k3 := k3.mono hs
 try replace k8 := k8.mono hs
 clear hs hm
 refine S.regionD (L := [0, 1, 2, 3, 4, 5, 6, 7]) F.mixed (by kernel_rfl) ?_
 refine .quiet (.p rfl) rfl (fun _ => .fieldAddr F.fld55x0 rfl) <| .quiet (.p rfl) rfl (fun _ => .loadAgg (cs := [_, _, _, _, _]) Tryz.isAgg52 (by kernel_rfl) rfl (hb1.take 5)) ?_
 refine .quiet (.p rfl) rfl (fun _ => .fieldAddr F.fld55x1 rfl) <| .quiet (.p rfl) rfl (fun _ => .loadAgg (cs := [_, _, _, _, _]) Tryz.isAgg52 (by kernel_rfl) rfl ((hb1.drop 5).take 5)) ?_
 refine .lazy rfl (by kernel_rfl) rfl fun b3 => ?_
 refine .lazy rfl (by kernel_rfl) rfl fun b4 => ?_
 refine OD.storeObj rfl (by kernel_rfl) (by kernel_rfl) rfl rfl rfl rfl (by repeat (first | exact zh | apply zt)) (by first | (simp; done) | (simp [Value.cells]; done)) ?_
 refine OD.storeObj rfl (by kernel_rfl) (by kernel_rfl) rfl rfl rfl rfl (by repeat (first | exact zh | apply zt)) (by first | (simp; done) | (simp [Value.cells]; done)) ?_
 refine ODx.nil (S.seq ?_)
 by_cases n0 : ¬ (rootOk v.1 = true)
 ·
  refine S.region rfl <| O.op (.p rfl) (.loA (news := [_, _, _, _, _]) Tryz.isAgg52) ?_
  refine O.call0 (.p rfl) rfl F.ok153 rfl rfl ((r15right_c (x := v.1) r1)) ?_
  rintro v10 _ ⟨rfl, rfl⟩
  try simp only [zx1, zx2, zx3]
  refine O.sF 10 rfl (by exact (by simpa using n0)) ?_
  refine O.q 33 rfl <| O.nil ?_
  exact S.rt Tryz.results155 rfl hR ⟨congrArg _ (Bool.eq_false_iff.2 fun q => n0 (hO.1 q).1).symm, rfl⟩
 have c0 := Classical.not_not.1 n0
 by_cases n1 : ¬ (rootOk v.2.1 = true)
 ·
  refine S.region rfl <| O.op (.p rfl) (.loA (news := [_, _, _, _, _]) Tryz.isAgg52) ?_
  refine O.call0 (.p rfl) rfl F.ok153 rfl rfl ((r15right_c (x := v.1) r1)) ?_
  rintro v10 _ ⟨rfl, rfl⟩
  try simp only [zx1, zx2, zx3]
  refine O.sT 10 rfl (by exact c0) ?_
  refine O.q 1 rfl <| O.op (.g rfl rfl) (.loA (news := [_, _, _, _, _]) Tryz.isAgg52) ?_
  refine O.call0 (.g rfl rfl) rfl F.ok153 rfl rfl ((r15right_c (x := v.2.1) r2)) ?_
  rintro v13 _ ⟨rfl, rfl⟩
  try simp only [zx1, zx2, zx3]
  refine O.sF 13 rfl (by exact (by simpa using n1)) ?_
  refine O.q 30 rfl <| O.nil ?_
  exact S.rt Tryz.results155 rfl hR ⟨congrArg _ (Bool.eq_false_iff.2 fun q => n1 (hO.1 q).2.1).symm, rfl⟩
 have c1 := Classical.not_not.1 n1
 have hl : v.1.2.2.2.1.length = v.2.1.2.2.2.1.length := by rw [(rootShape_iff.1 (rootOk_iff.1 c0).1).2.2.2.2.2.2, (rootShape_iff.1 (rootOk_iff.1 c1).1).2.2.2.2.2.2]
 by_cases n2 : ¬ (v.1.1 = v.2.1.1)
 ·
  refine S.region rfl <| O.op (.p rfl) (.loA (news := [_, _, _, _, _]) Tryz.isAgg52) ?_
  refine O.call0 (.p rfl) rfl F.ok153 rfl rfl ((r15right_c (x := v.1) r1)) ?_
  rintro v10 _ ⟨rfl, rfl⟩
  try simp only [zx1, zx2, zx3]
  refine O.sT 10 rfl (by exact c0) ?_
  refine O.q 1 rfl <| O.op (.g rfl rfl) (.loA (news := [_, _, _, _, _]) Tryz.isAgg52) ?_
  refine O.call0 (.g rfl rfl) rfl F.ok153 rfl rfl ((r15right_c (x := v.2.1) r2)) ?_
  rintro v13 _ ⟨rfl, rfl⟩
  try simp only [zx1, zx2, zx3]
  refine O.sT 13 rfl (by exact c1) ?_
  refine O.q 2 rfl <| O.op (.g rfl rfl) (.fieldObj F.fld52x0 rfl) <| O.op (.g rfl rfl) (.lo F.flat3) ?_
  refine O.op (.g rfl rfl) (.fieldObj F.fld52x0 rfl) <| O.op (.g rfl rfl) (.lo F.flat3) ?_
  refine O.op (.g rfl rfl) (.eql rfl rfl) <| O.sF 20 rfl (by exact decide_eq_false n2) ?_
  refine O.q 23 rfl <| O.nil ?_
  exact S.rt Tryz.results155 rfl hR ⟨congrArg _ (Bool.eq_false_iff.2 fun q => n2 (hO.1 q).2.2.1).symm, rfl⟩
 have c2 := Classical.not_not.1 n2
 by_cases n3 : ¬ (v.1.2.1 = v.2.1.2.1)
 ·
  refine S.region rfl <| O.op (.p rfl) (.loA (news := [_, _, _, _, _]) Tryz.isAgg52) ?_
  refine O.call0 (.p rfl) rfl F.ok153 rfl rfl ((r15right_c (x := v.1) r1)) ?_
  rintro v10 _ ⟨rfl, rfl⟩
  try simp only [zx1, zx2, zx3]
  refine O.sT 10 rfl (by exact c0) ?_
  refine O.q 1 rfl <| O.op (.g rfl rfl) (.loA (news := [_, _, _, _, _]) Tryz.isAgg52) ?_
  refine O.call0 (.g rfl rfl) rfl F.ok153 rfl rfl ((r15right_c (x := v.2.1) r2)) ?_
  rintro v13 _ ⟨rfl, rfl⟩
  try simp only [zx1, zx2, zx3]
  refine O.sT 13 rfl (by exact c1) ?_
  refine O.q 2 rfl <| O.op (.g rfl rfl) (.fieldObj F.fld52x0 rfl) <| O.op (.g rfl rfl) (.lo F.flat3) ?_
  refine O.op (.g rfl rfl) (.fieldObj F.fld52x0 rfl) <| O.op (.g rfl rfl) (.lo F.flat3) ?_
  refine O.op (.g rfl rfl) (.eql rfl rfl) <| O.sT 20 rfl (by exact decide_eq_true c2) ?_
  refine O.q 2 rfl <| O.op (.g rfl rfl) (.fieldObj F.fld52x1 rfl) <| O.op (.g rfl rfl) (.lo F.flat3) ?_
  refine O.op (.g rfl rfl) (.fieldObj F.fld52x1 rfl) <| O.op (.g rfl rfl) (.lo F.flat3) ?_
  refine O.op (.g rfl rfl) (.eql rfl rfl) <| O.sF 27 rfl (by exact decide_eq_false n3) ?_
  refine O.q 16 rfl <| O.nil ?_
  exact S.rt Tryz.results155 rfl hR ⟨congrArg _ (Bool.eq_false_iff.2 fun q => n3 (hO.1 q).2.2.2.1).symm, rfl⟩
 have c3 := Classical.not_not.1 n3
 by_cases n4 : ¬ (v.1.2.2.1 = v.2.1.2.2.1)
 ·
  refine S.region rfl <| O.op (.p rfl) (.loA (news := [_, _, _, _, _]) Tryz.isAgg52) ?_
  refine O.call0 (.p rfl) rfl F.ok153 rfl rfl ((r15right_c (x := v.1) r1)) ?_
  rintro v10 _ ⟨rfl, rfl⟩
  try simp only [zx1, zx2, zx3]
  refine O.sT 10 rfl (by exact c0) ?_
  refine O.q 1 rfl <| O.op (.g rfl rfl) (.loA (news := [_, _, _, _, _]) Tryz.isAgg52) ?_
  refine O.call0 (.g rfl rfl) rfl F.ok153 rfl rfl ((r15right_c (x := v.2.1) r2)) ?_
  rintro v13 _ ⟨rfl, rfl⟩
  try simp only [zx1, zx2, zx3]
  refine O.sT 13 rfl (by exact c1) ?_
  refine O.q 2 rfl <| O.op (.g rfl rfl) (.fieldObj F.fld52x0 rfl) <| O.op (.g rfl rfl) (.lo F.flat3) ?_
  refine O.op (.g rfl rfl) (.fieldObj F.fld52x0 rfl) <| O.op (.g rfl rfl) (.lo F.flat3) ?_
  refine O.op (.g rfl rfl) (.eql rfl rfl) <| O.sT 20 rfl (by exact decide_eq_true c2) ?_
  refine O.q 2 rfl <| O.op (.g rfl rfl) (.fieldObj F.fld52x1 rfl) <| O.op (.g rfl rfl) (.lo F.flat3) ?_
  refine O.op (.g rfl rfl) (.fieldObj F.fld52x1 rfl) <| O.op (.g rfl rfl) (.lo F.flat3) ?_
  refine O.op (.g rfl rfl) (.eql rfl rfl) <| O.sT 27 rfl (by exact decide_eq_true c3) ?_
  refine O.q 2 rfl <| O.op (.g rfl rfl) (.fieldObj F.fld52x2 rfl) <| O.op (.g rfl rfl) (.lo F.flat3) ?_
  refine O.op (.g rfl rfl) (.fieldObj F.fld52x2 rfl) <| O.op (.g rfl rfl) (.lo F.flat3) ?_
  refine O.op (.g rfl rfl) (.eql rfl rfl) <| O.sF 34 rfl (by exact decide_eq_false n4) ?_
  refine O.q 9 rfl <| O.nil ?_
  exact S.rt Tryz.results155 rfl hR ⟨congrArg _ (Bool.eq_false_iff.2 fun q => n4 (hO.1 q).2.2.2.2.1).symm, rfl⟩
 have c4 := Classical.not_not.1 n4
 by_cases n5 : ¬ (v.1.2.2.2.1 < v.2.1.2.2.2.1)
 ·
  refine S.region rfl <| O.op (.p rfl) (.loA (news := [_, _, _, _, _]) Tryz.isAgg52) ?_
  refine O.call0 (.p rfl) rfl F.ok153 rfl rfl ((r15right_c (x := v.1) r1)) ?_
  rintro v10 _ ⟨rfl, rfl⟩
  try simp only [zx1, zx2, zx3]
  refine O.sT 10 rfl (by exact c0) ?_
  refine O.q 1 rfl <| O.op (.g rfl rfl) (.loA (news := [_, _, _, _, _]) Tryz.isAgg52) ?_
  refine O.call0 (.g rfl rfl) rfl F.ok153 rfl rfl ((r15right_c (x := v.2.1) r2)) ?_
  rintro v13 _ ⟨rfl, rfl⟩
  try simp only [zx1, zx2, zx3]
  refine O.sT 13 rfl (by exact c1) ?_
  refine O.q 2 rfl <| O.op (.g rfl rfl) (.fieldObj F.fld52x0 rfl) <| O.op (.g rfl rfl) (.lo F.flat3) ?_
  refine O.op (.g rfl rfl) (.fieldObj F.fld52x0 rfl) <| O.op (.g rfl rfl) (.lo F.flat3) ?_
  refine O.op (.g rfl rfl) (.eql rfl rfl) <| O.sT 20 rfl (by exact decide_eq_true c2) ?_
  refine O.q 2 rfl <| O.op (.g rfl rfl) (.fieldObj F.fld52x1 rfl) <| O.op (.g rfl rfl) (.lo F.flat3) ?_
  refine O.op (.g rfl rfl) (.fieldObj F.fld52x1 rfl) <| O.op (.g rfl rfl) (.lo F.flat3) ?_
  refine O.op (.g rfl rfl) (.eql rfl rfl) <| O.sT 27 rfl (by exact decide_eq_true c3) ?_
  refine O.q 2 rfl <| O.op (.g rfl rfl) (.fieldObj F.fld52x2 rfl) <| O.op (.g rfl rfl) (.lo F.flat3) ?_
  refine O.op (.g rfl rfl) (.fieldObj F.fld52x2 rfl) <| O.op (.g rfl rfl) (.lo F.flat3) ?_
  refine O.op (.g rfl rfl) (.eql rfl rfl) <| O.sT 34 rfl (by exact decide_eq_true c4) ?_
  refine O.q 2 rfl <| O.op (.g rfl rfl) (.fieldObj F.fld52x3 rfl) <| O.op (.g rfl rfl) (.lo F.flat31) ?_
  refine O.op (.g rfl rfl) (.fieldObj F.fld52x3 rfl) <| O.op (.g rfl rfl) (.lo F.flat31) ?_
  refine O.call0 (.g rfl rfl) rfl F.ok242 rfl rfl ((r16ahead_c k3 k8 hl)) ?_
  rintro v41 _ ⟨rfl, rfl⟩
  try simp only [zx1, zx2, zx3]
  refine O.sF 41 rfl (by exact decide_eq_false n5) ?_
  refine O.q 2 rfl <| O.nil ?_
  exact S.rt Tryz.results155 rfl hR ⟨congrArg _ (Bool.eq_false_iff.2 fun q => n5 (hO.1 q).2.2.2.2.2).symm, rfl⟩
 have c5 := Classical.not_not.1 n5
 refine S.region rfl <| O.op (.p rfl) (.loA (news := [_, _, _, _, _]) Tryz.isAgg52) ?_
 refine O.call0 (.p rfl) rfl F.ok153 rfl rfl ((r15right_c (x := v.1) r1)) ?_
 rintro v10 _ ⟨rfl, rfl⟩
 try simp only [zx1, zx2, zx3]
 refine O.sT 10 rfl (by exact c0) ?_
 refine O.q 1 rfl <| O.op (.g rfl rfl) (.loA (news := [_, _, _, _, _]) Tryz.isAgg52) ?_
 refine O.call0 (.g rfl rfl) rfl F.ok153 rfl rfl ((r15right_c (x := v.2.1) r2)) ?_
 rintro v13 _ ⟨rfl, rfl⟩
 try simp only [zx1, zx2, zx3]
 refine O.sT 13 rfl (by exact c1) ?_
 refine O.q 2 rfl <| O.op (.g rfl rfl) (.fieldObj F.fld52x0 rfl) <| O.op (.g rfl rfl) (.lo F.flat3) ?_
 refine O.op (.g rfl rfl) (.fieldObj F.fld52x0 rfl) <| O.op (.g rfl rfl) (.lo F.flat3) ?_
 refine O.op (.g rfl rfl) (.eql rfl rfl) <| O.sT 20 rfl (by exact decide_eq_true c2) ?_
 refine O.q 2 rfl <| O.op (.g rfl rfl) (.fieldObj F.fld52x1 rfl) <| O.op (.g rfl rfl) (.lo F.flat3) ?_
 refine O.op (.g rfl rfl) (.fieldObj F.fld52x1 rfl) <| O.op (.g rfl rfl) (.lo F.flat3) ?_
 refine O.op (.g rfl rfl) (.eql rfl rfl) <| O.sT 27 rfl (by exact decide_eq_true c3) ?_
 refine O.q 2 rfl <| O.op (.g rfl rfl) (.fieldObj F.fld52x2 rfl) <| O.op (.g rfl rfl) (.lo F.flat3) ?_
 refine O.op (.g rfl rfl) (.fieldObj F.fld52x2 rfl) <| O.op (.g rfl rfl) (.lo F.flat3) ?_
 refine O.op (.g rfl rfl) (.eql rfl rfl) <| O.sT 34 rfl (by exact decide_eq_true c4) ?_
 refine O.q 2 rfl <| O.op (.g rfl rfl) (.fieldObj F.fld52x3 rfl) <| O.op (.g rfl rfl) (.lo F.flat31) ?_
 refine O.op (.g rfl rfl) (.fieldObj F.fld52x3 rfl) <| O.op (.g rfl rfl) (.lo F.flat31) ?_
 refine O.call0 (.g rfl rfl) rfl F.ok242 rfl rfl ((r16ahead_c k3 k8 hl)) ?_
 rintro v41 _ ⟨rfl, rfl⟩
 try simp only [zx1, zx2, zx3]
 refine O.sT 41 rfl (by exact decide_eq_true c5) ?_
 refine O.q 2 rfl <| O.nil ?_
 exact S.rt Tryz.results155 rfl hR ⟨congrArg _ (hO.2 ⟨c0, c1, c2, c3, c4, c5⟩).symm, rfl⟩
theorem r16put_c {r : Fr} {cs : List Value} {v : EvdT} (h : EvdRp.rel r cs v) :
  Con Tryz.prog 67 #[.agg cs.toArray] r [] (Ret fun u η => ∃ a c, u = .tuple #[.slice a (evdOut v).length c, .int .i64 (evdErr v)] ∧ η = [OwnP Rp.u8 5 (.slice a (evdOut v).length c) (evdOut v)]) := by
 obtain ⟨xa3, xa4, xa8, xa9, xc3, xc4, xc8, xc9, rfl, k0, k1, k2, k3, k4, k5, k6, k7, k8, k9⟩ := EvdRp.sh h
 have r1 : RootRp.rel r _ v.1 := RootRp.mk k0 k1 k2 k3 k4
 have r2 : RootRp.rel r _ v.2.1 := RootRp.mk k5 k6 k7 k8 k9
 refine Con.of (n := 29) _ rfl Tryz.func67 rfl rfl rfl fun g hg R hR => ?_
 have h := h.mono hg
 have r1 := r1.mono hg
 have r2 := r2.mono hg
 refine S.seq <| S.region rfl <| O.opE (.p rfl) (.box (cs := [_, _, _, _, _, _, _, _, _, _]) rfl rfl) ?_
 rintro _ _ ⟨b1, rfl, rfl⟩
 refine O.q 2 rfl <| O.nil <| S.seq <| S.seq <| S.frzO (by repeat (first | exact zh | apply zt)) fun g hs hm hb1 => ?_
 replace hg := Fr.sub_trans hg hs
 replace hR := melted hR hm
 try replace h := h.mono hs
 try replace r1 := r1.mono hs
 try replace r2 := r2.mono hs
 clear hs hm
 cases e : evdOk v with
 | false =>
  have e1 : evdOut v = [] := by simp [evdOut, e]
  have e2 : evdErr v = 4 := by simp [evdErr, e]
  rw [e1, e2] at hR
  refine S.region rfl <| O.op (.p rfl) (.loadAgg Tryz.isAgg55 (by kernel_rfl) rfl hb1) ?_
  refine O.call0 (.p rfl) rfl F.ok155 rfl rfl ((r16right_c h)) ?_
  rintro v9 _ ⟨rfl, rfl⟩
  try simp only [zx1, zx2, zx3]
  refine O.sF 9 rfl (by exact e) ?_
  refine O.op (.p rfl) (.not rfl) <| O.nil <| S.condT rfl <| S.seq <| S.region rfl <| O.q 2 rfl <| O.nil <| S.addNil (T := Rp.u8) (e := 5) ?_
  refine S.ret2 Tryz.results67 rfl rfl fun w hw => Holds.end_ hR hw ?_
  exact pk ⟨none, 0, rfl, rfl⟩
 | true =>
  have hO := evdOk_iff.1 e
  have o1 : rootOut v.1 = rootB v.1 := by simp [rootOut, hO.1]
  have o2 : rootOut v.2.1 = rootB v.2.1 := by simp [rootOut, hO.2.1]
  have l1 := rootB_length hO.1
  have l2 := rootB_length hO.2.1
  have e1 : evdOut v = evdB v := by simp [evdOut, e]
  have e2 : evdErr v = 0 := by simp [evdErr, e]
  have hl := evdB_length e
  have hfl : [bytesOf (rootB v.1), bytesOf (rootB v.2.1)].flatten = evdB v := by simp [evdB]
  rw [e1, e2] at hR
  refine S.region rfl <| O.op (.p rfl) (.loadAgg Tryz.isAgg55 (by kernel_rfl) rfl hb1) ?_
  refine O.call0 (.p rfl) rfl F.ok155 rfl rfl ((r16right_c h)) ?_
  rintro v9 _ ⟨rfl, rfl⟩
  try simp only [zx1, zx2, zx3]
  refine O.sT 9 rfl (by exact e) ?_
  refine O.op (.p rfl) (.not rfl) <| O.nil <| S.condF rfl <| S.skip <| S.seq <| S.region rfl <| O.op (.p rfl) (.fieldAddr F.fld55x0 rfl) <| O.op (.p rfl) (.loadAgg (cs := [_, _, _, _, _]) Tryz.isAgg52 (by kernel_rfl) rfl (hb1.take 5)) ?_
  refine O.call0 (.p rfl) rfl F.ok66 rfl rfl ((r15put_c (x := v.1) r1)) ?_
  rintro v14 _ ⟨a14, c14, rfl, rfl⟩
  try simp only [zx1, zx2, zx3]
  rw [o1]
  refine O.q 5 rfl <| O.nil <| S.seq <| S.region rfl <| O.op (.p rfl) (.fieldAddr F.fld55x1 rfl) <| O.op (.p rfl) (.loadAgg (cs := [_, _, _, _, _]) Tryz.isAgg52 (by kernel_rfl) rfl ((hb1.drop 5).take 5)) ?_
  refine O.call0 (.p rfl) rfl F.ok66 rfl rfl ((r15put_c (x := v.2.1) r2)) ?_
  rintro v20 _ ⟨a20, c20, rfl, rfl⟩
  try simp only [zx1, zx2, zx3]
  rw [o2]
  refine O.q 5 rfl <| O.nil <| S.seq <| S.region rfl <| O.q 1 rfl <| O.callB (.p rfl) rfl F.ok65 rfl rfl (bs := [OwnP Rp.u8 5 (.slice a14 (rootB v.1).length c14) (rootB v.1)]) (by repeat (first | exact zsn | (apply zsc; focus (repeat (first | exact zh | apply zt))))) (fun m hm hd => refBytes_c (hm.arr.right hd) (by omega)) ?_
  rintro v24 _ ⟨a24, c24, rfl, rfl⟩
  try simp only [zx1, zx2, zx3]
  refine O.q 1 rfl <| O.callB (.p rfl) rfl F.ok65 rfl rfl (bs := [OwnP Rp.u8 5 (.slice a20 (rootB v.2.1).length c20) (rootB v.2.1)]) (by repeat (first | exact zsn | (apply zsc; focus (repeat (first | exact zh | apply zt))))) (fun m hm hd => refBytes_c (hm.arr.right hd) (by omega)) ?_
  rintro v26 _ ⟨a26, c26, rfl, rfl⟩
  try simp only [zx1, zx2, zx3]
  refine O.opE (.p rfl) (.litP (T := Rp.val) (ys := [_, _]) Tryz.underlying39 F.elem31 (by decide) rfl rfl ⟨⟨rfl, rfl⟩, ⟨rfl, rfl⟩, trivial⟩ (by decide)) ?_
  rintro _ _ ⟨a27, c27, rfl, rfl⟩
  refine O.callB (.p rfl) rfl F.ok64 rfl rfl (bs := [OwnP Rp.val 31 (.slice a27 2 c27) [.slice a24 (bytesOf (rootB v.1)).length c24, .slice a26 (bytesOf (rootB v.2.1)).length c26], OwnP Rp.u8 5 (.slice a24 (bytesOf (rootB v.1)).length c24) (bytesOf (rootB v.1)), OwnP Rp.u8 5 (.slice a26 (bytesOf (rootB v.2.1)).length c26) (bytesOf (rootB v.2.1))]) (by repeat (first | exact zsn | (apply zsc; focus (repeat (first | exact zh | apply zt))))) (fun m hm hd => refJoin_c (xss := [bytesOf (rootB v.1), bytesOf (rootB v.2.1)]) ((hm.arr.right hd).rows ⟨hm.tail.arr.right hd, hm.tail.tail.arr.right hd, trivial⟩) (by rw [hfl]; omega)) ?_
  rintro v28 _ ⟨a28, c28, rfl, rfl⟩
  try simp only [zx1, zx2, zx3]
  rw [hfl]
  refine O.q 2 rfl <| O.nil <| S.ret2 Tryz.results67 rfl rfl fun w hw => Holds.end_ hR hw ?_
  exact pk ⟨a28, c28, rfl, rfl⟩
end Go.Proofs.YtodhbhanmdfdeaaGreat
end
section
/- Texts of this proof. -/
open Go Go.Sp
set_option maxRecDepth 100000
attribute [local irreducible] obj Own OwnP
namespace Go.Proofs.YtodhbhanmdfdeaaGreat
theorem r7dot_c {r : Fr} {a b : Int} (d : DotT) (h : d = (a, b, ())) : Con Tryz.prog 286 #[.agg #[.int .i64 a, .int .i64 b]] r [] (Ret fun v η => v = .bool (dotOk d) ∧ η = []) := by
 subst h
 refine Con.of (n := 21) _ rfl Tryz.func286 rfl rfl rfl fun g hg R hR => ?_
 refine S.seq <| S.region rfl <| O.opE (.p rfl) (.box (cs := [_, _]) rfl rfl) ?_
 rintro _ _ ⟨b1, rfl, rfl⟩
 refine O.q 1 rfl <| O.nil <| S.seq <| S.region rfl <| O.op (.p rfl) (.fieldObj F.fld166x0 rfl) <| O.op (.p rfl) (.lo F.flat3) ?_
 refine O.op (.p rfl) (.geq rfl rfl) <| O.q 1 rfl ?_
 first | refine O.caseD 6 rfl (fun h6 => ?_) (fun h6 => ?_) | refine O.caseB 6 rfl (fun h6 => ?_) (fun h6 => ?_)
 ·refine O.op (.g rfl rfl) (.fieldObj F.fld166x0 rfl) <| O.op (.g rfl rfl) (.lo F.flat3) ?_
  refine O.op (.g rfl rfl) (.leq rfl rfl) <| O.q 2 rfl ?_
  first | refine O.caseD 11 rfl (fun h11 => ?_) (fun h11 => ?_) | refine O.caseB 11 rfl (fun h11 => ?_) (fun h11 => ?_)
  ·refine O.op (.g rfl rfl) (.fieldObj F.fld166x1 rfl) <| O.op (.g rfl rfl) (.lo F.flat3) ?_
   refine O.op (.g rfl rfl) (.geq rfl rfl) <| O.q 2 rfl ?_
   first | refine O.caseD 16 rfl (fun h16 => ?_) (fun h16 => ?_) | refine O.caseB 16 rfl (fun h16 => ?_) (fun h16 => ?_)
   ·refine O.op (.g rfl rfl) (.fieldObj F.fld166x1 rfl) <| O.op (.g rfl rfl) (.lo F.flat3) ?_
    refine O.op (.g rfl rfl) (.leq rfl rfl) <| O.q 2 rfl <| O.nil <| S.ret Tryz.results286 rfl fun w hw => Holds.end_ hR hw ?_
    first | exact ⟨_, ⟨congrArg _ (decide_eq_false (by simp only []; omega)).symm, rfl⟩, by repeat (first | exact zpa | exact zpn | (apply zpc; focus (repeat (first | exact zh | apply zt))) | apply zps)⟩ | exact ⟨_, ⟨congrArg _ (decide_eq_decide.2 (by simp only []; omega)), rfl⟩, by repeat (first | exact zpa | exact zpn | (apply zpc; focus (repeat (first | exact zh | apply zt))) | apply zps)⟩
   ·refine O.q 5 rfl <| O.nil <| S.ret Tryz.results286 rfl fun w hw => Holds.end_ hR hw ?_
    first | exact ⟨_, ⟨congrArg _ (decide_eq_false (by simp only []; omega)).symm, rfl⟩, by repeat (first | exact zpa | exact zpn | (apply zpc; focus (repeat (first | exact zh | apply zt))) | apply zps)⟩ | exact ⟨_, ⟨congrArg _ (decide_eq_decide.2 (by simp only []; omega)), rfl⟩, by repeat (first | exact zpa | exact zpn | (apply zpc; focus (repeat (first | exact zh | apply zt))) | apply zps)⟩
  ·refine O.q 10 rfl <| O.nil <| S.ret Tryz.results286 rfl fun w hw => Holds.end_ hR hw ?_
   first | exact ⟨_, ⟨congrArg _ (decide_eq_false (by simp only []; omega)).symm, rfl⟩, by repeat (first | exact zpa | exact zpn | (apply zpc; focus (repeat (first | exact zh | apply zt))) | apply zps)⟩ | exact ⟨_, ⟨congrArg _ (decide_eq_decide.2 (by simp only []; omega)), rfl⟩, by repeat (first | exact zpa | exact zpn | (apply zpc; focus (repeat (first | exact zh | apply zt))) | apply zps)⟩
 ·refine O.q 15 rfl <| O.nil <| S.ret Tryz.results286 rfl fun w hw => Holds.end_ hR hw ?_
  first | exact ⟨_, ⟨congrArg _ (decide_eq_false (by simp only []; omega)).symm, rfl⟩, by repeat (first | exact zpa | exact zpn | (apply zpc; focus (repeat (first | exact zh | apply zt))) | apply zps)⟩ | exact ⟨_, ⟨congrArg _ (decide_eq_decide.2 (by simp only []; omega)), rfl⟩, by repeat (first | exact zpa | exact zpn | (apply zpc; focus (repeat (first | exact zh | apply zt))) | apply zps)⟩
theorem r7right_c {r : Fr} {va : Value} {v : List DotT} (ha : Arr DotRp r va v) : Con Tryz.prog 287 #[va] r [] (Ret fun u η => u = .bool (vecOk v) ∧ η = []) := by
 refine Con.of (n := 34) _ rfl Tryz.func287 rfl rfl rfl fun g hg R hR => ?_
 have ha := ha.mono hg
 have hbd := ha.bound
 obtain ⟨a1, c1, rfl⟩ := ha.shape
 refine S.seq <| S.region rfl <| O.q 1 rfl <| O.nil <| S.seq <| S.seq <| S.region rfl <| O.q 1 rfl <| O.nil <| S.block <| S.loopK (ι := Nat) (fun k => k ≤ v.length ∧ vecOk (v.take k) = true) (fun k => [(3, .int .i64 (k : Int))]) [(0, _)] (fun k => []) (fun k => v.length - k) (0) (by exact ⟨by simp, rfl⟩) (.cons rfl (.nil)) (.cons rfl (.nil)) rfl fun k hx ih => ?_
 have hm1 := meltRefl (g := g)
 obtain ⟨hx1, hx2⟩ := hx
 refine S.seq <| S.seq <| S.region rfl <| O.q 2 rfl <| O.op (.p rfl) (.len rfl Tryz.underlying72 rfl) <| O.op (.p rfl) (.lss rfl rfl) <| O.nil ?_
 first | refine S.condD rfl (fun h7 => ?_) (fun h7 => ?_) | refine S.condB rfl (fun h7 => ?_) (fun h7 => ?_)
 ·have hk : k < v.length := by omega
  have hst := vecOk_step hk hx2
  by_cases hd : dotOk v[k] = true
  ·by_cases h0 : k = 0
   ·
    refine S.skip <| S.seq <| S.block <| S.seq <| S.regionD (L := [0, 1, 2, 3, 4, 5, 6, 7, 8, 9, 10, 11, 12, 13, 14, 15, 16, 17, 18, 19, 20, 21, 22, 23]) F.mixed (by kernel_rfl) <| OD.q 2 rfl <| OD.ia (.p rfl) Tryz.underlying72 F.size166 rfl rfl rfl (by first | assumption | exact Arr.mono hg (by assumption) | exact Arr.left (by assumption) | exact Arr.left (Arr.mono hg (by assumption))) (h := fun p12 cs12 hp12 hr12 => ?_)
    obtain ⟨rfl, hi12, hj12⟩ := DotRp.open hr12
    refine .quiet (.p rfl) rfl (fun _ => .loadAgg Tryz.isAgg166 (by kernel_rfl) rfl hp12) ?_
    refine OD.call0 (.p rfl) (by kernel_rfl) rfl F.ok286 rfl rfl ((r7dot_c v[k] rfl)) ?_
    rintro v14 _ ⟨rfl, rfl⟩
    try simp only [zx1, zx2, zx3]
    refine OD.sT 14 rfl (by exact hd) ?_
    refine .quiet (.p rfl) rfl (fun _ => .not rfl) <| OD.q 2 rfl <| .quiet (.g rfl rfl) rfl (fun _ => .gtr rfl rfl) <| OD.sF 18 rfl (by exact decide_eq_false (by omega)) ?_
    refine OD.q 15 rfl <| ODx.nil <| S.condF rfl <| S.skip <| S.inBlock <| S.region rfl <| O.q 1 rfl <| O.op (.p rfl) (.add rfl rfl (IntWalk.i64_in _ (by omega))) <| O.q 1 rfl <| O.nil ?_
    exact S.wk (ih (k + 1) (by exact ⟨by omega, hst.2 ⟨hd, fun h => absurd h (by omega)⟩⟩) (by omega))
   ·have hk1 : k - 1 < v.length := by omega
    by_cases hlt : v[k - 1].1 < v[k].1
    ·
     refine S.skip <| S.seq <| S.block <| S.seq <| S.regionD (L := [0, 1, 2, 3, 4, 5, 6, 7, 8, 9, 10, 11, 12, 13, 14, 15, 16, 17, 18, 19, 20, 21, 22, 23]) F.mixed (by kernel_rfl) <| OD.q 2 rfl <| OD.ia (.p rfl) Tryz.underlying72 F.size166 rfl rfl rfl (by first | assumption | exact Arr.mono hg (by assumption) | exact Arr.left (by assumption) | exact Arr.left (Arr.mono hg (by assumption))) (h := fun p12 cs12 hp12 hr12 => ?_)
     obtain ⟨rfl, hi12, hj12⟩ := DotRp.open hr12
     refine .quiet (.p rfl) rfl (fun _ => .loadAgg Tryz.isAgg166 (by kernel_rfl) rfl hp12) ?_
     refine OD.call0 (.p rfl) (by kernel_rfl) rfl F.ok286 rfl rfl ((r7dot_c v[k] rfl)) ?_
     rintro v14 _ ⟨rfl, rfl⟩
     try simp only [zx1, zx2, zx3]
     refine OD.sT 14 rfl (by exact hd) ?_
     refine .quiet (.p rfl) rfl (fun _ => .not rfl) <| OD.q 2 rfl <| .quiet (.g rfl rfl) rfl (fun _ => .gtr rfl rfl) <| OD.sT 18 rfl (by exact decide_eq_true (by omega)) ?_
     refine OD.q 3 rfl <| .quiet (.g rfl rfl) rfl (fun _ => .sub rfl rfl (IntWalk.i64_in _ (by omega))) <| OD.ia (.g rfl rfl) Tryz.underlying72 F.size166 rfl rfl (show _ = (((k - 1) : Nat) : Int) by omega) (by first | assumption | exact Arr.mono hg (by assumption) | exact Arr.left (by assumption) | exact Arr.left (Arr.mono hg (by assumption))) (h := fun p23 cs23 hp23 hr23 => ?_)
     obtain ⟨rfl, hi23, hj23⟩ := DotRp.open hr23
     refine .quiet (.g rfl rfl) rfl (fun _ => .fieldAddr F.fld166x0 rfl) <| .quiet (.g rfl rfl) rfl (fun _ => .loadAt F.flat3 rfl hp23 rfl) ?_
     refine OD.q 2 rfl <| OD.ia (.g rfl rfl) Tryz.underlying72 F.size166 rfl rfl rfl (by first | assumption | exact Arr.mono hg (by assumption) | exact Arr.left (by assumption) | exact Arr.left (Arr.mono hg (by assumption))) (h := fun p28 cs28 hp28 hr28 => ?_)
     obtain ⟨rfl, hi28, hj28⟩ := DotRp.open hr28
     refine .quiet (.g rfl rfl) rfl (fun _ => .fieldAddr F.fld166x0 rfl) <| .quiet (.g rfl rfl) rfl (fun _ => .loadAt F.flat3 rfl hp28 rfl) ?_
     refine .quiet (.g rfl rfl) rfl (fun _ => .geq rfl rfl) <| OD.sF 31 rfl (by exact decide_eq_false (by omega)) ?_
     refine OD.q 2 rfl <| ODx.nil <| S.condF rfl <| S.skip <| S.inBlock <| S.region rfl <| O.q 1 rfl <| O.op (.p rfl) (.add rfl rfl (IntWalk.i64_in _ (by omega))) <| O.q 1 rfl <| O.nil ?_
     exact S.wk (ih (k + 1) (by exact ⟨by omega, hst.2 ⟨hd, fun _ => hlt⟩⟩) (by omega))
    ·
     refine S.skip <| S.seq <| S.block <| S.seq <| S.regionD (L := [0, 1, 2, 3, 4, 5, 6, 7, 8, 9, 10, 11, 12, 13, 14, 15, 16, 17, 18, 19, 20, 21, 22, 23]) F.mixed (by kernel_rfl) <| OD.q 2 rfl <| OD.ia (.p rfl) Tryz.underlying72 F.size166 rfl rfl rfl (by first | assumption | exact Arr.mono hg (by assumption) | exact Arr.left (by assumption) | exact Arr.left (Arr.mono hg (by assumption))) (h := fun p12 cs12 hp12 hr12 => ?_)
     obtain ⟨rfl, hi12, hj12⟩ := DotRp.open hr12
     refine .quiet (.p rfl) rfl (fun _ => .loadAgg Tryz.isAgg166 (by kernel_rfl) rfl hp12) ?_
     refine OD.call0 (.p rfl) (by kernel_rfl) rfl F.ok286 rfl rfl ((r7dot_c v[k] rfl)) ?_
     rintro v14 _ ⟨rfl, rfl⟩
     try simp only [zx1, zx2, zx3]
     refine OD.sT 14 rfl (by exact hd) ?_
     refine .quiet (.p rfl) rfl (fun _ => .not rfl) <| OD.q 2 rfl <| .quiet (.g rfl rfl) rfl (fun _ => .gtr rfl rfl) <| OD.sT 18 rfl (by exact decide_eq_true (by omega)) ?_
     refine OD.q 3 rfl <| .quiet (.g rfl rfl) rfl (fun _ => .sub rfl rfl (IntWalk.i64_in _ (by omega))) <| OD.ia (.g rfl rfl) Tryz.underlying72 F.size166 rfl rfl (show _ = (((k - 1) : Nat) : Int) by omega) (by first | assumption | exact Arr.mono hg (by assumption) | exact Arr.left (by assumption) | exact Arr.left (Arr.mono hg (by assumption))) (h := fun p23 cs23 hp23 hr23 => ?_)
     obtain ⟨rfl, hi23, hj23⟩ := DotRp.open hr23
     refine .quiet (.g rfl rfl) rfl (fun _ => .fieldAddr F.fld166x0 rfl) <| .quiet (.g rfl rfl) rfl (fun _ => .loadAt F.flat3 rfl hp23 rfl) ?_
     refine OD.q 2 rfl <| OD.ia (.g rfl rfl) Tryz.underlying72 F.size166 rfl rfl rfl (by first | assumption | exact Arr.mono hg (by assumption) | exact Arr.left (by assumption) | exact Arr.left (Arr.mono hg (by assumption))) (h := fun p28 cs28 hp28 hr28 => ?_)
     obtain ⟨rfl, hi28, hj28⟩ := DotRp.open hr28
     refine .quiet (.g rfl rfl) rfl (fun _ => .fieldAddr F.fld166x0 rfl) <| .quiet (.g rfl rfl) rfl (fun _ => .loadAt F.flat3 rfl hp28 rfl) ?_
     refine .quiet (.g rfl rfl) rfl (fun _ => .geq rfl rfl) <| OD.sT 31 rfl (by exact decide_eq_true (by omega)) ?_
     refine OD.q 2 rfl <| ODx.nil <| S.condT rfl <| S.seq <| S.region rfl <| O.q 1 rfl <| O.nil ?_
     exact S.rt Tryz.results287 rfl hR ⟨congrArg _ (vecOk_none (i := k + 1) (Bool.eq_false_iff.2 fun e => hlt ((hst.1 e).2 (by omega)))).symm, rfl⟩
  ·have hd' : dotOk v[k] = false := by simpa using hd
   refine S.skip <| S.seq <| S.block <| S.seq <| S.regionD (L := [0, 1, 2, 3, 4, 5, 6, 7, 8, 9, 10, 11, 12, 13, 14, 15, 16, 17, 18, 19, 20, 21, 22, 23]) F.mixed (by kernel_rfl) <| OD.q 2 rfl <| OD.ia (.p rfl) Tryz.underlying72 F.size166 rfl rfl rfl (by first | assumption | exact Arr.mono hg (by assumption) | exact Arr.left (by assumption) | exact Arr.left (Arr.mono hg (by assumption))) (h := fun p12 cs12 hp12 hr12 => ?_)
   obtain ⟨rfl, hi12, hj12⟩ := DotRp.open hr12
   refine .quiet (.p rfl) rfl (fun _ => .loadAgg Tryz.isAgg166 (by kernel_rfl) rfl hp12) ?_
   refine OD.call0 (.p rfl) (by kernel_rfl) rfl F.ok286 rfl rfl ((r7dot_c v[k] rfl)) ?_
   rintro v14 _ ⟨rfl, rfl⟩
   try simp only [zx1, zx2, zx3]
   refine OD.sF 14 rfl (by exact hd') ?_
   refine .quiet (.p rfl) rfl (fun _ => .not rfl) <| OD.q 18 rfl <| ODx.nil <| S.condT rfl <| S.seq <| S.region rfl <| O.q 1 rfl <| O.nil ?_
   exact S.rt Tryz.results287 rfl hR ⟨congrArg _ (vecOk_none (i := k + 1) (Bool.eq_false_iff.2 fun e => hd (hst.1 e).1)).symm, rfl⟩
 ·clear ih
  have hk : k = v.length := by omega
  subst hk
  rw [List.take_length] at hx2
  refine S.exit rfl <| S.seq <| S.region rfl <| O.q 1 rfl <| O.nil ?_
  exact S.rt Tryz.results287 rfl hR ⟨by rw [hx2], rfl⟩
theorem r7up_c {r : Fr} {va : Value} {v : List DotT} (c : Int) (ha : Arr DotRp r va v) (ho : vecOk v = true) :
  Con Tryz.prog 288 #[va, .int .i64 c] r [] (Ret fun u η => ∃ z, u = .int .i64 z ∧ (∀ s, 1 ≤ s → decide (s ≤ z) = hasM v (c, s, ())) ∧ η = []) := by
 have hri := (vecOk_iff.1 ho).2
 refine Con.of (n := 24) _ rfl Tryz.func288 rfl rfl rfl fun g hg R hR => ?_
 have ha := ha.mono hg
 have hbd := ha.bound
 obtain ⟨a1, c1, rfl⟩ := ha.shape
 refine S.seq <| S.region rfl <| O.q 1 rfl <| O.nil <| S.seq <| S.seq <| S.region rfl <| O.q 1 rfl <| O.nil <| S.block <| S.loopK (ι := Nat) (fun k => k ≤ v.length ∧ ∀ x ∈ v.take k, ¬ x.1 = c) (fun k => [(5, .int .i64 (k : Int))]) [(0, _), (1, _)] (fun k => []) (fun k => v.length - k) (0) (by exact ⟨by simp, by simp⟩) (.cons rfl (.nil)) (.cons rfl (.cons rfl (.nil))) rfl fun k hx ih => ?_
 have hm1 := meltRefl (g := g)
 obtain ⟨hx1, hx2⟩ := hx
 refine S.seq <| S.seq <| S.region rfl <| O.q 2 rfl <| O.op (.p rfl) (.len rfl Tryz.underlying72 rfl) <| O.op (.p rfl) (.lss rfl rfl) <| O.nil ?_
 first | refine S.condD rfl (fun h9 => ?_) (fun h9 => ?_) | refine S.condB rfl (fun h9 => ?_) (fun h9 => ?_)
 ·have hk : k < v.length := by omega
  by_cases e : v[k].1 = c
  ·
   refine S.skip <| S.seq <| S.block <| S.seq <| S.region rfl <| O.q 2 rfl <| O.ia (.p rfl) Tryz.underlying72 F.size166 rfl rfl rfl (by first | assumption | exact Arr.mono hg (by assumption) | exact Arr.left (by assumption) | exact Arr.left (Arr.mono hg (by assumption))) (h := fun p14 cs14 hp14 hr14 => ?_)
   obtain ⟨rfl, hi14, hj14⟩ := DotRp.open hr14
   refine O.op (.p rfl) (.fieldAddr F.fld166x0 rfl) <| O.op (.p rfl) (.loadAt F.flat3 rfl hp14 rfl) ?_
   refine O.q 1 rfl <| O.op (.p rfl) (.eql rfl rfl) <| O.sT 18 rfl (by exact decide_eq_true e) ?_
   refine O.nil <| S.condT rfl <| S.seq <| S.region rfl <| O.q 2 rfl <| O.ia (.p rfl) Tryz.underlying72 F.size166 rfl rfl rfl (by first | assumption | exact Arr.mono hg (by assumption) | exact Arr.left (by assumption) | exact Arr.left (Arr.mono hg (by assumption))) (h := fun p21 cs21 hp21 hr21 => ?_)
   obtain ⟨rfl, hi21, hj21⟩ := DotRp.open hr21
   refine O.op (.p rfl) (.fieldAddr F.fld166x1 rfl) <| O.op (.p rfl) (.loadAt F.flat3 rfl (hp21.drop 1) rfl) ?_
   refine O.q 1 rfl <| O.nil ?_
   exact S.rt Tryz.results288 rfl hR ⟨_, rfl, fun s _ => (hasM_at (d := (c, s, ())) hri hk e).symm, rfl⟩
  ·
   refine S.skip <| S.seq <| S.block <| S.seq <| S.region rfl <| O.q 2 rfl <| O.ia (.p rfl) Tryz.underlying72 F.size166 rfl rfl rfl (by first | assumption | exact Arr.mono hg (by assumption) | exact Arr.left (by assumption) | exact Arr.left (Arr.mono hg (by assumption))) (h := fun p14 cs14 hp14 hr14 => ?_)
   obtain ⟨rfl, hi14, hj14⟩ := DotRp.open hr14
   refine O.op (.p rfl) (.fieldAddr F.fld166x0 rfl) <| O.op (.p rfl) (.loadAt F.flat3 rfl hp14 rfl) ?_
   refine O.q 1 rfl <| O.op (.p rfl) (.eql rfl rfl) <| O.sF 18 rfl (by exact decide_eq_false e) ?_
   refine O.nil <| S.condF rfl <| S.skip <| S.inBlock <| S.region rfl <| O.q 1 rfl <| O.op (.p rfl) (.add rfl rfl (IntWalk.i64_in _ (by omega))) <| O.q 1 rfl <| O.nil ?_
   exact S.wk (ih (k + 1) (by exact ⟨by omega, mem_take_succ hk hx2 e⟩) (by omega))
 ·clear ih
  have hk : k = v.length := by omega
  subst hk
  rw [List.take_length] at hx2
  refine S.exit rfl <| S.seq <| S.region rfl <| O.q 1 rfl <| O.nil ?_
  exact S.rt Tryz.results288 rfl hR ⟨0, rfl, fun s hs => by rw [decide_eq_false (by omega)]; exact (List.any_eq_false.2 fun x hx => by simp [hx2 x hx]).symm, rfl⟩
theorem r7has_c {r : Fr} {va : Value} {v : List DotT} {a b : Int} (d : DotT) (h : d = (a, b, ())) (ha : Arr DotRp r va v) :
  Con Tryz.prog 216 #[va, .agg #[.int .i64 a, .int .i64 b]] r [] (Ret fun u η => u = .bool (hasR v d) ∧ η = []) := by
 subst h
 refine Con.of (n := 20) _ rfl Tryz.func216 rfl rfl rfl fun g hg R hR => ?_
 have ha := ha.mono hg
 obtain ⟨a1, c1, rfl⟩ := ha.shape
 refine S.seq <| S.region rfl <| O.opE (.p rfl) (.box (cs := [_, _]) rfl rfl) ?_
 rintro _ _ ⟨b3, rfl, rfl⟩
 refine O.q 1 rfl <| O.nil <| S.seq <| S.frzO (by repeat (first | exact zh | apply zt)) fun g hs hm hb3 => ?_
 replace hg := Fr.sub_trans hg hs
 replace hR := melted hR hm
 try replace ha := ha.mono hs
 clear hs hm
 cases e1 : vecOk v with
 | false =>
  refine S.regionD (L := [0, 1, 2, 3, 4, 5, 6, 7, 8, 9, 11, 12, 10, 13, 14, 15]) F.mixed (by kernel_rfl) ?_
  refine OD.q 1 rfl <| OD.call0 (.p rfl) (by kernel_rfl) rfl F.ok287 rfl rfl ((r7right_c ha)) ?_
  rintro v6 _ ⟨rfl, rfl⟩
  try simp only [zx1, zx2, zx3]
  refine OD.sF 6 rfl (by exact e1) ?_
  refine OD.q 14 rfl <| ODx.nil ?_
  exact S.rt Tryz.results216 rfl hR ⟨by simp [hasR, e1], rfl⟩
 | true =>
  cases e2 : dotOk (a, b, ()) with
  | false =>
   refine S.regionD (L := [0, 1, 2, 3, 4, 5, 6, 7, 8, 9, 11, 12, 10, 13, 14, 15]) F.mixed (by kernel_rfl) ?_
   refine OD.q 1 rfl <| OD.call0 (.p rfl) (by kernel_rfl) rfl F.ok287 rfl rfl ((r7right_c ha)) ?_
   rintro v6 _ ⟨rfl, rfl⟩
   try simp only [zx1, zx2, zx3]
   refine OD.sT 6 rfl (by exact e1) ?_
   refine OD.q 1 rfl <| .quiet (.g rfl rfl) rfl (fun _ => .loadAgg Tryz.isAgg166 (by kernel_rfl) rfl hb3) ?_
   refine OD.call0 (.g rfl rfl) (by kernel_rfl) rfl F.ok286 rfl rfl ((r7dot_c _ rfl)) ?_
   rintro v9 _ ⟨rfl, rfl⟩
   try simp only [zx1, zx2, zx3]
   refine OD.sF 9 rfl (by exact e2) ?_
   refine OD.q 11 rfl <| ODx.nil ?_
   exact S.rt Tryz.results216 rfl hR ⟨by simp [hasR, e1, e2], rfl⟩
  | true =>
   have hb := (dotOk_iff.1 e2).2.2.1
   refine S.regionD (L := [0, 1, 2, 3, 4, 5, 6, 7, 8, 9, 11, 12, 10, 13, 14, 15]) F.mixed (by kernel_rfl) ?_
   refine OD.q 1 rfl <| OD.call0 (.p rfl) (by kernel_rfl) rfl F.ok287 rfl rfl ((r7right_c ha)) ?_
   rintro v6 _ ⟨rfl, rfl⟩
   try simp only [zx1, zx2, zx3]
   refine OD.sT 6 rfl (by exact e1) ?_
   refine OD.q 1 rfl <| .quiet (.g rfl rfl) rfl (fun _ => .loadAgg Tryz.isAgg166 (by kernel_rfl) rfl hb3) ?_
   refine OD.call0 (.g rfl rfl) (by kernel_rfl) rfl F.ok286 rfl rfl ((r7dot_c _ rfl)) ?_
   rintro v9 _ ⟨rfl, rfl⟩
   try simp only [zx1, zx2, zx3]
   refine OD.sT 9 rfl (by exact e2) ?_
   refine OD.q 3 rfl <| .quiet (.g rfl rfl) rfl (fun _ => .fieldAddr F.fld166x0 rfl) <| .quiet (.g rfl rfl) rfl (fun _ => .loadAt F.flat3 rfl hb3 rfl) ?_
   refine .quiet (.g rfl rfl) rfl (fun _ => .fieldAddr F.fld166x1 rfl) <| .quiet (.g rfl rfl) rfl (fun _ => .loadAt F.flat3 rfl (hb3.drop 1) rfl) ?_
   refine OD.call0 (.g rfl rfl) (by kernel_rfl) rfl F.ok288 rfl rfl ((r7up_c _ ha e1)) ?_
   rintro v15 _ ⟨z, rfl, hz, rfl⟩
   try simp only [zx1, zx2, zx3]
   refine .quiet (.g rfl rfl) rfl (fun _ => .geq rfl rfl) <| OD.q 2 rfl <| ODx.nil ?_
   exact S.rt Tryz.results216 rfl hR ⟨congrArg _ (by rw [hasR, e1, e2, ← hz b hb]; rfl), rfl⟩
end Go.Proofs.YtodhbhanmdfdeaaGreat
end
