/- Texts of this proof. -/
import Derived.Test.YtodhbhanmdfdeaaGreatFc
import Derived.Test.YtodhbhanmdfdeaaGreatRef15
import Derived.Test.YtodhbhanmdfdeaaGreatSpRef
import Derived.Test.YtodhbhanmdfdeaaGreatSpChain
open Go Go.Sp
set_option maxRecDepth 100000
attribute [local irreducible] obj Own OwnP
namespace Go.Proofs.YtodhbhanmdfdeaaGreat
theorem r16ahead_c {r : Fr} {va vb : Value} {xs ys : List UInt8} (ha : Arr Rp.u8 r va xs) (hb : Arr Rp.u8 r vb ys) (hl : xs.length = ys.length) :
  Con Tryz.prog 242 #[va, vb] r [] (Ret fun v η => v = .bool (decide (xs < ys)) ∧ η = []) := by
 refine Con.of (n := 36) [va, vb] rfl Tryz.func242 rfl rfl rfl fun g hg R hR => ?_
 have ha := ha.mono hg
 have hb := hb.mono hg
 have hbd := ha.bound
 obtain ⟨a1, c1, rfl⟩ := ha.shape
 obtain ⟨a2, c2, rfl⟩ := hb.shape
 refine S.seq (S.region rfl ?_)
 refine O.q 1 rfl ?_
 refine O.nil (S.seq (S.seq (S.region rfl ?_)))
 refine O.q 1 rfl ?_
 refine O.nil (S.block ?_)
 refine S.loopK (ι := Nat) (fun i => i ≤ xs.length ∧ xs.take i = ys.take i) (fun i => [(5, .int .i64 (i : Int))]) [(0, _), (1, _)] (fun i => []) (fun i => xs.length - i) (0) (by simp) (.cons rfl (.nil)) (.cons rfl (.cons rfl (.nil))) rfl fun i hx ih => ?_
 have hm1 := meltRefl (g := g)
 obtain ⟨hx1, hx2⟩ := hx
 by_cases hi : i < xs.length
 ·have hi2 : i < ys.length := by omega
  by_cases e : xs[i] = ys[i]
  ·
   refine S.seq (S.seq (S.region rfl ?_))
   refine O.q 2 rfl ?_
   refine O.op (.p rfl) (.len rfl Tryz.underlying31 rfl) ?_
   refine O.op (.p rfl) (.lss rfl rfl) ?_
   refine O.slot 9 (v' := .bool true) rfl (congrArg Value.bool (by exact decide_eq_true (by omega))) ?_
   refine O.q 3 rfl ?_
   refine O.op (.g rfl rfl) (.len rfl Tryz.underlying31 rfl) ?_
   refine O.op (.g rfl rfl) (.lss rfl rfl) ?_
   refine O.slot 14 (v' := .bool true) rfl (congrArg Value.bool (by exact decide_eq_true (by omega))) ?_
   refine O.q 1 rfl ?_
   refine O.nil (S.condT rfl ?_)
   refine S.skip (S.seq (S.block (S.seq (S.regionD (L := [0, 1, 2, 3, 4, 5, 6, 7, 8]) F.mixed (by kernel_rfl) ?_))))
   refine OD.q 2 rfl ?_
   refine OD.idx' (.p rfl) Tryz.underlying31 F.size5 rfl rfl rfl (by first | assumption | exact Arr.mono hg (by assumption) | exact Arr.left (by assumption) | exact Arr.left (Arr.mono hg (by assumption))) (by decide) (by first | omega | (simp; done) | (simp; omega) | decide) (fun p20 cs20 hp20 hr20 => ?_)
   cases hr20
   refine .quiet (.p rfl) rfl (fun _ => .loadAt F.flat5 rfl hp20 rfl) ?_
   refine OD.q 2 rfl ?_
   refine OD.idx' (.p rfl) Tryz.underlying31 F.size5 rfl rfl rfl (by first | assumption | exact Arr.mono hg (by assumption) | exact Arr.left (by assumption) | exact Arr.left (Arr.mono hg (by assumption))) (by decide) (by first | omega | (simp; done) | (simp; omega) | decide) (fun p24 cs24 hp24 hr24 => ?_)
   cases hr24
   refine .quiet (.p rfl) rfl (fun _ => .loadAt F.flat5 rfl hp24 rfl) ?_
   refine .quiet (.p rfl) rfl (fun _ => .neq rfl rfl) ?_
   refine OD.slot 26 (v' := .bool false) rfl (congrArg Value.bool (by exact decide_eq_false (by rw [e]; omega))) ?_
   refine ODx.nil (S.condF rfl ?_)
   refine S.skip (S.inBlock (S.region rfl ?_))
   refine O.q 1 rfl ?_
   refine O.op (.p rfl) (.add rfl rfl (IntWalk.i64_in _ (by omega))) ?_
   refine O.q 1 rfl ?_
   refine O.nil ?_
   refine S.weaken ?_ (ih (i + 1) (by exact ⟨by omega, take_same hi hi2 hx2 e⟩) (by omega))
   repeat (first | exact Sub.nil | refine Sub.cons rfl ?_)
  ·have hne : xs[i].toNat ≠ ys[i].toNat := fun q => e (UInt8.toNat_inj.1 q)
   have hlt := lt_at hi hi2 hx2 e
   refine S.seq (S.seq (S.region rfl ?_))
   refine O.q 2 rfl ?_
   refine O.op (.p rfl) (.len rfl Tryz.underlying31 rfl) ?_
   refine O.op (.p rfl) (.lss rfl rfl) ?_
   refine O.slot 9 (v' := .bool true) rfl (congrArg Value.bool (by exact decide_eq_true (by omega))) ?_
   refine O.q 3 rfl ?_
   refine O.op (.g rfl rfl) (.len rfl Tryz.underlying31 rfl) ?_
   refine O.op (.g rfl rfl) (.lss rfl rfl) ?_
   refine O.slot 14 (v' := .bool true) rfl (congrArg Value.bool (by exact decide_eq_true (by omega))) ?_
   refine O.q 1 rfl ?_
   refine O.nil (S.condT rfl ?_)
   refine S.skip (S.seq (S.block (S.seq (S.regionD (L := [0, 1, 2, 3, 4, 5, 6, 7, 8]) F.mixed (by kernel_rfl) ?_))))
   refine OD.q 2 rfl ?_
   refine OD.idx' (.p rfl) Tryz.underlying31 F.size5 rfl rfl rfl (by first | assumption | exact Arr.mono hg (by assumption) | exact Arr.left (by assumption) | exact Arr.left (Arr.mono hg (by assumption))) (by decide) (by first | omega | (simp; done) | (simp; omega) | decide) (fun p20 cs20 hp20 hr20 => ?_)
   cases hr20
   refine .quiet (.p rfl) rfl (fun _ => .loadAt F.flat5 rfl hp20 rfl) ?_
   refine OD.q 2 rfl ?_
   refine OD.idx' (.p rfl) Tryz.underlying31 F.size5 rfl rfl rfl (by first | assumption | exact Arr.mono hg (by assumption) | exact Arr.left (by assumption) | exact Arr.left (Arr.mono hg (by assumption))) (by decide) (by first | omega | (simp; done) | (simp; omega) | decide) (fun p24 cs24 hp24 hr24 => ?_)
   cases hr24
   refine .quiet (.p rfl) rfl (fun _ => .loadAt F.flat5 rfl hp24 rfl) ?_
   refine .quiet (.p rfl) rfl (fun _ => .neq rfl rfl) ?_
   refine OD.slot 26 (v' := .bool true) rfl (congrArg Value.bool (by exact decide_eq_true (by omega))) ?_
   refine ODx.nil (S.condT rfl ?_)
   refine S.seq (S.regionD (L := [0, 1, 2, 3, 4, 5, 6, 7, 8, 9]) F.mixed (by kernel_rfl) ?_)
   refine OD.q 2 rfl ?_
   refine OD.idx' (.p rfl) Tryz.underlying31 F.size5 rfl rfl rfl (by first | assumption | exact Arr.mono hg (by assumption) | exact Arr.left (by assumption) | exact Arr.left (Arr.mono hg (by assumption))) (by decide) (by first | omega | (simp; done) | (simp; omega) | decide) (fun p29 cs29 hp29 hr29 => ?_)
   cases hr29
   refine .quiet (.p rfl) rfl (fun _ => .loadAt F.flat5 rfl hp29 rfl) ?_
   refine OD.q 2 rfl ?_
   refine OD.idx' (.p rfl) Tryz.underlying31 F.size5 rfl rfl rfl (by first | assumption | exact Arr.mono hg (by assumption) | exact Arr.left (by assumption) | exact Arr.left (Arr.mono hg (by assumption))) (by decide) (by first | omega | (simp; done) | (simp; omega) | decide) (fun p33 cs33 hp33 hr33 => ?_)
   cases hr33
   refine .quiet (.p rfl) rfl (fun _ => .loadAt F.flat5 rfl hp33 rfl) ?_
   refine .quiet (.p rfl) rfl (fun _ => .lss rfl rfl) ?_
   refine OD.q 1 rfl ?_
   refine ODx.nil ?_
   refine S.ret Tryz.results242 rfl fun w hw => Holds.end_ hR hw ?_
   exact ⟨_, ⟨congrArg _ (decide_eq_decide.2 (by rw [hlt]; omega)), rfl⟩, by repeat (first | exact zpa | exact zpn | (apply zpc; focus (repeat (first | exact zh | apply zt))) | apply zps)⟩
 ·clear ih
  have hi1 : i = xs.length := by omega
  have hi2 : i = ys.length := by omega
  have he : xs = ys := by rw [← List.take_length (l := xs), ← hi1, hx2, hi2, List.take_length]
  refine S.seq (S.seq (S.region rfl ?_))
  refine O.q 2 rfl ?_
  refine O.op (.p rfl) (.len rfl Tryz.underlying31 rfl) ?_
  refine O.op (.p rfl) (.lss rfl rfl) ?_
  refine O.slot 9 (v' := .bool false) rfl (congrArg Value.bool (by exact decide_eq_false (by omega))) ?_
  refine O.q 6 rfl ?_
  refine O.nil (S.condF rfl ?_)
  refine S.exit rfl ?_
  refine S.seq (S.region rfl ?_)
  refine O.q 1 rfl ?_
  refine O.nil ?_
  refine S.ret Tryz.results242 rfl fun w hw => Holds.end_ hR hw ?_
  exact ⟨_, ⟨congrArg _ (decide_eq_false (by rw [he]; exact List.lt_irrefl _)).symm, rfl⟩, by repeat (first | exact zpa | exact zpn | (apply zpc; focus (repeat (first | exact zh | apply zt))) | apply zps)⟩
theorem r16right_c {r : Fr} {cs : List Value} {v : EvdT} (h : EvdRp.rel r cs v) : Con Tryz.prog 155 #[.agg cs.toArray] r [] (Ret fun u η => u = .bool (evdOk v) ∧ η = []) := by
 obtain ⟨xa3, xa4, xa8, xa9, xc3, xc4, xc8, xc9, rfl, k0, k1, k2, k3, k4, k5, k6, k7, k8, k9⟩ := EvdRp.sh h
 have hO := evdOk_iff (e := v)
 have r1 : RootRp.rel r _ v.1 := RootRp.mk k0 k1 k2 k3 k4
 have r2 : RootRp.rel r _ v.2.1 := RootRp.mk k5 k6 k7 k8 k9
 refine Con.of (n := 43) [.agg #[.int .i64 v.1.1, .int .i64 v.1.2.1, .int .i64 v.1.2.2.1, .slice xa3 v.1.2.2.2.1.length xc3, .slice xa4 v.1.2.2.2.2.1.length xc4, .int .i64 v.2.1.1, .int .i64 v.2.1.2.1, .int .i64 v.2.1.2.2.1, .slice xa8 v.2.1.2.2.2.1.length xc8, .slice xa9 v.2.1.2.2.2.2.1.length xc9]] rfl Tryz.func155 rfl rfl rfl fun g hg R hR => ?_
 have h := h.mono hg
 have r1 := r1.mono hg
 have r2 := r2.mono hg
 have k3 := k3.mono hg
 have k8 := k8.mono hg
 refine S.seq (S.region rfl ?_)
 refine O.opE (.p rfl) (.box (cs := [_, _, _, _, _, _, _, _, _, _]) rfl rfl) ?_
 rintro _ _ ⟨b1, rfl, rfl⟩
 refine O.q 1 rfl ?_
 refine O.nil (S.seq ?_)
 refine S.frzO (by repeat (first | exact zh | apply zt)) fun g hs hm hb1 => ?_
 replace hg := Fr.sub_trans hg hs
 replace hR := melted hR hm
 try replace h := h.mono hs
 try replace r1 := r1.mono hs
 try replace r2 := r2.mono hs
 try replace k3 := k3.mono hs
 try replace k8 := k8.mono hs
 clear hs hm
 refine S.regionD (L := [0, 1, 2, 3, 4, 5, 6, 7]) F.mixed (by kernel_rfl) ?_
 refine .quiet (.p rfl) rfl (fun _ => .fieldAddr F.fld55x0 rfl) ?_
 refine .quiet (.p rfl) rfl (fun _ => .loadAgg (cs := [_, _, _, _, _]) Tryz.isAgg52 (by kernel_rfl) rfl (hb1.take 5)) ?_
 refine .quiet (.p rfl) rfl (fun _ => .fieldAddr F.fld55x1 rfl) ?_
 refine .quiet (.p rfl) rfl (fun _ => .loadAgg (cs := [_, _, _, _, _]) Tryz.isAgg52 (by kernel_rfl) rfl ((hb1.drop 5).take 5)) ?_
 refine .lazy rfl (by kernel_rfl) rfl fun b3 => ?_
 refine .lazy rfl (by kernel_rfl) rfl fun b4 => ?_
 refine OD.storeObj rfl (by kernel_rfl) (by kernel_rfl) rfl rfl rfl rfl (by repeat (first | exact zh | apply zt)) (by first | (simp; done) | (simp [Value.cells]; done)) ?_
 refine OD.storeObj rfl (by kernel_rfl) (by kernel_rfl) rfl rfl rfl rfl (by repeat (first | exact zh | apply zt)) (by first | (simp; done) | (simp [Value.cells]; done)) ?_
 refine ODx.nil (S.seq ?_)
 by_cases n0 : ¬ (rootOk v.1 = true)
 ·
  refine S.region rfl ?_
  refine O.op (.p rfl) (.loadObjAgg (news := [_, _, _, _, _]) Tryz.isAgg52 (by kernel_rfl) rfl (by repeat (first | exact zh | apply zt)) rfl) ?_
  refine O.call0 (.p rfl) rfl F.ok153 rfl rfl ((r15right_c (x := v.1) r1)) ?_
  rintro v10 _ ⟨rfl, rfl⟩
  try simp only [zx1, zx2, zx3]
  refine O.slot 10 (v' := .bool false) rfl (congrArg Value.bool (by exact (by simpa using n0))) ?_
  refine O.q 33 rfl ?_
  refine O.nil ?_
  refine S.ret Tryz.results155 rfl fun w hw => Holds.end_ hR hw ?_
  exact ⟨_, ⟨congrArg _ (Bool.eq_false_iff.2 fun q => n0 (hO.1 q).1).symm, rfl⟩, by repeat (first | exact zpa | exact zpn | (apply zpc; focus (repeat (first | exact zh | apply zt))) | apply zps)⟩
 have c0 := Classical.not_not.1 n0
 by_cases n1 : ¬ (rootOk v.2.1 = true)
 ·
  refine S.region rfl ?_
  refine O.op (.p rfl) (.loadObjAgg (news := [_, _, _, _, _]) Tryz.isAgg52 (by kernel_rfl) rfl (by repeat (first | exact zh | apply zt)) rfl) ?_
  refine O.call0 (.p rfl) rfl F.ok153 rfl rfl ((r15right_c (x := v.1) r1)) ?_
  rintro v10 _ ⟨rfl, rfl⟩
  try simp only [zx1, zx2, zx3]
  refine O.slot 10 (v' := .bool true) rfl (congrArg Value.bool (by exact c0)) ?_
  refine O.q 1 rfl ?_
  refine O.op (.g rfl rfl) (.loadObjAgg (news := [_, _, _, _, _]) Tryz.isAgg52 (by kernel_rfl) rfl (by repeat (first | exact zh | apply zt)) rfl) ?_
  refine O.call0 (.g rfl rfl) rfl F.ok153 rfl rfl ((r15right_c (x := v.2.1) r2)) ?_
  rintro v13 _ ⟨rfl, rfl⟩
  try simp only [zx1, zx2, zx3]
  refine O.slot 13 (v' := .bool false) rfl (congrArg Value.bool (by exact (by simpa using n1))) ?_
  refine O.q 30 rfl ?_
  refine O.nil ?_
  refine S.ret Tryz.results155 rfl fun w hw => Holds.end_ hR hw ?_
  exact ⟨_, ⟨congrArg _ (Bool.eq_false_iff.2 fun q => n1 (hO.1 q).2.1).symm, rfl⟩, by repeat (first | exact zpa | exact zpn | (apply zpc; focus (repeat (first | exact zh | apply zt))) | apply zps)⟩
 have c1 := Classical.not_not.1 n1
 have hl : v.1.2.2.2.1.length = v.2.1.2.2.2.1.length := by rw [(rootShape_iff.1 (rootOk_iff.1 c0).1).2.2.2.2.2.2, (rootShape_iff.1 (rootOk_iff.1 c1).1).2.2.2.2.2.2]
 by_cases n2 : ¬ (v.1.1 = v.2.1.1)
 ·
  refine S.region rfl ?_
  refine O.op (.p rfl) (.loadObjAgg (news := [_, _, _, _, _]) Tryz.isAgg52 (by kernel_rfl) rfl (by repeat (first | exact zh | apply zt)) rfl) ?_
  refine O.call0 (.p rfl) rfl F.ok153 rfl rfl ((r15right_c (x := v.1) r1)) ?_
  rintro v10 _ ⟨rfl, rfl⟩
  try simp only [zx1, zx2, zx3]
  refine O.slot 10 (v' := .bool true) rfl (congrArg Value.bool (by exact c0)) ?_
  refine O.q 1 rfl ?_
  refine O.op (.g rfl rfl) (.loadObjAgg (news := [_, _, _, _, _]) Tryz.isAgg52 (by kernel_rfl) rfl (by repeat (first | exact zh | apply zt)) rfl) ?_
  refine O.call0 (.g rfl rfl) rfl F.ok153 rfl rfl ((r15right_c (x := v.2.1) r2)) ?_
  rintro v13 _ ⟨rfl, rfl⟩
  try simp only [zx1, zx2, zx3]
  refine O.slot 13 (v' := .bool true) rfl (congrArg Value.bool (by exact c1)) ?_
  refine O.q 2 rfl ?_
  refine O.op (.g rfl rfl) (.fieldObj F.fld52x0 rfl) ?_
  refine O.op (.g rfl rfl) (.loadObj F.flat3 rfl (by repeat (first | exact zh | apply zt)) rfl) ?_
  refine O.op (.g rfl rfl) (.fieldObj F.fld52x0 rfl) ?_
  refine O.op (.g rfl rfl) (.loadObj F.flat3 rfl (by repeat (first | exact zh | apply zt)) rfl) ?_
  refine O.op (.g rfl rfl) (.eql rfl rfl) ?_
  refine O.slot 20 (v' := .bool false) rfl (congrArg Value.bool (by exact decide_eq_false n2)) ?_
  refine O.q 23 rfl ?_
  refine O.nil ?_
  refine S.ret Tryz.results155 rfl fun w hw => Holds.end_ hR hw ?_
  exact ⟨_, ⟨congrArg _ (Bool.eq_false_iff.2 fun q => n2 (hO.1 q).2.2.1).symm, rfl⟩, by repeat (first | exact zpa | exact zpn | (apply zpc; focus (repeat (first | exact zh | apply zt))) | apply zps)⟩
 have c2 := Classical.not_not.1 n2
 by_cases n3 : ¬ (v.1.2.1 = v.2.1.2.1)
 ·
  refine S.region rfl ?_
  refine O.op (.p rfl) (.loadObjAgg (news := [_, _, _, _, _]) Tryz.isAgg52 (by kernel_rfl) rfl (by repeat (first | exact zh | apply zt)) rfl) ?_
  refine O.call0 (.p rfl) rfl F.ok153 rfl rfl ((r15right_c (x := v.1) r1)) ?_
  rintro v10 _ ⟨rfl, rfl⟩
  try simp only [zx1, zx2, zx3]
  refine O.slot 10 (v' := .bool true) rfl (congrArg Value.bool (by exact c0)) ?_
  refine O.q 1 rfl ?_
  refine O.op (.g rfl rfl) (.loadObjAgg (news := [_, _, _, _, _]) Tryz.isAgg52 (by kernel_rfl) rfl (by repeat (first | exact zh | apply zt)) rfl) ?_
  refine O.call0 (.g rfl rfl) rfl F.ok153 rfl rfl ((r15right_c (x := v.2.1) r2)) ?_
  rintro v13 _ ⟨rfl, rfl⟩
  try simp only [zx1, zx2, zx3]
  refine O.slot 13 (v' := .bool true) rfl (congrArg Value.bool (by exact c1)) ?_
  refine O.q 2 rfl ?_
  refine O.op (.g rfl rfl) (.fieldObj F.fld52x0 rfl) ?_
  refine O.op (.g rfl rfl) (.loadObj F.flat3 rfl (by repeat (first | exact zh | apply zt)) rfl) ?_
  refine O.op (.g rfl rfl) (.fieldObj F.fld52x0 rfl) ?_
  refine O.op (.g rfl rfl) (.loadObj F.flat3 rfl (by repeat (first | exact zh | apply zt)) rfl) ?_
  refine O.op (.g rfl rfl) (.eql rfl rfl) ?_
  refine O.slot 20 (v' := .bool true) rfl (congrArg Value.bool (by exact decide_eq_true c2)) ?_
  refine O.q 2 rfl ?_
  refine O.op (.g rfl rfl) (.fieldObj F.fld52x1 rfl) ?_
  refine O.op (.g rfl rfl) (.loadObj F.flat3 rfl (by repeat (first | exact zh | apply zt)) rfl) ?_
  refine O.op (.g rfl rfl) (.fieldObj F.fld52x1 rfl) ?_
  refine O.op (.g rfl rfl) (.loadObj F.flat3 rfl (by repeat (first | exact zh | apply zt)) rfl) ?_
  refine O.op (.g rfl rfl) (.eql rfl rfl) ?_
  refine O.slot 27 (v' := .bool false) rfl (congrArg Value.bool (by exact decide_eq_false n3)) ?_
  refine O.q 16 rfl ?_
  refine O.nil ?_
  refine S.ret Tryz.results155 rfl fun w hw => Holds.end_ hR hw ?_
  exact ⟨_, ⟨congrArg _ (Bool.eq_false_iff.2 fun q => n3 (hO.1 q).2.2.2.1).symm, rfl⟩, by repeat (first | exact zpa | exact zpn | (apply zpc; focus (repeat (first | exact zh | apply zt))) | apply zps)⟩
 have c3 := Classical.not_not.1 n3
 by_cases n4 : ¬ (v.1.2.2.1 = v.2.1.2.2.1)
 ·
  refine S.region rfl ?_
  refine O.op (.p rfl) (.loadObjAgg (news := [_, _, _, _, _]) Tryz.isAgg52 (by kernel_rfl) rfl (by repeat (first | exact zh | apply zt)) rfl) ?_
  refine O.call0 (.p rfl) rfl F.ok153 rfl rfl ((r15right_c (x := v.1) r1)) ?_
  rintro v10 _ ⟨rfl, rfl⟩
  try simp only [zx1, zx2, zx3]
  refine O.slot 10 (v' := .bool true) rfl (congrArg Value.bool (by exact c0)) ?_
  refine O.q 1 rfl ?_
  refine O.op (.g rfl rfl) (.loadObjAgg (news := [_, _, _, _, _]) Tryz.isAgg52 (by kernel_rfl) rfl (by repeat (first | exact zh | apply zt)) rfl) ?_
  refine O.call0 (.g rfl rfl) rfl F.ok153 rfl rfl ((r15right_c (x := v.2.1) r2)) ?_
  rintro v13 _ ⟨rfl, rfl⟩
  try simp only [zx1, zx2, zx3]
  refine O.slot 13 (v' := .bool true) rfl (congrArg Value.bool (by exact c1)) ?_
  refine O.q 2 rfl ?_
  refine O.op (.g rfl rfl) (.fieldObj F.fld52x0 rfl) ?_
  refine O.op (.g rfl rfl) (.loadObj F.flat3 rfl (by repeat (first | exact zh | apply zt)) rfl) ?_
  refine O.op (.g rfl rfl) (.fieldObj F.fld52x0 rfl) ?_
  refine O.op (.g rfl rfl) (.loadObj F.flat3 rfl (by repeat (first | exact zh | apply zt)) rfl) ?_
  refine O.op (.g rfl rfl) (.eql rfl rfl) ?_
  refine O.slot 20 (v' := .bool true) rfl (congrArg Value.bool (by exact decide_eq_true c2)) ?_
  refine O.q 2 rfl ?_
  refine O.op (.g rfl rfl) (.fieldObj F.fld52x1 rfl) ?_
  refine O.op (.g rfl rfl) (.loadObj F.flat3 rfl (by repeat (first | exact zh | apply zt)) rfl) ?_
  refine O.op (.g rfl rfl) (.fieldObj F.fld52x1 rfl) ?_
  refine O.op (.g rfl rfl) (.loadObj F.flat3 rfl (by repeat (first | exact zh | apply zt)) rfl) ?_
  refine O.op (.g rfl rfl) (.eql rfl rfl) ?_
  refine O.slot 27 (v' := .bool true) rfl (congrArg Value.bool (by exact decide_eq_true c3)) ?_
  refine O.q 2 rfl ?_
  refine O.op (.g rfl rfl) (.fieldObj F.fld52x2 rfl) ?_
  refine O.op (.g rfl rfl) (.loadObj F.flat3 rfl (by repeat (first | exact zh | apply zt)) rfl) ?_
  refine O.op (.g rfl rfl) (.fieldObj F.fld52x2 rfl) ?_
  refine O.op (.g rfl rfl) (.loadObj F.flat3 rfl (by repeat (first | exact zh | apply zt)) rfl) ?_
  refine O.op (.g rfl rfl) (.eql rfl rfl) ?_
  refine O.slot 34 (v' := .bool false) rfl (congrArg Value.bool (by exact decide_eq_false n4)) ?_
  refine O.q 9 rfl ?_
  refine O.nil ?_
  refine S.ret Tryz.results155 rfl fun w hw => Holds.end_ hR hw ?_
  exact ⟨_, ⟨congrArg _ (Bool.eq_false_iff.2 fun q => n4 (hO.1 q).2.2.2.2.1).symm, rfl⟩, by repeat (first | exact zpa | exact zpn | (apply zpc; focus (repeat (first | exact zh | apply zt))) | apply zps)⟩
 have c4 := Classical.not_not.1 n4
 by_cases n5 : ¬ (v.1.2.2.2.1 < v.2.1.2.2.2.1)
 ·
  refine S.region rfl ?_
  refine O.op (.p rfl) (.loadObjAgg (news := [_, _, _, _, _]) Tryz.isAgg52 (by kernel_rfl) rfl (by repeat (first | exact zh | apply zt)) rfl) ?_
  refine O.call0 (.p rfl) rfl F.ok153 rfl rfl ((r15right_c (x := v.1) r1)) ?_
  rintro v10 _ ⟨rfl, rfl⟩
  try simp only [zx1, zx2, zx3]
  refine O.slot 10 (v' := .bool true) rfl (congrArg Value.bool (by exact c0)) ?_
  refine O.q 1 rfl ?_
  refine O.op (.g rfl rfl) (.loadObjAgg (news := [_, _, _, _, _]) Tryz.isAgg52 (by kernel_rfl) rfl (by repeat (first | exact zh | apply zt)) rfl) ?_
  refine O.call0 (.g rfl rfl) rfl F.ok153 rfl rfl ((r15right_c (x := v.2.1) r2)) ?_
  rintro v13 _ ⟨rfl, rfl⟩
  try simp only [zx1, zx2, zx3]
  refine O.slot 13 (v' := .bool true) rfl (congrArg Value.bool (by exact c1)) ?_
  refine O.q 2 rfl ?_
  refine O.op (.g rfl rfl) (.fieldObj F.fld52x0 rfl) ?_
  refine O.op (.g rfl rfl) (.loadObj F.flat3 rfl (by repeat (first | exact zh | apply zt)) rfl) ?_
  refine O.op (.g rfl rfl) (.fieldObj F.fld52x0 rfl) ?_
  refine O.op (.g rfl rfl) (.loadObj F.flat3 rfl (by repeat (first | exact zh | apply zt)) rfl) ?_
  refine O.op (.g rfl rfl) (.eql rfl rfl) ?_
  refine O.slot 20 (v' := .bool true) rfl (congrArg Value.bool (by exact decide_eq_true c2)) ?_
  refine O.q 2 rfl ?_
  refine O.op (.g rfl rfl) (.fieldObj F.fld52x1 rfl) ?_
  refine O.op (.g rfl rfl) (.loadObj F.flat3 rfl (by repeat (first | exact zh | apply zt)) rfl) ?_
  refine O.op (.g rfl rfl) (.fieldObj F.fld52x1 rfl) ?_
  refine O.op (.g rfl rfl) (.loadObj F.flat3 rfl (by repeat (first | exact zh | apply zt)) rfl) ?_
  refine O.op (.g rfl rfl) (.eql rfl rfl) ?_
  refine O.slot 27 (v' := .bool true) rfl (congrArg Value.bool (by exact decide_eq_true c3)) ?_
  refine O.q 2 rfl ?_
  refine O.op (.g rfl rfl) (.fieldObj F.fld52x2 rfl) ?_
  refine O.op (.g rfl rfl) (.loadObj F.flat3 rfl (by repeat (first | exact zh | apply zt)) rfl) ?_
  refine O.op (.g rfl rfl) (.fieldObj F.fld52x2 rfl) ?_
  refine O.op (.g rfl rfl) (.loadObj F.flat3 rfl (by repeat (first | exact zh | apply zt)) rfl) ?_
  refine O.op (.g rfl rfl) (.eql rfl rfl) ?_
  refine O.slot 34 (v' := .bool true) rfl (congrArg Value.bool (by exact decide_eq_true c4)) ?_
  refine O.q 2 rfl ?_
  refine O.op (.g rfl rfl) (.fieldObj F.fld52x3 rfl) ?_
  refine O.op (.g rfl rfl) (.loadObj F.flat31 rfl (by repeat (first | exact zh | apply zt)) rfl) ?_
  refine O.op (.g rfl rfl) (.fieldObj F.fld52x3 rfl) ?_
  refine O.op (.g rfl rfl) (.loadObj F.flat31 rfl (by repeat (first | exact zh | apply zt)) rfl) ?_
  refine O.call0 (.g rfl rfl) rfl F.ok242 rfl rfl ((r16ahead_c k3 k8 hl)) ?_
  rintro v41 _ ⟨rfl, rfl⟩
  try simp only [zx1, zx2, zx3]
  refine O.slot 41 (v' := .bool false) rfl (congrArg Value.bool (by exact decide_eq_false n5)) ?_
  refine O.q 2 rfl ?_
  refine O.nil ?_
  refine S.ret Tryz.results155 rfl fun w hw => Holds.end_ hR hw ?_
  exact ⟨_, ⟨congrArg _ (Bool.eq_false_iff.2 fun q => n5 (hO.1 q).2.2.2.2.2).symm, rfl⟩, by repeat (first | exact zpa | exact zpn | (apply zpc; focus (repeat (first | exact zh | apply zt))) | apply zps)⟩
 have c5 := Classical.not_not.1 n5
 refine S.region rfl ?_
 refine O.op (.p rfl) (.loadObjAgg (news := [_, _, _, _, _]) Tryz.isAgg52 (by kernel_rfl) rfl (by repeat (first | exact zh | apply zt)) rfl) ?_
 refine O.call0 (.p rfl) rfl F.ok153 rfl rfl ((r15right_c (x := v.1) r1)) ?_
 rintro v10 _ ⟨rfl, rfl⟩
 try simp only [zx1, zx2, zx3]
 refine O.slot 10 (v' := .bool true) rfl (congrArg Value.bool (by exact c0)) ?_
 refine O.q 1 rfl ?_
 refine O.op (.g rfl rfl) (.loadObjAgg (news := [_, _, _, _, _]) Tryz.isAgg52 (by kernel_rfl) rfl (by repeat (first | exact zh | apply zt)) rfl) ?_
 refine O.call0 (.g rfl rfl) rfl F.ok153 rfl rfl ((r15right_c (x := v.2.1) r2)) ?_
 rintro v13 _ ⟨rfl, rfl⟩
 try simp only [zx1, zx2, zx3]
 refine O.slot 13 (v' := .bool true) rfl (congrArg Value.bool (by exact c1)) ?_
 refine O.q 2 rfl ?_
 refine O.op (.g rfl rfl) (.fieldObj F.fld52x0 rfl) ?_
 refine O.op (.g rfl rfl) (.loadObj F.flat3 rfl (by repeat (first | exact zh | apply zt)) rfl) ?_
 refine O.op (.g rfl rfl) (.fieldObj F.fld52x0 rfl) ?_
 refine O.op (.g rfl rfl) (.loadObj F.flat3 rfl (by repeat (first | exact zh | apply zt)) rfl) ?_
 refine O.op (.g rfl rfl) (.eql rfl rfl) ?_
 refine O.slot 20 (v' := .bool true) rfl (congrArg Value.bool (by exact decide_eq_true c2)) ?_
 refine O.q 2 rfl ?_
 refine O.op (.g rfl rfl) (.fieldObj F.fld52x1 rfl) ?_
 refine O.op (.g rfl rfl) (.loadObj F.flat3 rfl (by repeat (first | exact zh | apply zt)) rfl) ?_
 refine O.op (.g rfl rfl) (.fieldObj F.fld52x1 rfl) ?_
 refine O.op (.g rfl rfl) (.loadObj F.flat3 rfl (by repeat (first | exact zh | apply zt)) rfl) ?_
 refine O.op (.g rfl rfl) (.eql rfl rfl) ?_
 refine O.slot 27 (v' := .bool true) rfl (congrArg Value.bool (by exact decide_eq_true c3)) ?_
 refine O.q 2 rfl ?_
 refine O.op (.g rfl rfl) (.fieldObj F.fld52x2 rfl) ?_
 refine O.op (.g rfl rfl) (.loadObj F.flat3 rfl (by repeat (first | exact zh | apply zt)) rfl) ?_
 refine O.op (.g rfl rfl) (.fieldObj F.fld52x2 rfl) ?_
 refine O.op (.g rfl rfl) (.loadObj F.flat3 rfl (by repeat (first | exact zh | apply zt)) rfl) ?_
 refine O.op (.g rfl rfl) (.eql rfl rfl) ?_
 refine O.slot 34 (v' := .bool true) rfl (congrArg Value.bool (by exact decide_eq_true c4)) ?_
 refine O.q 2 rfl ?_
 refine O.op (.g rfl rfl) (.fieldObj F.fld52x3 rfl) ?_
 refine O.op (.g rfl rfl) (.loadObj F.flat31 rfl (by repeat (first | exact zh | apply zt)) rfl) ?_
 refine O.op (.g rfl rfl) (.fieldObj F.fld52x3 rfl) ?_
 refine O.op (.g rfl rfl) (.loadObj F.flat31 rfl (by repeat (first | exact zh | apply zt)) rfl) ?_
 refine O.call0 (.g rfl rfl) rfl F.ok242 rfl rfl ((r16ahead_c k3 k8 hl)) ?_
 rintro v41 _ ⟨rfl, rfl⟩
 try simp only [zx1, zx2, zx3]
 refine O.slot 41 (v' := .bool true) rfl (congrArg Value.bool (by exact decide_eq_true c5)) ?_
 refine O.q 2 rfl ?_
 refine O.nil ?_
 refine S.ret Tryz.results155 rfl fun w hw => Holds.end_ hR hw ?_
 exact ⟨_, ⟨congrArg _ (hO.2 ⟨c0, c1, c2, c3, c4, c5⟩).symm, rfl⟩, by repeat (first | exact zpa | exact zpn | (apply zpc; focus (repeat (first | exact zh | apply zt))) | apply zps)⟩
theorem r16put_c {r : Fr} {cs : List Value} {v : EvdT} (h : EvdRp.rel r cs v) :
  Con Tryz.prog 67 #[.agg cs.toArray] r [] (Ret fun u η => ∃ a c, u = .tuple #[.slice a (evdOut v).length c, .int .i64 (evdErr v)] ∧ η = [OwnP Rp.u8 5 (.slice a (evdOut v).length c) (evdOut v)]) := by
 obtain ⟨xa3, xa4, xa8, xa9, xc3, xc4, xc8, xc9, rfl, k0, k1, k2, k3, k4, k5, k6, k7, k8, k9⟩ := EvdRp.sh h
 have r1 : RootRp.rel r _ v.1 := RootRp.mk k0 k1 k2 k3 k4
 have r2 : RootRp.rel r _ v.2.1 := RootRp.mk k5 k6 k7 k8 k9
 refine Con.of (n := 29) [.agg #[.int .i64 v.1.1, .int .i64 v.1.2.1, .int .i64 v.1.2.2.1, .slice xa3 v.1.2.2.2.1.length xc3, .slice xa4 v.1.2.2.2.2.1.length xc4, .int .i64 v.2.1.1, .int .i64 v.2.1.2.1, .int .i64 v.2.1.2.2.1, .slice xa8 v.2.1.2.2.2.1.length xc8, .slice xa9 v.2.1.2.2.2.2.1.length xc9]] rfl Tryz.func67 rfl rfl rfl fun g hg R hR => ?_
 have h := h.mono hg
 have r1 := r1.mono hg
 have r2 := r2.mono hg
 refine S.seq (S.region rfl ?_)
 refine O.opE (.p rfl) (.box (cs := [_, _, _, _, _, _, _, _, _, _]) rfl rfl) ?_
 rintro _ _ ⟨b1, rfl, rfl⟩
 refine O.q 2 rfl ?_
 refine O.nil (S.seq (S.seq ?_))
 refine S.frzO (by repeat (first | exact zh | apply zt)) fun g hs hm hb1 => ?_
 replace hg := Fr.sub_trans hg hs
 replace hR := melted hR hm
 try replace h := h.mono hs
 try replace r1 := r1.mono hs
 try replace r2 := r2.mono hs
 clear hs hm
 cases e : evdOk v with
 | false =>
  have e1 : evdOut v = [] := by simp [evdOut, e]
  have e2 : evdErr v = 4 := by simp [evdErr, e]
  rw [e1, e2] at hR
  refine S.region rfl ?_
  refine O.op (.p rfl) (.loadAgg Tryz.isAgg55 (by kernel_rfl) rfl hb1) ?_
  refine O.call0 (.p rfl) rfl F.ok155 rfl rfl ((r16right_c h)) ?_
  rintro v9 _ ⟨rfl, rfl⟩
  try simp only [zx1, zx2, zx3]
  refine O.slot 9 (v' := .bool false) rfl (congrArg Value.bool (by exact e)) ?_
  refine O.op (.p rfl) (.not rfl) ?_
  refine O.nil (S.condT rfl ?_)
  refine S.seq (S.region rfl ?_)
  refine O.q 2 rfl ?_
  refine O.nil ?_
  refine S.addNil (T := Rp.u8) (e := 5) ?_
  refine S.ret2 Tryz.results67 rfl rfl fun w hw => Holds.end_ hR hw ?_
  exact ⟨_, ⟨none, 0, rfl, rfl⟩, by repeat (first | exact zpa | exact zpn | (apply zpc; focus (repeat (first | exact zh | apply zt))) | apply zps)⟩
 | true =>
  have hO := evdOk_iff.1 e
  have o1 : rootOut v.1 = rootB v.1 := by simp [rootOut, hO.1]
  have o2 : rootOut v.2.1 = rootB v.2.1 := by simp [rootOut, hO.2.1]
  have l1 := rootB_length hO.1
  have l2 := rootB_length hO.2.1
  have e1 : evdOut v = evdB v := by simp [evdOut, e]
  have e2 : evdErr v = 0 := by simp [evdErr, e]
  have hl := evdB_length e
  have hfl : [bytesOf (rootB v.1), bytesOf (rootB v.2.1)].flatten = evdB v := by simp [evdB]
  rw [e1, e2] at hR
  refine S.region rfl ?_
  refine O.op (.p rfl) (.loadAgg Tryz.isAgg55 (by kernel_rfl) rfl hb1) ?_
  refine O.call0 (.p rfl) rfl F.ok155 rfl rfl ((r16right_c h)) ?_
  rintro v9 _ ⟨rfl, rfl⟩
  try simp only [zx1, zx2, zx3]
  refine O.slot 9 (v' := .bool true) rfl (congrArg Value.bool (by exact e)) ?_
  refine O.op (.p rfl) (.not rfl) ?_
  refine O.nil (S.condF rfl ?_)
  refine S.skip (S.seq (S.region rfl ?_))
  refine O.op (.p rfl) (.fieldAddr F.fld55x0 rfl) ?_
  refine O.op (.p rfl) (.loadAgg (cs := [_, _, _, _, _]) Tryz.isAgg52 (by kernel_rfl) rfl (hb1.take 5)) ?_
  refine O.call0 (.p rfl) rfl F.ok66 rfl rfl ((r15put_c (x := v.1) r1)) ?_
  rintro v14 _ ⟨a14, c14, rfl, rfl⟩
  try simp only [zx1, zx2, zx3]
  rw [o1]
  refine O.q 5 rfl ?_
  refine O.nil (S.seq (S.region rfl ?_))
  refine O.op (.p rfl) (.fieldAddr F.fld55x1 rfl) ?_
  refine O.op (.p rfl) (.loadAgg (cs := [_, _, _, _, _]) Tryz.isAgg52 (by kernel_rfl) rfl ((hb1.drop 5).take 5)) ?_
  refine O.call0 (.p rfl) rfl F.ok66 rfl rfl ((r15put_c (x := v.2.1) r2)) ?_
  rintro v20 _ ⟨a20, c20, rfl, rfl⟩
  try simp only [zx1, zx2, zx3]
  rw [o2]
  refine O.q 5 rfl ?_
  refine O.nil (S.seq (S.region rfl ?_))
  refine O.q 1 rfl ?_
  refine O.callB (.p rfl) rfl F.ok65 rfl rfl (bs := [OwnP Rp.u8 5 (.slice a14 (rootB v.1).length c14) (rootB v.1)]) (by repeat (first | exact zsn | (apply zsc; focus (repeat (first | exact zh | apply zt))))) (fun m hm hd => refBytes_c (hm.arr.right hd) (by omega)) ?_
  rintro v24 _ ⟨a24, c24, rfl, rfl⟩
  try simp only [zx1, zx2, zx3]
  refine O.q 1 rfl ?_
  refine O.callB (.p rfl) rfl F.ok65 rfl rfl (bs := [OwnP Rp.u8 5 (.slice a20 (rootB v.2.1).length c20) (rootB v.2.1)]) (by repeat (first | exact zsn | (apply zsc; focus (repeat (first | exact zh | apply zt))))) (fun m hm hd => refBytes_c (hm.arr.right hd) (by omega)) ?_
  rintro v26 _ ⟨a26, c26, rfl, rfl⟩
  try simp only [zx1, zx2, zx3]
  refine O.opE (.p rfl) (.litP (T := Rp.val) (ys := [_, _]) Tryz.underlying39 F.elem31 (by decide) rfl rfl ⟨⟨rfl, rfl⟩, ⟨rfl, rfl⟩, trivial⟩ (by decide)) ?_
  rintro _ _ ⟨a27, c27, rfl, rfl⟩
  refine O.callB (.p rfl) rfl F.ok64 rfl rfl (bs := [OwnP Rp.val 31 (.slice a27 2 c27) [.slice a24 (bytesOf (rootB v.1)).length c24, .slice a26 (bytesOf (rootB v.2.1)).length c26], OwnP Rp.u8 5 (.slice a24 (bytesOf (rootB v.1)).length c24) (bytesOf (rootB v.1)), OwnP Rp.u8 5 (.slice a26 (bytesOf (rootB v.2.1)).length c26) (bytesOf (rootB v.2.1))]) (by repeat (first | exact zsn | (apply zsc; focus (repeat (first | exact zh | apply zt))))) (fun m hm hd => refJoin_c (xss := [bytesOf (rootB v.1), bytesOf (rootB v.2.1)]) ((hm.arr.right hd).rows ⟨hm.tail.arr.right hd, hm.tail.tail.arr.right hd, trivial⟩) (by rw [hfl]; omega)) ?_
  rintro v28 _ ⟨a28, c28, rfl, rfl⟩
  try simp only [zx1, zx2, zx3]
  rw [hfl]
  refine O.q 2 rfl ?_
  refine O.nil ?_
  refine S.ret2 Tryz.results67 rfl rfl fun w hw => Holds.end_ hR hw ?_
  exact ⟨_, ⟨a28, c28, rfl, rfl⟩, by repeat (first | exact zpa | exact zpn | (apply zpc; focus (repeat (first | exact zh | apply zt))) | apply zps)⟩
end Go.Proofs.YtodhbhanmdfdeaaGreat
