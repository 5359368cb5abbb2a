/- Texts of this proof. -/
import Derived.Test.YtodhbhanmdfdeaaGreatFc
import Derived.Test.YtodhbhanmdfdeaaGreatRef15
import Derived.Test.YtodhbhanmdfdeaaGreatSpChain
open Go Go.Sp
set_option maxRecDepth 100000
attribute [local irreducible] obj Own OwnP
namespace Go.Proofs.YtodhbhanmdfdeaaGreat
theorem r7dot_c {r : Fr} {a b : Int} (d : DotT) (h : d = (a, b, ())) : Con Tryz.prog 286 #[.agg #[.int .i64 a, .int .i64 b]] r [] (Ret fun v η => v = .bool (dotOk d) ∧ η = []) := by
 subst h
 refine Con.of (n := 21) [.agg #[.int .i64 a, .int .i64 b]] rfl Tryz.func286 rfl rfl rfl fun g hg R hR => ?_
 refine S.seq (S.region rfl ?_)
 refine O.opE (.p rfl) (.box (cs := [_, _]) rfl rfl) ?_
 rintro _ _ ⟨b1, rfl, rfl⟩
 refine O.q 1 rfl ?_
 refine O.nil (S.seq (S.region rfl ?_))
 refine O.op (.p rfl) (.fieldObj F.fld166x0 rfl) ?_
 refine O.op (.p rfl) (.loadObj F.flat3 rfl (by repeat (first | exact zh | apply zt)) rfl) ?_
 refine O.op (.p rfl) (.geq rfl rfl) ?_
 refine O.q 1 rfl ?_
 first | refine O.caseD 6 rfl (fun h6 => ?_) (fun h6 => ?_) | refine O.caseB 6 rfl (fun h6 => ?_) (fun h6 => ?_)
 ·refine O.op (.g rfl rfl) (.fieldObj F.fld166x0 rfl) ?_
  refine O.op (.g rfl rfl) (.loadObj F.flat3 rfl (by repeat (first | exact zh | apply zt)) rfl) ?_
  refine O.op (.g rfl rfl) (.leq rfl rfl) ?_
  refine O.q 2 rfl ?_
  first | refine O.caseD 11 rfl (fun h11 => ?_) (fun h11 => ?_) | refine O.caseB 11 rfl (fun h11 => ?_) (fun h11 => ?_)
  ·refine O.op (.g rfl rfl) (.fieldObj F.fld166x1 rfl) ?_
   refine O.op (.g rfl rfl) (.loadObj F.flat3 rfl (by repeat (first | exact zh | apply zt)) rfl) ?_
   refine O.op (.g rfl rfl) (.geq rfl rfl) ?_
   refine O.q 2 rfl ?_
   first | refine O.caseD 16 rfl (fun h16 => ?_) (fun h16 => ?_) | refine O.caseB 16 rfl (fun h16 => ?_) (fun h16 => ?_)
   ·refine O.op (.g rfl rfl) (.fieldObj F.fld166x1 rfl) ?_
    refine O.op (.g rfl rfl) (.loadObj F.flat3 rfl (by repeat (first | exact zh | apply zt)) rfl) ?_
    refine O.op (.g rfl rfl) (.leq rfl rfl) ?_
    refine O.q 2 rfl ?_
    refine O.nil ?_
    refine S.ret Tryz.results286 rfl fun w hw => Holds.end_ hR hw ?_
    first | exact ⟨_, ⟨congrArg _ (decide_eq_false (by simp only []; omega)).symm, rfl⟩, by repeat (first | exact zpa | exact zpn | (apply zpc; focus (repeat (first | exact zh | apply zt))) | apply zps)⟩ | exact ⟨_, ⟨congrArg _ (decide_eq_decide.2 (by simp only []; omega)), rfl⟩, by repeat (first | exact zpa | exact zpn | (apply zpc; focus (repeat (first | exact zh | apply zt))) | apply zps)⟩
   ·refine O.q 5 rfl ?_
    refine O.nil ?_
    refine S.ret Tryz.results286 rfl fun w hw => Holds.end_ hR hw ?_
    first | exact ⟨_, ⟨congrArg _ (decide_eq_false (by simp only []; omega)).symm, rfl⟩, by repeat (first | exact zpa | exact zpn | (apply zpc; focus (repeat (first | exact zh | apply zt))) | apply zps)⟩ | exact ⟨_, ⟨congrArg _ (decide_eq_decide.2 (by simp only []; omega)), rfl⟩, by repeat (first | exact zpa | exact zpn | (apply zpc; focus (repeat (first | exact zh | apply zt))) | apply zps)⟩
  ·refine O.q 10 rfl ?_
   refine O.nil ?_
   refine S.ret Tryz.results286 rfl fun w hw => Holds.end_ hR hw ?_
   first | exact ⟨_, ⟨congrArg _ (decide_eq_false (by simp only []; omega)).symm, rfl⟩, by repeat (first | exact zpa | exact zpn | (apply zpc; focus (repeat (first | exact zh | apply zt))) | apply zps)⟩ | exact ⟨_, ⟨congrArg _ (decide_eq_decide.2 (by simp only []; omega)), rfl⟩, by repeat (first | exact zpa | exact zpn | (apply zpc; focus (repeat (first | exact zh | apply zt))) | apply zps)⟩
 ·refine O.q 15 rfl ?_
  refine O.nil ?_
  refine S.ret Tryz.results286 rfl fun w hw => Holds.end_ hR hw ?_
  first | exact ⟨_, ⟨congrArg _ (decide_eq_false (by simp only []; omega)).symm, rfl⟩, by repeat (first | exact zpa | exact zpn | (apply zpc; focus (repeat (first | exact zh | apply zt))) | apply zps)⟩ | exact ⟨_, ⟨congrArg _ (decide_eq_decide.2 (by simp only []; omega)), rfl⟩, by repeat (first | exact zpa | exact zpn | (apply zpc; focus (repeat (first | exact zh | apply zt))) | apply zps)⟩
theorem r7right_c {r : Fr} {va : Value} {v : List DotT} (ha : Arr DotRp r va v) : Con Tryz.prog 287 #[va] r [] (Ret fun u η => u = .bool (vecOk v) ∧ η = []) := by
 refine Con.of (n := 34) [va] rfl Tryz.func287 rfl rfl rfl fun g hg R hR => ?_
 have ha := ha.mono hg
 have hbd := ha.bound
 obtain ⟨a1, c1, rfl⟩ := ha.shape
 refine S.seq (S.region rfl ?_)
 refine O.q 1 rfl ?_
 refine O.nil (S.seq (S.seq (S.region rfl ?_)))
 refine O.q 1 rfl ?_
 refine O.nil (S.block ?_)
 refine S.loopK (ι := Nat) (fun k => k ≤ v.length ∧ vecOk (v.take k) = true) (fun k => [(3, .int .i64 (k : Int))]) [(0, _)] (fun k => []) (fun k => v.length - k) (0) (by exact ⟨by simp, rfl⟩) (.cons rfl (.nil)) (.cons rfl (.nil)) rfl fun k hx ih => ?_
 have hm1 := meltRefl (g := g)
 obtain ⟨hx1, hx2⟩ := hx
 refine S.seq (S.seq (S.region rfl ?_))
 refine O.q 2 rfl ?_
 refine O.op (.p rfl) (.len rfl Tryz.underlying72 rfl) ?_
 refine O.op (.p rfl) (.lss rfl rfl) ?_
 refine O.nil ?_
 first | refine S.condD rfl (fun h7 => ?_) (fun h7 => ?_) | refine S.condB rfl (fun h7 => ?_) (fun h7 => ?_)
 ·have hk : k < v.length := by omega
  have hst := vecOk_step hk hx2
  by_cases hd : dotOk v[k] = true
  ·by_cases h0 : k = 0
   ·
    refine S.skip (S.seq (S.block (S.seq (S.regionD (L := [0, 1, 2, 3, 4, 5, 6, 7, 8, 9, 10, 11, 12, 13, 14, 15, 16, 17, 18, 19, 20, 21, 22, 23]) F.mixed (by kernel_rfl) ?_))))
    refine OD.q 2 rfl ?_
    refine OD.idx' (.p rfl) Tryz.underlying72 F.size166 rfl rfl rfl (by first | assumption | exact Arr.mono hg (by assumption) | exact Arr.left (by assumption) | exact Arr.left (Arr.mono hg (by assumption))) (by decide) (by first | omega | (simp; done) | (simp; omega) | decide) (fun p12 cs12 hp12 hr12 => ?_)
    obtain ⟨rfl, hi12, hj12⟩ := DotRp.open hr12
    refine .quiet (.p rfl) rfl (fun _ => .loadAgg Tryz.isAgg166 (by kernel_rfl) rfl hp12) ?_
    refine OD.call0 (.p rfl) (by kernel_rfl) rfl F.ok286 rfl rfl ((r7dot_c v[k] rfl)) ?_
    rintro v14 _ ⟨rfl, rfl⟩
    try simp only [zx1, zx2, zx3]
    refine OD.slot 14 (v' := .bool true) rfl (congrArg Value.bool (by exact hd)) ?_
    refine .quiet (.p rfl) rfl (fun _ => .not rfl) ?_
    refine OD.q 2 rfl ?_
    refine .quiet (.g rfl rfl) rfl (fun _ => .gtr rfl rfl) ?_
    refine OD.slot 18 (v' := .bool false) rfl (congrArg Value.bool (by exact decide_eq_false (by omega))) ?_
    refine OD.q 15 rfl ?_
    refine ODx.nil (S.condF rfl ?_)
    refine S.skip (S.inBlock (S.region rfl ?_))
    refine O.q 1 rfl ?_
    refine O.op (.p rfl) (.add rfl rfl (IntWalk.i64_in _ (by omega))) ?_
    refine O.q 1 rfl ?_
    refine O.nil ?_
    refine S.weaken ?_ (ih (k + 1) (by exact ⟨by omega, hst.2 ⟨hd, fun h => absurd h (by omega)⟩⟩) (by omega))
    repeat (first | exact Sub.nil | refine Sub.cons rfl ?_)
   ·have hk1 : k - 1 < v.length := by omega
    by_cases hlt : v[k - 1].1 < v[k].1
    ·
     refine S.skip (S.seq (S.block (S.seq (S.regionD (L := [0, 1, 2, 3, 4, 5, 6, 7, 8, 9, 10, 11, 12, 13, 14, 15, 16, 17, 18, 19, 20, 21, 22, 23]) F.mixed (by kernel_rfl) ?_))))
     refine OD.q 2 rfl ?_
     refine OD.idx' (.p rfl) Tryz.underlying72 F.size166 rfl rfl rfl (by first | assumption | exact Arr.mono hg (by assumption) | exact Arr.left (by assumption) | exact Arr.left (Arr.mono hg (by assumption))) (by decide) (by first | omega | (simp; done) | (simp; omega) | decide) (fun p12 cs12 hp12 hr12 => ?_)
     obtain ⟨rfl, hi12, hj12⟩ := DotRp.open hr12
     refine .quiet (.p rfl) rfl (fun _ => .loadAgg Tryz.isAgg166 (by kernel_rfl) rfl hp12) ?_
     refine OD.call0 (.p rfl) (by kernel_rfl) rfl F.ok286 rfl rfl ((r7dot_c v[k] rfl)) ?_
     rintro v14 _ ⟨rfl, rfl⟩
     try simp only [zx1, zx2, zx3]
     refine OD.slot 14 (v' := .bool true) rfl (congrArg Value.bool (by exact hd)) ?_
     refine .quiet (.p rfl) rfl (fun _ => .not rfl) ?_
     refine OD.q 2 rfl ?_
     refine .quiet (.g rfl rfl) rfl (fun _ => .gtr rfl rfl) ?_
     refine OD.slot 18 (v' := .bool true) rfl (congrArg Value.bool (by exact decide_eq_true (by omega))) ?_
     refine OD.q 3 rfl ?_
     refine .quiet (.g rfl rfl) rfl (fun _ => .sub rfl rfl (IntWalk.i64_in _ (by omega))) ?_
     refine OD.idx' (.g rfl rfl) Tryz.underlying72 F.size166 rfl rfl (show _ = (((k - 1) : Nat) : Int) by omega) (by first | assumption | exact Arr.mono hg (by assumption) | exact Arr.left (by assumption) | exact Arr.left (Arr.mono hg (by assumption))) (by decide) (by first | omega | (simp; done) | (simp; omega) | decide) (fun p23 cs23 hp23 hr23 => ?_)
     obtain ⟨rfl, hi23, hj23⟩ := DotRp.open hr23
     refine .quiet (.g rfl rfl) rfl (fun _ => .fieldAddr F.fld166x0 rfl) ?_
     refine .quiet (.g rfl rfl) rfl (fun _ => .loadAt F.flat3 rfl hp23 rfl) ?_
     refine OD.q 2 rfl ?_
     refine OD.idx' (.g rfl rfl) Tryz.underlying72 F.size166 rfl rfl rfl (by first | assumption | exact Arr.mono hg (by assumption) | exact Arr.left (by assumption) | exact Arr.left (Arr.mono hg (by assumption))) (by decide) (by first | omega | (simp; done) | (simp; omega) | decide) (fun p28 cs28 hp28 hr28 => ?_)
     obtain ⟨rfl, hi28, hj28⟩ := DotRp.open hr28
     refine .quiet (.g rfl rfl) rfl (fun _ => .fieldAddr F.fld166x0 rfl) ?_
     refine .quiet (.g rfl rfl) rfl (fun _ => .loadAt F.flat3 rfl hp28 rfl) ?_
     refine .quiet (.g rfl rfl) rfl (fun _ => .geq rfl rfl) ?_
     refine OD.slot 31 (v' := .bool false) rfl (congrArg Value.bool (by exact decide_eq_false (by omega))) ?_
     refine OD.q 2 rfl ?_
     refine ODx.nil (S.condF rfl ?_)
     refine S.skip (S.inBlock (S.region rfl ?_))
     refine O.q 1 rfl ?_
     refine O.op (.p rfl) (.add rfl rfl (IntWalk.i64_in _ (by omega))) ?_
     refine O.q 1 rfl ?_
     refine O.nil ?_
     refine S.weaken ?_ (ih (k + 1) (by exact ⟨by omega, hst.2 ⟨hd, fun _ => hlt⟩⟩) (by omega))
     repeat (first | exact Sub.nil | refine Sub.cons rfl ?_)
    ·
     refine S.skip (S.seq (S.block (S.seq (S.regionD (L := [0, 1, 2, 3, 4, 5, 6, 7, 8, 9, 10, 11, 12, 13, 14, 15, 16, 17, 18, 19, 20, 21, 22, 23]) F.mixed (by kernel_rfl) ?_))))
     refine OD.q 2 rfl ?_
     refine OD.idx' (.p rfl) Tryz.underlying72 F.size166 rfl rfl rfl (by first | assumption | exact Arr.mono hg (by assumption) | exact Arr.left (by assumption) | exact Arr.left (Arr.mono hg (by assumption))) (by decide) (by first | omega | (simp; done) | (simp; omega) | decide) (fun p12 cs12 hp12 hr12 => ?_)
     obtain ⟨rfl, hi12, hj12⟩ := DotRp.open hr12
     refine .quiet (.p rfl) rfl (fun _ => .loadAgg Tryz.isAgg166 (by kernel_rfl) rfl hp12) ?_
     refine OD.call0 (.p rfl) (by kernel_rfl) rfl F.ok286 rfl rfl ((r7dot_c v[k] rfl)) ?_
     rintro v14 _ ⟨rfl, rfl⟩
     try simp only [zx1, zx2, zx3]
     refine OD.slot 14 (v' := .bool true) rfl (congrArg Value.bool (by exact hd)) ?_
     refine .quiet (.p rfl) rfl (fun _ => .not rfl) ?_
     refine OD.q 2 rfl ?_
     refine .quiet (.g rfl rfl) rfl (fun _ => .gtr rfl rfl) ?_
     refine OD.slot 18 (v' := .bool true) rfl (congrArg Value.bool (by exact decide_eq_true (by omega))) ?_
     refine OD.q 3 rfl ?_
     refine .quiet (.g rfl rfl) rfl (fun _ => .sub rfl rfl (IntWalk.i64_in _ (by omega))) ?_
     refine OD.idx' (.g rfl rfl) Tryz.underlying72 F.size166 rfl rfl (show _ = (((k - 1) : Nat) : Int) by omega) (by first | assumption | exact Arr.mono hg (by assumption) | exact Arr.left (by assumption) | exact Arr.left (Arr.mono hg (by assumption))) (by decide) (by first | omega | (simp; done) | (simp; omega) | decide) (fun p23 cs23 hp23 hr23 => ?_)
     obtain ⟨rfl, hi23, hj23⟩ := DotRp.open hr23
     refine .quiet (.g rfl rfl) rfl (fun _ => .fieldAddr F.fld166x0 rfl) ?_
     refine .quiet (.g rfl rfl) rfl (fun _ => .loadAt F.flat3 rfl hp23 rfl) ?_
     refine OD.q 2 rfl ?_
     refine OD.idx' (.g rfl rfl) Tryz.underlying72 F.size166 rfl rfl rfl (by first | assumption | exact Arr.mono hg (by assumption) | exact Arr.left (by assumption) | exact Arr.left (Arr.mono hg (by assumption))) (by decide) (by first | omega | (simp; done) | (simp; omega) | decide) (fun p28 cs28 hp28 hr28 => ?_)
     obtain ⟨rfl, hi28, hj28⟩ := DotRp.open hr28
     refine .quiet (.g rfl rfl) rfl (fun _ => .fieldAddr F.fld166x0 rfl) ?_
     refine .quiet (.g rfl rfl) rfl (fun _ => .loadAt F.flat3 rfl hp28 rfl) ?_
     refine .quiet (.g rfl rfl) rfl (fun _ => .geq rfl rfl) ?_
     refine OD.slot 31 (v' := .bool true) rfl (congrArg Value.bool (by exact decide_eq_true (by omega))) ?_
     refine OD.q 2 rfl ?_
     refine ODx.nil (S.condT rfl ?_)
     refine S.seq (S.region rfl ?_)
     refine O.q 1 rfl ?_
     refine O.nil ?_
     refine S.ret Tryz.results287 rfl fun w hw => Holds.end_ hR hw ?_
     exact ⟨_, ⟨congrArg _ (vecOk_none (i := k + 1) (Bool.eq_false_iff.2 fun e => hlt ((hst.1 e).2 (by omega)))).symm, rfl⟩, by repeat (first | exact zpa | exact zpn | (apply zpc; focus (repeat (first | exact zh | apply zt))) | apply zps)⟩
  ·have hd' : dotOk v[k] = false := by simpa using hd
   refine S.skip (S.seq (S.block (S.seq (S.regionD (L := [0, 1, 2, 3, 4, 5, 6, 7, 8, 9, 10, 11, 12, 13, 14, 15, 16, 17, 18, 19, 20, 21, 22, 23]) F.mixed (by kernel_rfl) ?_))))
   refine OD.q 2 rfl ?_
   refine OD.idx' (.p rfl) Tryz.underlying72 F.size166 rfl rfl rfl (by first | assumption | exact Arr.mono hg (by assumption) | exact Arr.left (by assumption) | exact Arr.left (Arr.mono hg (by assumption))) (by decide) (by first | omega | (simp; done) | (simp; omega) | decide) (fun p12 cs12 hp12 hr12 => ?_)
   obtain ⟨rfl, hi12, hj12⟩ := DotRp.open hr12
   refine .quiet (.p rfl) rfl (fun _ => .loadAgg Tryz.isAgg166 (by kernel_rfl) rfl hp12) ?_
   refine OD.call0 (.p rfl) (by kernel_rfl) rfl F.ok286 rfl rfl ((r7dot_c v[k] rfl)) ?_
   rintro v14 _ ⟨rfl, rfl⟩
   try simp only [zx1, zx2, zx3]
   refine OD.slot 14 (v' := .bool false) rfl (congrArg Value.bool (by exact hd')) ?_
   refine .quiet (.p rfl) rfl (fun _ => .not rfl) ?_
   refine OD.q 18 rfl ?_
   refine ODx.nil (S.condT rfl ?_)
   refine S.seq (S.region rfl ?_)
   refine O.q 1 rfl ?_
   refine O.nil ?_
   refine S.ret Tryz.results287 rfl fun w hw => Holds.end_ hR hw ?_
   exact ⟨_, ⟨congrArg _ (vecOk_none (i := k + 1) (Bool.eq_false_iff.2 fun e => hd (hst.1 e).1)).symm, rfl⟩, by repeat (first | exact zpa | exact zpn | (apply zpc; focus (repeat (first | exact zh | apply zt))) | apply zps)⟩
 ·clear ih
  have hk : k = v.length := by omega
  subst hk
  rw [List.take_length] at hx2
  refine S.exit rfl ?_
  refine S.seq (S.region rfl ?_)
  refine O.q 1 rfl ?_
  refine O.nil ?_
  refine S.ret Tryz.results287 rfl fun w hw => Holds.end_ hR hw ?_
  exact ⟨_, ⟨by rw [hx2], rfl⟩, by repeat (first | exact zpa | exact zpn | (apply zpc; focus (repeat (first | exact zh | apply zt))) | apply zps)⟩
theorem r7up_c {r : Fr} {va : Value} {v : List DotT} (c : Int) (ha : Arr DotRp r va v) (ho : vecOk v = true) :
  Con Tryz.prog 288 #[va, .int .i64 c] r [] (Ret fun u η => ∃ z, u = .int .i64 z ∧ (∀ s, 1 ≤ s → decide (s ≤ z) = hasM v (c, s, ())) ∧ η = []) := by
 have hri := (vecOk_iff.1 ho).2
 refine Con.of (n := 24) [va, .int .i64 c] rfl Tryz.func288 rfl rfl rfl fun g hg R hR => ?_
 have ha := ha.mono hg
 have hbd := ha.bound
 obtain ⟨a1, c1, rfl⟩ := ha.shape
 refine S.seq (S.region rfl ?_)
 refine O.q 1 rfl ?_
 refine O.nil (S.seq (S.seq (S.region rfl ?_)))
 refine O.q 1 rfl ?_
 refine O.nil (S.block ?_)
 refine S.loopK (ι := Nat) (fun k => k ≤ v.length ∧ ∀ x ∈ v.take k, ¬ x.1 = c) (fun k => [(5, .int .i64 (k : Int))]) [(0, _), (1, _)] (fun k => []) (fun k => v.length - k) (0) (by exact ⟨by simp, by simp⟩) (.cons rfl (.nil)) (.cons rfl (.cons rfl (.nil))) rfl fun k hx ih => ?_
 have hm1 := meltRefl (g := g)
 obtain ⟨hx1, hx2⟩ := hx
 refine S.seq (S.seq (S.region rfl ?_))
 refine O.q 2 rfl ?_
 refine O.op (.p rfl) (.len rfl Tryz.underlying72 rfl) ?_
 refine O.op (.p rfl) (.lss rfl rfl) ?_
 refine O.nil ?_
 first | refine S.condD rfl (fun h9 => ?_) (fun h9 => ?_) | refine S.condB rfl (fun h9 => ?_) (fun h9 => ?_)
 ·have hk : k < v.length := by omega
  by_cases e : v[k].1 = c
  ·
   refine S.skip (S.seq (S.block (S.seq (S.region rfl ?_))))
   refine O.q 2 rfl ?_
   refine O.idx' (.p rfl) Tryz.underlying72 F.size166 rfl rfl rfl (by first | assumption | exact Arr.mono hg (by assumption) | exact Arr.left (by assumption) | exact Arr.left (Arr.mono hg (by assumption))) (by decide) (by first | omega | (simp; done) | (simp; omega) | decide) (fun p14 cs14 hp14 hr14 => ?_)
   obtain ⟨rfl, hi14, hj14⟩ := DotRp.open hr14
   refine O.op (.p rfl) (.fieldAddr F.fld166x0 rfl) ?_
   refine O.op (.p rfl) (.loadAt F.flat3 rfl hp14 rfl) ?_
   refine O.q 1 rfl ?_
   refine O.op (.p rfl) (.eql rfl rfl) ?_
   refine O.slot 18 (v' := .bool true) rfl (congrArg Value.bool (by exact decide_eq_true e)) ?_
   refine O.nil (S.condT rfl ?_)
   refine S.seq (S.region rfl ?_)
   refine O.q 2 rfl ?_
   refine O.idx' (.p rfl) Tryz.underlying72 F.size166 rfl rfl rfl (by first | assumption | exact Arr.mono hg (by assumption) | exact Arr.left (by assumption) | exact Arr.left (Arr.mono hg (by assumption))) (by decide) (by first | omega | (simp; done) | (simp; omega) | decide) (fun p21 cs21 hp21 hr21 => ?_)
   obtain ⟨rfl, hi21, hj21⟩ := DotRp.open hr21
   refine O.op (.p rfl) (.fieldAddr F.fld166x1 rfl) ?_
   refine O.op (.p rfl) (.loadAt F.flat3 rfl (hp21.drop 1) rfl) ?_
   refine O.q 1 rfl ?_
   refine O.nil ?_
   refine S.ret Tryz.results288 rfl fun w hw => Holds.end_ hR hw ?_
   exact ⟨_, ⟨_, rfl, fun s _ => (hasM_at (d := (c, s, ())) hri hk e).symm, rfl⟩, by repeat (first | exact zpa | exact zpn | (apply zpc; focus (repeat (first | exact zh | apply zt))) | apply zps)⟩
  ·
   refine S.skip (S.seq (S.block (S.seq (S.region rfl ?_))))
   refine O.q 2 rfl ?_
   refine O.idx' (.p rfl) Tryz.underlying72 F.size166 rfl rfl rfl (by first | assumption | exact Arr.mono hg (by assumption) | exact Arr.left (by assumption) | exact Arr.left (Arr.mono hg (by assumption))) (by decide) (by first | omega | (simp; done) | (simp; omega) | decide) (fun p14 cs14 hp14 hr14 => ?_)
   obtain ⟨rfl, hi14, hj14⟩ := DotRp.open hr14
   refine O.op (.p rfl) (.fieldAddr F.fld166x0 rfl) ?_
   refine O.op (.p rfl) (.loadAt F.flat3 rfl hp14 rfl) ?_
   refine O.q 1 rfl ?_
   refine O.op (.p rfl) (.eql rfl rfl) ?_
   refine O.slot 18 (v' := .bool false) rfl (congrArg Value.bool (by exact decide_eq_false e)) ?_
   refine O.nil (S.condF rfl ?_)
   refine S.skip (S.inBlock (S.region rfl ?_))
   refine O.q 1 rfl ?_
   refine O.op (.p rfl) (.add rfl rfl (IntWalk.i64_in _ (by omega))) ?_
   refine O.q 1 rfl ?_
   refine O.nil ?_
   refine S.weaken ?_ (ih (k + 1) (by exact ⟨by omega, mem_take_succ hk hx2 e⟩) (by omega))
   repeat (first | exact Sub.nil | refine Sub.cons rfl ?_)
 ·clear ih
  have hk : k = v.length := by omega
  subst hk
  rw [List.take_length] at hx2
  refine S.exit rfl ?_
  refine S.seq (S.region rfl ?_)
  refine O.q 1 rfl ?_
  refine O.nil ?_
  refine S.ret Tryz.results288 rfl fun w hw => Holds.end_ hR hw ?_
  exact ⟨_, ⟨0, rfl, fun s hs => by rw [decide_eq_false (by omega)]; exact (List.any_eq_false.2 fun x hx => by simp [hx2 x hx]).symm, rfl⟩, by repeat (first | exact zpa | exact zpn | (apply zpc; focus (repeat (first | exact zh | apply zt))) | apply zps)⟩
theorem r7has_c {r : Fr} {va : Value} {v : List DotT} {a b : Int} (d : DotT) (h : d = (a, b, ())) (ha : Arr DotRp r va v) :
  Con Tryz.prog 216 #[va, .agg #[.int .i64 a, .int .i64 b]] r [] (Ret fun u η => u = .bool (hasR v d) ∧ η = []) := by
 subst h
 refine Con.of (n := 20) [va, .agg #[.int .i64 a, .int .i64 b]] rfl Tryz.func216 rfl rfl rfl fun g hg R hR => ?_
 have ha := ha.mono hg
 obtain ⟨a1, c1, rfl⟩ := ha.shape
 refine S.seq (S.region rfl ?_)
 refine O.opE (.p rfl) (.box (cs := [_, _]) rfl rfl) ?_
 rintro _ _ ⟨b3, rfl, rfl⟩
 refine O.q 1 rfl ?_
 refine O.nil (S.seq ?_)
 refine S.frzO (by repeat (first | exact zh | apply zt)) fun g hs hm hb3 => ?_
 replace hg := Fr.sub_trans hg hs
 replace hR := melted hR hm
 try replace ha := ha.mono hs
 clear hs hm
 cases e1 : vecOk v with
 | false =>
  refine S.regionD (L := [0, 1, 2, 3, 4, 5, 6, 7, 8, 9, 11, 12, 10, 13, 14, 15]) F.mixed (by kernel_rfl) ?_
  refine OD.q 1 rfl ?_
  refine OD.call0 (.p rfl) (by kernel_rfl) rfl F.ok287 rfl rfl ((r7right_c ha)) ?_
  rintro v6 _ ⟨rfl, rfl⟩
  try simp only [zx1, zx2, zx3]
  refine OD.slot 6 (v' := .bool false) rfl (congrArg Value.bool (by exact e1)) ?_
  refine OD.q 14 rfl ?_
  refine ODx.nil ?_
  refine S.ret Tryz.results216 rfl fun w hw => Holds.end_ hR hw ?_
  exact ⟨_, ⟨by simp [hasR, e1], rfl⟩, by repeat (first | exact zpa | exact zpn | (apply zpc; focus (repeat (first | exact zh | apply zt))) | apply zps)⟩
 | true =>
  cases e2 : dotOk (a, b, ()) with
  | false =>
   refine S.regionD (L := [0, 1, 2, 3, 4, 5, 6, 7, 8, 9, 11, 12, 10, 13, 14, 15]) F.mixed (by kernel_rfl) ?_
   refine OD.q 1 rfl ?_
   refine OD.call0 (.p rfl) (by kernel_rfl) rfl F.ok287 rfl rfl ((r7right_c ha)) ?_
   rintro v6 _ ⟨rfl, rfl⟩
   try simp only [zx1, zx2, zx3]
   refine OD.slot 6 (v' := .bool true) rfl (congrArg Value.bool (by exact e1)) ?_
   refine OD.q 1 rfl ?_
   refine .quiet (.g rfl rfl) rfl (fun _ => .loadAgg Tryz.isAgg166 (by kernel_rfl) rfl hb3) ?_
   refine OD.call0 (.g rfl rfl) (by kernel_rfl) rfl F.ok286 rfl rfl ((r7dot_c _ rfl)) ?_
   rintro v9 _ ⟨rfl, rfl⟩
   try simp only [zx1, zx2, zx3]
   refine OD.slot 9 (v' := .bool false) rfl (congrArg Value.bool (by exact e2)) ?_
   refine OD.q 11 rfl ?_
   refine ODx.nil ?_
   refine S.ret Tryz.results216 rfl fun w hw => Holds.end_ hR hw ?_
   exact ⟨_, ⟨by simp [hasR, e1, e2], rfl⟩, by repeat (first | exact zpa | exact zpn | (apply zpc; focus (repeat (first | exact zh | apply zt))) | apply zps)⟩
  | true =>
   have hb := (dotOk_iff.1 e2).2.2.1
   refine S.regionD (L := [0, 1, 2, 3, 4, 5, 6, 7, 8, 9, 11, 12, 10, 13, 14, 15]) F.mixed (by kernel_rfl) ?_
   refine OD.q 1 rfl ?_
   refine OD.call0 (.p rfl) (by kernel_rfl) rfl F.ok287 rfl rfl ((r7right_c ha)) ?_
   rintro v6 _ ⟨rfl, rfl⟩
   try simp only [zx1, zx2, zx3]
   refine OD.slot 6 (v' := .bool true) rfl (congrArg Value.bool (by exact e1)) ?_
   refine OD.q 1 rfl ?_
   refine .quiet (.g rfl rfl) rfl (fun _ => .loadAgg Tryz.isAgg166 (by kernel_rfl) rfl hb3) ?_
   refine OD.call0 (.g rfl rfl) (by kernel_rfl) rfl F.ok286 rfl rfl ((r7dot_c _ rfl)) ?_
   rintro v9 _ ⟨rfl, rfl⟩
   try simp only [zx1, zx2, zx3]
   refine OD.slot 9 (v' := .bool true) rfl (congrArg Value.bool (by exact e2)) ?_
   refine OD.q 3 rfl ?_
   refine .quiet (.g rfl rfl) rfl (fun _ => .fieldAddr F.fld166x0 rfl) ?_
   refine .quiet (.g rfl rfl) rfl (fun _ => .loadAt F.flat3 rfl hb3 rfl) ?_
   refine .quiet (.g rfl rfl) rfl (fun _ => .fieldAddr F.fld166x1 rfl) ?_
   refine .quiet (.g rfl rfl) rfl (fun _ => .loadAt F.flat3 rfl (hb3.drop 1) rfl) ?_
   refine OD.call0 (.g rfl rfl) (by kernel_rfl) rfl F.ok288 rfl rfl ((r7up_c _ ha e1)) ?_
   rintro v15 _ ⟨z, rfl, hz, rfl⟩
   try simp only [zx1, zx2, zx3]
   refine .quiet (.g rfl rfl) rfl (fun _ => .geq rfl rfl) ?_
   refine OD.q 2 rfl ?_
   refine ODx.nil ?_
   refine S.ret Tryz.results216 rfl fun w hw => Holds.end_ hR hw ?_
   exact ⟨_, ⟨congrArg _ (by rw [hasR, e1, e2, ← hz b hb]; rfl), rfl⟩, by repeat (first | exact zpa | exact zpn | (apply zpc; focus (repeat (first | exact zh | apply zt))) | apply zps)⟩
end Go.Proofs.YtodhbhanmdfdeaaGreat
