/- Texts of this proof, one behind the other. -/
import Derived.Test.YtodhbhanmdfdeaaGreatQFc
import Derived.Test.YtodhbhanmdfdeaaGreatQSame1
import Derived.Test.YtodhbhanmdfdeaaGreatQSpAuto
import Derived.Test.YtodhbhanmdfdeaaGreatQSpTypes
section
/- Texts of this proof. -/
open Go Go.Sp
set_option maxRecDepth 100000
attribute [local irreducible] obj Own OwnP
namespace Go.Proofs.YtodhbhanmdfdeaaGreat
theorem sameRoot_eq {x y : RootT} (h0 : x.1 = y.1) (h1 : x.2.1 = y.2.1) (h2 : x.2.2.1 = y.2.2.1) (h3 : x.2.2.2.1 = y.2.2.2.1) (h4 : x.2.2.2.2.1 = y.2.2.2.2.1) : x = y := by
 obtain ⟨a0, a1, a2, a3, a4, ⟨⟩⟩ := x
 obtain ⟨b0, b1, b2, b3, b4, ⟨⟩⟩ := y
 simp_all
theorem sameRoot_c {r : Fr} {cs ds : List Value} {x y : RootT} (hx : RootRp.rel r cs x) (hy : RootRp.rel r ds y) :
  Con Tryz.prog 160 #[.agg cs.toArray, .agg ds.toArray] r [] (Ret fun v η => v = .bool (decide (x = y)) ∧ η = []) := by
 obtain ⟨xa3, xa4, xc3, xc4, rfl, xk0, xk1, xk2, xk3, xk4⟩ := RootRp.sh hx
 obtain ⟨ya3, ya4, yc3, yc4, rfl, yk0, yk1, yk2, yk3, yk4⟩ := RootRp.sh hy
 refine Con.of (n := 38) _ rfl Tryz.func160 rfl rfl rfl fun g hg R hR => ?_
 have xk3 := xk3.mono hg
 have xk4 := xk4.mono hg
 have yk3 := yk3.mono hg
 have yk4 := yk4.mono hg
 refine S.seq <| S.region rfl <| O.opE (.p rfl) (.box (cs := [_, _, _, _, _]) rfl rfl) ?_
 rintro _ _ ⟨b2, rfl, rfl⟩
 refine O.opE (.p rfl) (.box (cs := [_, _, _, _, _]) rfl rfl) ?_
 rintro _ _ ⟨b3, rfl, rfl⟩
 refine O.q 1 rfl <| O.nil <| S.seq <| S.region rfl <| O.op (.p rfl) (.fieldObj F.fld52x0 rfl) <| O.op (.p rfl) (.lo F.flat3) ?_
 refine O.op (.p rfl) (.fieldObj F.fld52x0 rfl) <| O.op (.p rfl) (.lo F.flat3) ?_
 refine O.op (.p rfl) (.eql rfl rfl) <| O.q 1 rfl ?_
 first | refine O.caseD 10 rfl (fun h10 => ?_) (fun h10 => ?_) | refine O.caseB 10 rfl (fun h10 => ?_) (fun h10 => ?_)
 ·refine O.op (.g rfl rfl) (.fieldObj F.fld52x1 rfl) <| O.op (.g rfl rfl) (.lo F.flat3) ?_
  refine O.op (.g rfl rfl) (.fieldObj F.fld52x1 rfl) <| O.op (.g rfl rfl) (.lo F.flat3) ?_
  refine O.op (.g rfl rfl) (.eql rfl rfl) <| O.q 2 rfl ?_
  first | refine O.caseD 17 rfl (fun h17 => ?_) (fun h17 => ?_) | refine O.caseB 17 rfl (fun h17 => ?_) (fun h17 => ?_)
  ·refine O.op (.g rfl rfl) (.fieldObj F.fld52x2 rfl) <| O.op (.g rfl rfl) (.lo F.flat3) ?_
   refine O.op (.g rfl rfl) (.fieldObj F.fld52x2 rfl) <| O.op (.g rfl rfl) (.lo F.flat3) ?_
   refine O.op (.g rfl rfl) (.eql rfl rfl) <| O.q 2 rfl ?_
   first | refine O.caseD 24 rfl (fun h24 => ?_) (fun h24 => ?_) | refine O.caseB 24 rfl (fun h24 => ?_) (fun h24 => ?_)
   ·refine O.op (.g rfl rfl) (.fieldObj F.fld52x3 rfl) <| O.op (.g rfl rfl) (.lo F.flat31) ?_
    refine O.op (.g rfl rfl) (.fieldObj F.fld52x3 rfl) <| O.op (.g rfl rfl) (.lo F.flat31) ?_
    refine O.call0 (.g rfl rfl) rfl F.ok19 rfl rfl (SameBytes_c (by first | assumption | exact Arr.mono hg (by assumption) | exact Arr.left (by assumption) | exact Arr.left (Arr.mono hg (by assumption))) (by first | assumption | exact Arr.mono hg (by assumption) | exact Arr.left (by assumption) | exact Arr.left (Arr.mono hg (by assumption)))) ?_
    rintro v29 _ ⟨rfl, rfl⟩
    try simp only [zx1, zx2, zx3]
    refine O.q 2 rfl ?_
    first | refine O.caseD 31 rfl (fun h31 => ?_) (fun h31 => ?_) | refine O.caseB 31 rfl (fun h31 => ?_) (fun h31 => ?_)
    ·refine O.op (.g rfl rfl) (.fieldObj F.fld52x4 rfl) <| O.op (.g rfl rfl) (.lo F.flat31) ?_
     refine O.op (.g rfl rfl) (.fieldObj F.fld52x4 rfl) <| O.op (.g rfl rfl) (.lo F.flat31) ?_
     refine O.call0 (.g rfl rfl) rfl F.ok19 rfl rfl (SameBytes_c (by first | assumption | exact Arr.mono hg (by assumption) | exact Arr.left (by assumption) | exact Arr.left (Arr.mono hg (by assumption))) (by first | assumption | exact Arr.mono hg (by assumption) | exact Arr.left (by assumption) | exact Arr.left (Arr.mono hg (by assumption)))) ?_
     rintro v36 _ ⟨rfl, rfl⟩
     try simp only [zx1, zx2, zx3]
     refine O.q 2 rfl <| O.nil <| S.ret Tryz.results160 rfl fun w hw => Holds.end_ hR hw ?_
     first | exact ⟨_, ⟨congrArg _ (decide_eq_false (fun e => by subst e; exact absurd rfl (by assumption))).symm, rfl⟩, by repeat (first | exact zpa | exact zpn | (apply zpc; focus (repeat (first | exact zh | apply zt))) | apply zps)⟩ | exact ⟨_, ⟨congrArg _ (decide_eq_decide.2 ⟨fun e => sameRoot_eq (by assumption) (by assumption) (by assumption) (by assumption) e, fun e => by rw [e]⟩), rfl⟩, by repeat (first | exact zpa | exact zpn | (apply zpc; focus (repeat (first | exact zh | apply zt))) | apply zps)⟩
    ·refine O.q 7 rfl <| O.nil <| S.ret Tryz.results160 rfl fun w hw => Holds.end_ hR hw ?_
     first | exact ⟨_, ⟨congrArg _ (decide_eq_false (fun e => by subst e; exact absurd rfl (by assumption))).symm, rfl⟩, by repeat (first | exact zpa | exact zpn | (apply zpc; focus (repeat (first | exact zh | apply zt))) | apply zps)⟩ | exact ⟨_, ⟨congrArg _ (decide_eq_decide.2 ⟨fun e => sameRoot_eq (by assumption) (by assumption) (by assumption) (by assumption) e, fun e => by rw [e]⟩), rfl⟩, by repeat (first | exact zpa | exact zpn | (apply zpc; focus (repeat (first | exact zh | apply zt))) | apply zps)⟩
   ·refine O.q 14 rfl <| O.nil <| S.ret Tryz.results160 rfl fun w hw => Holds.end_ hR hw ?_
    first | exact ⟨_, ⟨congrArg _ (decide_eq_false (fun e => by subst e; exact absurd rfl (by assumption))).symm, rfl⟩, by repeat (first | exact zpa | exact zpn | (apply zpc; focus (repeat (first | exact zh | apply zt))) | apply zps)⟩ | exact ⟨_, ⟨congrArg _ (decide_eq_decide.2 ⟨fun e => sameRoot_eq (by assumption) (by assumption) (by assumption) (by assumption) e, fun e => by rw [e]⟩), rfl⟩, by repeat (first | exact zpa | exact zpn | (apply zpc; focus (repeat (first | exact zh | apply zt))) | apply zps)⟩
  ·refine O.q 21 rfl <| O.nil <| S.ret Tryz.results160 rfl fun w hw => Holds.end_ hR hw ?_
   first | exact ⟨_, ⟨congrArg _ (decide_eq_false (fun e => by subst e; exact absurd rfl (by assumption))).symm, rfl⟩, by repeat (first | exact zpa | exact zpn | (apply zpc; focus (repeat (first | exact zh | apply zt))) | apply zps)⟩ | exact ⟨_, ⟨congrArg _ (decide_eq_decide.2 ⟨fun e => sameRoot_eq (by assumption) (by assumption) (by assumption) (by assumption) e, fun e => by rw [e]⟩), rfl⟩, by repeat (first | exact zpa | exact zpn | (apply zpc; focus (repeat (first | exact zh | apply zt))) | apply zps)⟩
 ·refine O.q 28 rfl <| O.nil <| S.ret Tryz.results160 rfl fun w hw => Holds.end_ hR hw ?_
  first | exact ⟨_, ⟨congrArg _ (decide_eq_false (fun e => by subst e; exact absurd rfl (by assumption))).symm, rfl⟩, by repeat (first | exact zpa | exact zpn | (apply zpc; focus (repeat (first | exact zh | apply zt))) | apply zps)⟩ | exact ⟨_, ⟨congrArg _ (decide_eq_decide.2 ⟨fun e => sameRoot_eq (by assumption) (by assumption) (by assumption) (by assumption) e, fun e => by rw [e]⟩), rfl⟩, by repeat (first | exact zpa | exact zpn | (apply zpc; focus (repeat (first | exact zh | apply zt))) | apply zps)⟩
theorem sameRoots_c {r : Fr} {va vb : Value} {xs ys : List RootT} (ha : Arr RootRp r va xs) (hb : Arr RootRp r vb ys) :
  Con Tryz.prog 96 #[va, vb] r [] (Ret fun v η => v = .bool (decide (xs = ys)) ∧ η = []) := by
 have har := ha
 have hbr := hb
 refine Con.of (n := 27) _ rfl Tryz.func96 rfl rfl rfl fun g hg R hR => ?_
 have ha := ha.mono hg
 have hb := hb.mono hg
 have hbd := ha.bound
 obtain ⟨a1, c1, rfl⟩ := ha.shape
 obtain ⟨a2, c2, rfl⟩ := hb.shape
 by_cases e0 : xs.length = ys.length
 ·
  refine S.seq <| S.region rfl <| O.q 1 rfl <| O.nil <| S.seq <| S.seq <| S.region rfl <| O.q 1 rfl <| O.op (.p rfl) (.len rfl Tryz.underlying23 rfl) <| O.q 1 rfl <| O.op (.p rfl) (.len rfl Tryz.underlying23 rfl) <| O.op (.p rfl) (.neq rfl rfl) <| O.sF 10 rfl (by exact decide_eq_false (by omega)) ?_
  refine O.nil <| S.condF rfl <| S.skip <| S.seq <| S.seq <| S.region rfl <| O.q 1 rfl <| O.nil <| S.block <| S.loopK (ι := Nat) (fun i => i ≤ xs.length ∧ xs.take i = ys.take i) (fun i => [(5, .int .i64 (i : Int))]) [(0, _), (1, _)] (fun i => []) (fun i => xs.length - i) (0) (by simp) (.cons rfl (.nil)) (.cons rfl (.cons rfl (.nil))) rfl fun i hx ih => ?_
  have hm1 := meltRefl (g := g)
  obtain ⟨hx1, hx2⟩ := hx
  refine S.seq <| S.seq <| S.region rfl <| O.q 2 rfl <| O.op (.p rfl) (.len rfl Tryz.underlying23 rfl) <| O.op (.p rfl) (.lss rfl rfl) <| O.nil ?_
  first | refine S.condD rfl (fun h14 => ?_) (fun h14 => ?_) | refine S.condB rfl (fun h14 => ?_) (fun h14 => ?_)
  ·have hi : i < xs.length := by omega
   have hi2 : i < ys.length := by omega
   by_cases e : xs[i] = ys[i]
   ·
    refine S.skip <| S.seq <| S.block <| S.seq <| S.regionD (L := [0, 1, 2, 3, 4, 5, 6, 7, 8, 9]) F.mixed (by kernel_rfl) <| OD.q 2 rfl <| OD.ib (.p rfl) Tryz.underlying23 F.size52 rfl rfl rfl har hg (h := fun p19 cs19 hp19 hrr19 => ?_)
    have hr19 := Rp.rel.mono hrr19 hg
    obtain ⟨ta3_19, ta4_19, tc3_19, tc4_19, rfl, ho0_19, ho1_19, ho2_19, ha3_19, ha4_19⟩ := RootRp.sh hr19
    refine .quiet (.p rfl) rfl (fun _ => .loadAgg Tryz.isAgg52 (by kernel_rfl) rfl hp19) ?_
    refine OD.q 2 rfl <| OD.ib (.p rfl) Tryz.underlying23 F.size52 rfl rfl rfl hbr hg (h := fun p23 cs23 hp23 hrr23 => ?_)
    have hr23 := Rp.rel.mono hrr23 hg
    obtain ⟨ta3_23, ta4_23, tc3_23, tc4_23, rfl, ho0_23, ho1_23, ho2_23, ha3_23, ha4_23⟩ := RootRp.sh hr23
    refine .quiet (.p rfl) rfl (fun _ => .loadAgg Tryz.isAgg52 (by kernel_rfl) rfl hp23) ?_
    refine OD.call0 (.p rfl) (by kernel_rfl) rfl F.ok160 rfl rfl ((sameRoot_c hr19 hr23)) ?_
    rintro v25 _ ⟨rfl, rfl⟩
    try simp only [zx1, zx2, zx3]
    refine OD.sT 25 rfl (by exact decide_eq_true e) ?_
    refine .quiet (.p rfl) rfl (fun _ => .not rfl) <| ODx.nil <| S.condF rfl <| S.skip <| S.inBlock <| S.region rfl <| O.q 1 rfl <| O.op (.p rfl) (.add rfl rfl (IntWalk.i64_in _ (by omega))) <| O.q 1 rfl <| O.nil ?_
    exact S.wk (ih (i + 1) (by exact ⟨by omega, take_same hi hi2 hx2 e⟩) (by omega))
   ·
    refine S.skip <| S.seq <| S.block <| S.seq <| S.regionD (L := [0, 1, 2, 3, 4, 5, 6, 7, 8, 9]) F.mixed (by kernel_rfl) <| OD.q 2 rfl <| OD.ib (.p rfl) Tryz.underlying23 F.size52 rfl rfl rfl har hg (h := fun p19 cs19 hp19 hrr19 => ?_)
    have hr19 := Rp.rel.mono hrr19 hg
    obtain ⟨ta3_19, ta4_19, tc3_19, tc4_19, rfl, ho0_19, ho1_19, ho2_19, ha3_19, ha4_19⟩ := RootRp.sh hr19
    refine .quiet (.p rfl) rfl (fun _ => .loadAgg Tryz.isAgg52 (by kernel_rfl) rfl hp19) ?_
    refine OD.q 2 rfl <| OD.ib (.p rfl) Tryz.underlying23 F.size52 rfl rfl rfl hbr hg (h := fun p23 cs23 hp23 hrr23 => ?_)
    have hr23 := Rp.rel.mono hrr23 hg
    obtain ⟨ta3_23, ta4_23, tc3_23, tc4_23, rfl, ho0_23, ho1_23, ho2_23, ha3_23, ha4_23⟩ := RootRp.sh hr23
    refine .quiet (.p rfl) rfl (fun _ => .loadAgg Tryz.isAgg52 (by kernel_rfl) rfl hp23) ?_
    refine OD.call0 (.p rfl) (by kernel_rfl) rfl F.ok160 rfl rfl ((sameRoot_c hr19 hr23)) ?_
    rintro v25 _ ⟨rfl, rfl⟩
    try simp only [zx1, zx2, zx3]
    refine OD.sF 25 rfl (by exact decide_eq_false e) ?_
    refine .quiet (.p rfl) rfl (fun _ => .not rfl) <| ODx.nil <| S.condT rfl <| S.seq <| S.region rfl <| O.q 1 rfl <| O.nil ?_
    exact S.rt Tryz.results96 rfl hR ⟨congrArg _ (decide_eq_false (not_same hi hi2 e)).symm, rfl⟩
  ·have hi : i = xs.length := by omega
   clear ih
   subst hi
   rw [List.take_length, e0, List.take_length] at hx2
   refine S.exit rfl <| S.seq <| S.region rfl <| O.q 1 rfl <| O.nil ?_
   exact S.rt Tryz.results96 rfl hR ⟨by simp [hx2], rfl⟩
 ·
  refine S.seq <| S.region rfl <| O.q 1 rfl <| O.nil <| S.seq <| S.seq <| S.region rfl <| O.q 1 rfl <| O.op (.p rfl) (.len rfl Tryz.underlying23 rfl) <| O.q 1 rfl <| O.op (.p rfl) (.len rfl Tryz.underlying23 rfl) <| O.op (.p rfl) (.neq rfl rfl) <| O.sT 10 rfl (by exact decide_eq_true (by omega)) ?_
  refine O.nil <| S.condT rfl <| S.seq <| S.region rfl <| O.q 1 rfl <| O.nil ?_
  exact S.rt Tryz.results96 rfl hR ⟨congrArg _ (decide_eq_false (fun h => e0 (by rw [h]))).symm, rfl⟩
theorem sameEvidence_eq {x y : EvdT} (h0 : x.1 = y.1) (h1 : x.2.1 = y.2.1) : x = y := by
 obtain ⟨a0, a1, ⟨⟩⟩ := x
 obtain ⟨b0, b1, ⟨⟩⟩ := y
 simp_all
theorem sameEvidence_c {r : Fr} {cs ds : List Value} {x y : EvdT} (hx : EvdRp.rel r cs x) (hy : EvdRp.rel r ds y) :
  Con Tryz.prog 156 #[.agg cs.toArray, .agg ds.toArray] r [] (Ret fun v η => v = .bool (decide (x = y)) ∧ η = []) := by
 obtain ⟨xa3, xa4, xa8, xa9, xc3, xc4, xc8, xc9, rfl, xk0, xk1, xk2, xk3, xk4, xk5, xk6, xk7, xk8, xk9⟩ := EvdRp.sh hx
 obtain ⟨ya3, ya4, ya8, ya9, yc3, yc4, yc8, yc9, rfl, yk0, yk1, yk2, yk3, yk4, yk5, yk6, yk7, yk8, yk9⟩ := EvdRp.sh hy
 refine Con.of (n := 17) _ rfl Tryz.func156 rfl rfl rfl fun g hg R hR => ?_
 have xk3 := xk3.mono hg
 have xk4 := xk4.mono hg
 have xk8 := xk8.mono hg
 have xk9 := xk9.mono hg
 have yk3 := yk3.mono hg
 have yk4 := yk4.mono hg
 have yk8 := yk8.mono hg
 have yk9 := yk9.mono hg
 refine S.seq <| S.region rfl <| O.opE (.p rfl) (.box (cs := [_, _, _, _, _, _, _, _, _, _]) rfl rfl) ?_
 rintro _ _ ⟨b2, rfl, rfl⟩
 refine O.opE (.p rfl) (.box (cs := [_, _, _, _, _, _, _, _, _, _]) rfl rfl) ?_
 rintro _ _ ⟨b3, rfl, rfl⟩
 refine O.q 1 rfl <| O.nil <| S.seq <| S.region rfl <| O.op (.p rfl) (.fieldObj F.fld55x0 rfl) <| O.op (.p rfl) (.loA (news := [_, _, _, _, _]) Tryz.isAgg52) ?_
 refine O.op (.p rfl) (.fieldObj F.fld55x0 rfl) <| O.op (.p rfl) (.loA (news := [_, _, _, _, _]) Tryz.isAgg52) ?_
 refine O.call0 (.p rfl) rfl F.ok160 rfl rfl ((sameRoot_c (x := x.1) (y := y.1) (RootRp.mk xk0 xk1 xk2 xk3 xk4) (RootRp.mk yk0 yk1 yk2 yk3 yk4))) ?_
 rintro v9 _ ⟨rfl, rfl⟩
 try simp only [zx1, zx2, zx3]
 refine O.q 1 rfl ?_
 first | refine O.caseD 10 rfl (fun h10 => ?_) (fun h10 => ?_) | refine O.caseB 10 rfl (fun h10 => ?_) (fun h10 => ?_)
 ·refine O.op (.g rfl rfl) (.fieldObj F.fld55x1 rfl) <| O.op (.g rfl rfl) (.loA (news := [_, _, _, _, _]) Tryz.isAgg52) ?_
  refine O.op (.g rfl rfl) (.fieldObj F.fld55x1 rfl) <| O.op (.g rfl rfl) (.loA (news := [_, _, _, _, _]) Tryz.isAgg52) ?_
  refine O.call0 (.g rfl rfl) rfl F.ok160 rfl rfl ((sameRoot_c (x := x.2.1) (y := y.2.1) (RootRp.mk xk5 xk6 xk7 xk8 xk9) (RootRp.mk yk5 yk6 yk7 yk8 yk9))) ?_
  rintro v15 _ ⟨rfl, rfl⟩
  try simp only [zx1, zx2, zx3]
  refine O.q 2 rfl <| O.nil <| S.ret Tryz.results156 rfl fun w hw => Holds.end_ hR hw ?_
  first | exact ⟨_, ⟨congrArg _ (decide_eq_false (fun e => by subst e; exact absurd rfl (by assumption))).symm, rfl⟩, by repeat (first | exact zpa | exact zpn | (apply zpc; focus (repeat (first | exact zh | apply zt))) | apply zps)⟩ | exact ⟨_, ⟨congrArg _ (decide_eq_decide.2 ⟨fun e => sameEvidence_eq (by assumption) e, fun e => by rw [e]⟩), rfl⟩, by repeat (first | exact zpa | exact zpn | (apply zpc; focus (repeat (first | exact zh | apply zt))) | apply zps)⟩
 ·refine O.q 7 rfl <| O.nil <| S.ret Tryz.results156 rfl fun w hw => Holds.end_ hR hw ?_
  first | exact ⟨_, ⟨congrArg _ (decide_eq_false (fun e => by subst e; exact absurd rfl (by assumption))).symm, rfl⟩, by repeat (first | exact zpa | exact zpn | (apply zpc; focus (repeat (first | exact zh | apply zt))) | apply zps)⟩ | exact ⟨_, ⟨congrArg _ (decide_eq_decide.2 ⟨fun e => sameEvidence_eq (by assumption) e, fun e => by rw [e]⟩), rfl⟩, by repeat (first | exact zpa | exact zpn | (apply zpc; focus (repeat (first | exact zh | apply zt))) | apply zps)⟩
theorem sameEvidenceRow_c {r : Fr} {va vb : Value} {xs ys : List EvdT} (ha : Arr EvdRp r va xs) (hb : Arr EvdRp r vb ys) :
  Con Tryz.prog 97 #[va, vb] r [] (Ret fun v η => v = .bool (decide (xs = ys)) ∧ η = []) := by
 have har := ha
 have hbr := hb
 refine Con.of (n := 27) _ rfl Tryz.func97 rfl rfl rfl fun g hg R hR => ?_
 have ha := ha.mono hg
 have hb := hb.mono hg
 have hbd := ha.bound
 obtain ⟨a1, c1, rfl⟩ := ha.shape
 obtain ⟨a2, c2, rfl⟩ := hb.shape
 by_cases e0 : xs.length = ys.length
 ·
  refine S.seq <| S.region rfl <| O.q 1 rfl <| O.nil <| S.seq <| S.seq <| S.region rfl <| O.q 1 rfl <| O.op (.p rfl) (.len rfl Tryz.underlying24 rfl) <| O.q 1 rfl <| O.op (.p rfl) (.len rfl Tryz.underlying24 rfl) <| O.op (.p rfl) (.neq rfl rfl) <| O.sF 10 rfl (by exact decide_eq_false (by omega)) ?_
  refine O.nil <| S.condF rfl <| S.skip <| S.seq <| S.seq <| S.region rfl <| O.q 1 rfl <| O.nil <| S.block <| S.loopK (ι := Nat) (fun i => i ≤ xs.length ∧ xs.take i = ys.take i) (fun i => [(5, .int .i64 (i : Int))]) [(0, _), (1, _)] (fun i => []) (fun i => xs.length - i) (0) (by simp) (.cons rfl (.nil)) (.cons rfl (.cons rfl (.nil))) rfl fun i hx ih => ?_
  have hm1 := meltRefl (g := g)
  obtain ⟨hx1, hx2⟩ := hx
  refine S.seq <| S.seq <| S.region rfl <| O.q 2 rfl <| O.op (.p rfl) (.len rfl Tryz.underlying24 rfl) <| O.op (.p rfl) (.lss rfl rfl) <| O.nil ?_
  first | refine S.condD rfl (fun h14 => ?_) (fun h14 => ?_) | refine S.condB rfl (fun h14 => ?_) (fun h14 => ?_)
  ·have hi : i < xs.length := by omega
   have hi2 : i < ys.length := by omega
   by_cases e : xs[i] = ys[i]
   ·
    refine S.skip <| S.seq <| S.block <| S.seq <| S.regionD (L := [0, 1, 2, 3, 4, 5, 6, 7, 8, 9]) F.mixed (by kernel_rfl) <| OD.q 2 rfl <| OD.ib (.p rfl) Tryz.underlying24 F.size55 rfl rfl rfl har hg (h := fun p19 cs19 hp19 hrr19 => ?_)
    have hr19 := Rp.rel.mono hrr19 hg
    obtain ⟨ea3_19, ea4_19, ea8_19, ea9_19, ec3_19, ec4_19, ec8_19, ec9_19, rfl, ho0_19, ho1_19, ho2_19, ha3_19, ha4_19, ho5_19, ho6_19, ho7_19, ha8_19, ha9_19⟩ := EvdRp.sh hr19
    refine .quiet (.p rfl) rfl (fun _ => .loadAgg Tryz.isAgg55 (by kernel_rfl) rfl hp19) ?_
    refine OD.q 2 rfl <| OD.ib (.p rfl) Tryz.underlying24 F.size55 rfl rfl rfl hbr hg (h := fun p23 cs23 hp23 hrr23 => ?_)
    have hr23 := Rp.rel.mono hrr23 hg
    obtain ⟨ea3_23, ea4_23, ea8_23, ea9_23, ec3_23, ec4_23, ec8_23, ec9_23, rfl, ho0_23, ho1_23, ho2_23, ha3_23, ha4_23, ho5_23, ho6_23, ho7_23, ha8_23, ha9_23⟩ := EvdRp.sh hr23
    refine .quiet (.p rfl) rfl (fun _ => .loadAgg Tryz.isAgg55 (by kernel_rfl) rfl hp23) ?_
    refine OD.call0 (.p rfl) (by kernel_rfl) rfl F.ok156 rfl rfl ((sameEvidence_c hr19 hr23)) ?_
    rintro v25 _ ⟨rfl, rfl⟩
    try simp only [zx1, zx2, zx3]
    refine OD.sT 25 rfl (by exact decide_eq_true e) ?_
    refine .quiet (.p rfl) rfl (fun _ => .not rfl) <| ODx.nil <| S.condF rfl <| S.skip <| S.inBlock <| S.region rfl <| O.q 1 rfl <| O.op (.p rfl) (.add rfl rfl (IntWalk.i64_in _ (by omega))) <| O.q 1 rfl <| O.nil ?_
    exact S.wk (ih (i + 1) (by exact ⟨by omega, take_same hi hi2 hx2 e⟩) (by omega))
   ·
    refine S.skip <| S.seq <| S.block <| S.seq <| S.regionD (L := [0, 1, 2, 3, 4, 5, 6, 7, 8, 9]) F.mixed (by kernel_rfl) <| OD.q 2 rfl <| OD.ib (.p rfl) Tryz.underlying24 F.size55 rfl rfl rfl har hg (h := fun p19 cs19 hp19 hrr19 => ?_)
    have hr19 := Rp.rel.mono hrr19 hg
    obtain ⟨ea3_19, ea4_19, ea8_19, ea9_19, ec3_19, ec4_19, ec8_19, ec9_19, rfl, ho0_19, ho1_19, ho2_19, ha3_19, ha4_19, ho5_19, ho6_19, ho7_19, ha8_19, ha9_19⟩ := EvdRp.sh hr19
    refine .quiet (.p rfl) rfl (fun _ => .loadAgg Tryz.isAgg55 (by kernel_rfl) rfl hp19) ?_
    refine OD.q 2 rfl <| OD.ib (.p rfl) Tryz.underlying24 F.size55 rfl rfl rfl hbr hg (h := fun p23 cs23 hp23 hrr23 => ?_)
    have hr23 := Rp.rel.mono hrr23 hg
    obtain ⟨ea3_23, ea4_23, ea8_23, ea9_23, ec3_23, ec4_23, ec8_23, ec9_23, rfl, ho0_23, ho1_23, ho2_23, ha3_23, ha4_23, ho5_23, ho6_23, ho7_23, ha8_23, ha9_23⟩ := EvdRp.sh hr23
    refine .quiet (.p rfl) rfl (fun _ => .loadAgg Tryz.isAgg55 (by kernel_rfl) rfl hp23) ?_
    refine OD.call0 (.p rfl) (by kernel_rfl) rfl F.ok156 rfl rfl ((sameEvidence_c hr19 hr23)) ?_
    rintro v25 _ ⟨rfl, rfl⟩
    try simp only [zx1, zx2, zx3]
    refine OD.sF 25 rfl (by exact decide_eq_false e) ?_
    refine .quiet (.p rfl) rfl (fun _ => .not rfl) <| ODx.nil <| S.condT rfl <| S.seq <| S.region rfl <| O.q 1 rfl <| O.nil ?_
    exact S.rt Tryz.results97 rfl hR ⟨congrArg _ (decide_eq_false (not_same hi hi2 e)).symm, rfl⟩
  ·have hi : i = xs.length := by omega
   clear ih
   subst hi
   rw [List.take_length, e0, List.take_length] at hx2
   refine S.exit rfl <| S.seq <| S.region rfl <| O.q 1 rfl <| O.nil ?_
   exact S.rt Tryz.results97 rfl hR ⟨by simp [hx2], rfl⟩
 ·
  refine S.seq <| S.region rfl <| O.q 1 rfl <| O.nil <| S.seq <| S.seq <| S.region rfl <| O.q 1 rfl <| O.op (.p rfl) (.len rfl Tryz.underlying24 rfl) <| O.q 1 rfl <| O.op (.p rfl) (.len rfl Tryz.underlying24 rfl) <| O.op (.p rfl) (.neq rfl rfl) <| O.sT 10 rfl (by exact decide_eq_true (by omega)) ?_
  refine O.nil <| S.condT rfl <| S.seq <| S.region rfl <| O.q 1 rfl <| O.nil ?_
  exact S.rt Tryz.results97 rfl hR ⟨congrArg _ (decide_eq_false (fun h => e0 (by rw [h]))).symm, rfl⟩
theorem sameHeld_eq {x y : HeldT} (h0 : x.1 = y.1) (h1 : x.2.1 = y.2.1) (h2 : x.2.2.1 = y.2.2.1) (h3 : x.2.2.2.1 = y.2.2.2.1) : x = y := by
 obtain ⟨a0, a1, a2, a3, ⟨⟩⟩ := x
 obtain ⟨b0, b1, b2, b3, ⟨⟩⟩ := y
 simp_all
theorem sameHeld_c {r : Fr} {cs ds : List Value} {x y : HeldT} (hx : HeldRp.rel r cs x) (hy : HeldRp.rel r ds y) :
  Con Tryz.prog 33 #[.agg cs.toArray, .agg ds.toArray] r [] (Ret fun v η => v = .bool (decide (x = y)) ∧ η = []) := by
 obtain ⟨xa0, xa1, xa2, xa3, xc0, xc1, xc2, xc3, rfl, xk0, xk1, xk2, xk3⟩ := HeldRp.sh hx
 obtain ⟨ya0, ya1, ya2, ya3, yc0, yc1, yc2, yc3, rfl, yk0, yk1, yk2, yk3⟩ := HeldRp.sh hy
 refine Con.of (n := 31) _ rfl Tryz.func33 rfl rfl rfl fun g hg R hR => ?_
 have xk0 := xk0.mono hg
 have xk1 := xk1.mono hg
 have xk2 := xk2.mono hg
 have xk3 := xk3.mono hg
 have yk0 := yk0.mono hg
 have yk1 := yk1.mono hg
 have yk2 := yk2.mono hg
 have yk3 := yk3.mono hg
 refine S.seq <| S.region rfl <| O.opE (.p rfl) (.box (cs := [_, _, _, _]) rfl rfl) ?_
 rintro _ _ ⟨b2, rfl, rfl⟩
 refine O.opE (.p rfl) (.box (cs := [_, _, _, _]) rfl rfl) ?_
 rintro _ _ ⟨b3, rfl, rfl⟩
 refine O.q 1 rfl <| O.nil <| S.seq <| S.region rfl <| O.op (.p rfl) (.fieldObj F.fld27x0 rfl) <| O.op (.p rfl) (.lo F.flat22) ?_
 refine O.op (.p rfl) (.fieldObj F.fld27x0 rfl) <| O.op (.p rfl) (.lo F.flat22) ?_
 refine O.call0 (.p rfl) rfl F.ok95 rfl rfl (sameLeaves_c (by first | assumption | exact Arr.mono hg (by assumption) | exact Arr.left (by assumption) | exact Arr.left (Arr.mono hg (by assumption))) (by first | assumption | exact Arr.mono hg (by assumption) | exact Arr.left (by assumption) | exact Arr.left (Arr.mono hg (by assumption)))) ?_
 rintro v9 _ ⟨rfl, rfl⟩
 try simp only [zx1, zx2, zx3]
 refine O.q 1 rfl ?_
 first | refine O.caseD 10 rfl (fun h10 => ?_) (fun h10 => ?_) | refine O.caseB 10 rfl (fun h10 => ?_) (fun h10 => ?_)
 ·refine O.op (.g rfl rfl) (.fieldObj F.fld27x1 rfl) <| O.op (.g rfl rfl) (.lo F.flat23) ?_
  refine O.op (.g rfl rfl) (.fieldObj F.fld27x1 rfl) <| O.op (.g rfl rfl) (.lo F.flat23) ?_
  refine O.call0 (.g rfl rfl) rfl F.ok96 rfl rfl (sameRoots_c (by first | assumption | exact Arr.mono hg (by assumption) | exact Arr.left (by assumption) | exact Arr.left (Arr.mono hg (by assumption))) (by first | assumption | exact Arr.mono hg (by assumption) | exact Arr.left (by assumption) | exact Arr.left (Arr.mono hg (by assumption)))) ?_
  rintro v15 _ ⟨rfl, rfl⟩
  try simp only [zx1, zx2, zx3]
  refine O.q 2 rfl ?_
  first | refine O.caseD 17 rfl (fun h17 => ?_) (fun h17 => ?_) | refine O.caseB 17 rfl (fun h17 => ?_) (fun h17 => ?_)
  ·refine O.op (.g rfl rfl) (.fieldObj F.fld27x2 rfl) <| O.op (.g rfl rfl) (.lo F.flat24) ?_
   refine O.op (.g rfl rfl) (.fieldObj F.fld27x2 rfl) <| O.op (.g rfl rfl) (.lo F.flat24) ?_
   refine O.call0 (.g rfl rfl) rfl F.ok97 rfl rfl (sameEvidenceRow_c (by first | assumption | exact Arr.mono hg (by assumption) | exact Arr.left (by assumption) | exact Arr.left (Arr.mono hg (by assumption))) (by first | assumption | exact Arr.mono hg (by assumption) | exact Arr.left (by assumption) | exact Arr.left (Arr.mono hg (by assumption)))) ?_
   rintro v22 _ ⟨rfl, rfl⟩
   try simp only [zx1, zx2, zx3]
   refine O.q 2 rfl ?_
   first | refine O.caseD 24 rfl (fun h24 => ?_) (fun h24 => ?_) | refine O.caseB 24 rfl (fun h24 => ?_) (fun h24 => ?_)
   ·refine O.op (.g rfl rfl) (.fieldObj F.fld27x3 rfl) <| O.op (.g rfl rfl) (.lo F.flat25) ?_
    refine O.op (.g rfl rfl) (.fieldObj F.fld27x3 rfl) <| O.op (.g rfl rfl) (.lo F.flat25) ?_
    refine O.call0 (.g rfl rfl) rfl F.ok98 rfl rfl (sameInts_c (by first | assumption | exact Arr.mono hg (by assumption) | exact Arr.left (by assumption) | exact Arr.left (Arr.mono hg (by assumption))) (by first | assumption | exact Arr.mono hg (by assumption) | exact Arr.left (by assumption) | exact Arr.left (Arr.mono hg (by assumption)))) ?_
    rintro v29 _ ⟨rfl, rfl⟩
    try simp only [zx1, zx2, zx3]
    refine O.q 2 rfl <| O.nil <| S.ret Tryz.results33 rfl fun w hw => Holds.end_ hR hw ?_
    first | exact ⟨_, ⟨congrArg _ (decide_eq_false (fun e => by subst e; exact absurd rfl (by assumption))).symm, rfl⟩, by repeat (first | exact zpa | exact zpn | (apply zpc; focus (repeat (first | exact zh | apply zt))) | apply zps)⟩ | exact ⟨_, ⟨congrArg _ (decide_eq_decide.2 ⟨fun e => sameHeld_eq (by assumption) (by assumption) (by assumption) e, fun e => by rw [e]⟩), rfl⟩, by repeat (first | exact zpa | exact zpn | (apply zpc; focus (repeat (first | exact zh | apply zt))) | apply zps)⟩
   ·refine O.q 7 rfl <| O.nil <| S.ret Tryz.results33 rfl fun w hw => Holds.end_ hR hw ?_
    first | exact ⟨_, ⟨congrArg _ (decide_eq_false (fun e => by subst e; exact absurd rfl (by assumption))).symm, rfl⟩, by repeat (first | exact zpa | exact zpn | (apply zpc; focus (repeat (first | exact zh | apply zt))) | apply zps)⟩ | exact ⟨_, ⟨congrArg _ (decide_eq_decide.2 ⟨fun e => sameHeld_eq (by assumption) (by assumption) (by assumption) e, fun e => by rw [e]⟩), rfl⟩, by repeat (first | exact zpa | exact zpn | (apply zpc; focus (repeat (first | exact zh | apply zt))) | apply zps)⟩
  ·refine O.q 14 rfl <| O.nil <| S.ret Tryz.results33 rfl fun w hw => Holds.end_ hR hw ?_
   first | exact ⟨_, ⟨congrArg _ (decide_eq_false (fun e => by subst e; exact absurd rfl (by assumption))).symm, rfl⟩, by repeat (first | exact zpa | exact zpn | (apply zpc; focus (repeat (first | exact zh | apply zt))) | apply zps)⟩ | exact ⟨_, ⟨congrArg _ (decide_eq_decide.2 ⟨fun e => sameHeld_eq (by assumption) (by assumption) (by assumption) e, fun e => by rw [e]⟩), rfl⟩, by repeat (first | exact zpa | exact zpn | (apply zpc; focus (repeat (first | exact zh | apply zt))) | apply zps)⟩
 ·refine O.q 21 rfl <| O.nil <| S.ret Tryz.results33 rfl fun w hw => Holds.end_ hR hw ?_
  first | exact ⟨_, ⟨congrArg _ (decide_eq_false (fun e => by subst e; exact absurd rfl (by assumption))).symm, rfl⟩, by repeat (first | exact zpa | exact zpn | (apply zpc; focus (repeat (first | exact zh | apply zt))) | apply zps)⟩ | exact ⟨_, ⟨congrArg _ (decide_eq_decide.2 ⟨fun e => sameHeld_eq (by assumption) (by assumption) (by assumption) e, fun e => by rw [e]⟩), rfl⟩, by repeat (first | exact zpa | exact zpn | (apply zpc; focus (repeat (first | exact zh | apply zt))) | apply zps)⟩
end Go.Proofs.YtodhbhanmdfdeaaGreat
end
section
/- Texts of this proof, one behind the other. -/
section
/- Texts of this proof. -/
open Go Go.Sp
set_option maxRecDepth 100000
attribute [local irreducible] obj Own OwnP
namespace Go.Proofs.YtodhbhanmdfdeaaGreat
def marks2 (n : Nat) : List UInt8 := (List.range n).map fun (i : Nat) => markB 2 (i : Int)
@[simp] theorem marks2_length (n : Nat) : (marks2 n).length = n := by simp [marks2]
def rowMarks (n : Nat) : List (List UInt8) := (List.range n).map fun (i : Nat) => markT 1 (i : Int)
@[simp] theorem rowMarks_length (n : Nat) : (rowMarks n).length = n := by simp [rowMarks]
def ArrW (v : Value) (xs : List UInt8) : SProp := fun m => Arr Rp.u8 m v xs
end Go.Proofs.YtodhbhanmdfdeaaGreat
end
section
/- Texts of this proof. -/
open Go Go.Sp
set_option maxRecDepth 100000
attribute [local irreducible] obj Own OwnP
namespace Go.Proofs.YtodhbhanmdfdeaaGreat
abbrev tys : Tys := ⟨5, 3, 31, 166, 74, 49, 280, 275, 285, 52, 55, 291, 27⟩
end Go.Proofs.YtodhbhanmdfdeaaGreat
end
end
