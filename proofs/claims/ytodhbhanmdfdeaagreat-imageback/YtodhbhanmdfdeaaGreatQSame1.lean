/- Texts of this proof. -/
import Derived.Test.YtodhbhanmdfdeaaGreatQFc
import Derived.Test.YtodhbhanmdfdeaaGreatQWire2
import Derived.Test.YtodhbhanmdfdeaaGreatQSpGet
import Derived.Test.YtodhbhanmdfdeaaGreatQSpAuto
open Go Go.Sp
set_option maxRecDepth 100000
attribute [local irreducible] obj Own OwnP
namespace Go.Proofs.YtodhbhanmdfdeaaGreat
theorem dot_eq {x y : DotT} (h : (x.1, x.2.1) = (y.1, y.2.1)) : x = y := by
 obtain ⟨a, b, ⟨⟩⟩ := x
 obtain ⟨c, d, ⟨⟩⟩ := y
 simp_all
theorem sameDots_c {r : Fr} {va vb : Value} {xs ys : List DotT} (ha : Arr DotRp r va xs) (hb : Arr DotRp r vb ys) :
  Con Tryz.prog 125 #[va, vb] r [] (Ret fun v η => v = .bool (decide (xs = ys)) ∧ η = []) := by
 have har := ha
 have hbr := hb
 refine Con.of (n := 26) _ rfl Tryz.func125 rfl rfl rfl fun g hg R hR => ?_
 have ha := ha.mono hg
 have hb := hb.mono hg
 have hbd := ha.bound
 obtain ⟨a1, c1, rfl⟩ := ha.shape
 obtain ⟨a2, c2, rfl⟩ := hb.shape
 by_cases e0 : xs.length = ys.length
 ·
  refine S.seq <| S.region rfl <| O.q 1 rfl <| O.nil <| S.seq <| S.seq <| S.region rfl <| O.q 1 rfl <| O.op (.p rfl) (.len rfl Tryz.underlying72 rfl) <| O.q 1 rfl <| O.op (.p rfl) (.len rfl Tryz.underlying72 rfl) <| O.op (.p rfl) (.neq rfl rfl) <| O.sF 10 rfl (by exact decide_eq_false (by omega)) ?_
  refine O.nil <| S.condF rfl <| S.skip <| S.seq <| S.seq <| S.region rfl <| O.q 1 rfl <| O.nil <| S.block <| S.loopK (ι := Nat) (fun i => i ≤ xs.length ∧ xs.take i = ys.take i) (fun i => [(5, .int .i64 (i : Int))]) [(0, _), (1, _)] (fun i => []) (fun i => xs.length - i) (0) (by simp) (.cons rfl (.nil)) (.cons rfl (.cons rfl (.nil))) rfl fun i hx ih => ?_
  have hm1 := meltRefl (g := g)
  obtain ⟨hx1, hx2⟩ := hx
  refine S.seq <| S.seq <| S.region rfl <| O.q 2 rfl <| O.op (.p rfl) (.len rfl Tryz.underlying72 rfl) <| O.op (.p rfl) (.lss rfl rfl) <| O.nil ?_
  first | refine S.condD rfl (fun h14 => ?_) (fun h14 => ?_) | refine S.condB rfl (fun h14 => ?_) (fun h14 => ?_)
  ·have hi : i < xs.length := by omega
   have hi2 : i < ys.length := by omega
   by_cases e : xs[i] = ys[i]
   ·
    refine S.skip <| S.seq <| S.block <| S.seq <| S.regionD (L := [0, 1, 2, 3, 4, 5, 6, 7, 8]) F.mixed (by kernel_rfl) <| OD.q 2 rfl <| OD.ib (.p rfl) Tryz.underlying72 F.size166 rfl rfl rfl har hg (h := fun p19 cs19 hp19 hrr19 => ?_)
    have hr19 := Rp.rel.mono hrr19 hg
    obtain ⟨rfl, hi19, hj19⟩ := DotRp.open hr19
    refine .quiet (.p rfl) rfl (fun _ => .loadAgg Tryz.isAgg166 (by kernel_rfl) rfl hp19) ?_
    refine OD.q 2 rfl <| OD.ib (.p rfl) Tryz.underlying72 F.size166 rfl rfl rfl hbr hg (h := fun p23 cs23 hp23 hrr23 => ?_)
    have hr23 := Rp.rel.mono hrr23 hg
    obtain ⟨rfl, hi23, hj23⟩ := DotRp.open hr23
    refine .quiet (.p rfl) rfl (fun _ => .loadAgg Tryz.isAgg166 (by kernel_rfl) rfl hp23) ?_
    refine .quiet (.p rfl) rfl (fun _ => .neqDot Tryz.underlying166 Tryz.underlying3 rfl rfl rfl rfl (by decide) (by decide) (by kernel_rfl) (by kernel_rfl) rfl rfl) <| OD.sF 25 rfl (by exact decide_eq_false (not_not_intro (by rw [e]))) ?_
    refine ODx.nil <| S.condF rfl <| S.skip <| S.inBlock <| S.region rfl <| O.q 1 rfl <| O.op (.p rfl) (.add rfl rfl (IntWalk.i64_in _ (by omega))) <| O.q 1 rfl <| O.nil ?_
    exact S.wk (ih (i + 1) (by exact ⟨by omega, take_same hi hi2 hx2 e⟩) (by omega))
   ·
    refine S.skip <| S.seq <| S.block <| S.seq <| S.regionD (L := [0, 1, 2, 3, 4, 5, 6, 7, 8]) F.mixed (by kernel_rfl) <| OD.q 2 rfl <| OD.ib (.p rfl) Tryz.underlying72 F.size166 rfl rfl rfl har hg (h := fun p19 cs19 hp19 hrr19 => ?_)
    have hr19 := Rp.rel.mono hrr19 hg
    obtain ⟨rfl, hi19, hj19⟩ := DotRp.open hr19
    refine .quiet (.p rfl) rfl (fun _ => .loadAgg Tryz.isAgg166 (by kernel_rfl) rfl hp19) ?_
    refine OD.q 2 rfl <| OD.ib (.p rfl) Tryz.underlying72 F.size166 rfl rfl rfl hbr hg (h := fun p23 cs23 hp23 hrr23 => ?_)
    have hr23 := Rp.rel.mono hrr23 hg
    obtain ⟨rfl, hi23, hj23⟩ := DotRp.open hr23
    refine .quiet (.p rfl) rfl (fun _ => .loadAgg Tryz.isAgg166 (by kernel_rfl) rfl hp23) ?_
    refine .quiet (.p rfl) rfl (fun _ => .neqDot Tryz.underlying166 Tryz.underlying3 rfl rfl rfl rfl (by decide) (by decide) (by kernel_rfl) (by kernel_rfl) rfl rfl) <| OD.sT 25 rfl (by exact decide_eq_true (fun q => e (dot_eq q))) ?_
    refine ODx.nil <| S.condT rfl <| S.seq <| S.region rfl <| O.q 1 rfl <| O.nil ?_
    exact S.rt Tryz.results125 rfl hR ⟨congrArg _ (decide_eq_false (not_same hi hi2 e)).symm, rfl⟩
  ·have hi : i = xs.length := by omega
   clear ih
   subst hi
   rw [List.take_length, e0, List.take_length] at hx2
   refine S.exit rfl <| S.seq <| S.region rfl <| O.q 1 rfl <| O.nil ?_
   exact S.rt Tryz.results125 rfl hR ⟨by simp [hx2], rfl⟩
 ·
  refine S.seq <| S.region rfl <| O.q 1 rfl <| O.nil <| S.seq <| S.seq <| S.region rfl <| O.q 1 rfl <| O.op (.p rfl) (.len rfl Tryz.underlying72 rfl) <| O.q 1 rfl <| O.op (.p rfl) (.len rfl Tryz.underlying72 rfl) <| O.op (.p rfl) (.neq rfl rfl) <| O.sT 10 rfl (by exact decide_eq_true (by omega)) ?_
  refine O.nil <| S.condT rfl <| S.seq <| S.region rfl <| O.q 1 rfl <| O.nil ?_
  exact S.rt Tryz.results125 rfl hR ⟨congrArg _ (decide_eq_false (fun h => e0 (by rw [h]))).symm, rfl⟩
theorem sameInts_c {r : Fr} {va vb : Value} {xs ys : List Int} (ha : Arr Rp.i64 r va xs) (hb : Arr Rp.i64 r vb ys) :
  Con Tryz.prog 98 #[va, vb] r [] (Ret fun v η => v = .bool (decide (xs = ys)) ∧ η = []) := by
 have har := ha
 have hbr := hb
 refine Con.of (n := 26) _ rfl Tryz.func98 rfl rfl rfl fun g hg R hR => ?_
 have ha := ha.mono hg
 have hb := hb.mono hg
 have hbd := ha.bound
 obtain ⟨a1, c1, rfl⟩ := ha.shape
 obtain ⟨a2, c2, rfl⟩ := hb.shape
 by_cases e0 : xs.length = ys.length
 ·
  refine S.seq <| S.region rfl <| O.q 1 rfl <| O.nil <| S.seq <| S.seq <| S.region rfl <| O.q 1 rfl <| O.op (.p rfl) (.len rfl Tryz.underlying25 rfl) <| O.q 1 rfl <| O.op (.p rfl) (.len rfl Tryz.underlying25 rfl) <| O.op (.p rfl) (.neq rfl rfl) <| O.sF 10 rfl (by exact decide_eq_false (by omega)) ?_
  refine O.nil <| S.condF rfl <| S.skip <| S.seq <| S.seq <| S.region rfl <| O.q 1 rfl <| O.nil <| S.block <| S.loopK (ι := Nat) (fun i => i ≤ xs.length ∧ xs.take i = ys.take i) (fun i => [(5, .int .i64 (i : Int))]) [(0, _), (1, _)] (fun i => []) (fun i => xs.length - i) (0) (by simp) (.cons rfl (.nil)) (.cons rfl (.cons rfl (.nil))) rfl fun i hx ih => ?_
  have hm1 := meltRefl (g := g)
  obtain ⟨hx1, hx2⟩ := hx
  refine S.seq <| S.seq <| S.region rfl <| O.q 2 rfl <| O.op (.p rfl) (.len rfl Tryz.underlying25 rfl) <| O.op (.p rfl) (.lss rfl rfl) <| O.nil ?_
  first | refine S.condD rfl (fun h14 => ?_) (fun h14 => ?_) | refine S.condB rfl (fun h14 => ?_) (fun h14 => ?_)
  ·have hi : i < xs.length := by omega
   have hi2 : i < ys.length := by omega
   by_cases e : xs[i] = ys[i]
   ·
    refine S.skip <| S.seq <| S.block <| S.seq <| S.regionD (L := [0, 1, 2, 3, 4, 5, 6, 7, 8]) F.mixed (by kernel_rfl) <| OD.q 2 rfl <| OD.ia (.p rfl) Tryz.underlying25 F.size3 rfl rfl rfl (by first | assumption | exact Arr.mono hg (by assumption) | exact Arr.left (by assumption) | exact Arr.left (Arr.mono hg (by assumption))) (h := fun p19 cs19 hp19 hr19 => ?_)
    obtain ⟨rfl, hz19⟩ := hr19
    refine .quiet (.p rfl) rfl (fun _ => .loadAt F.flat3 rfl hp19 rfl) ?_
    refine OD.q 2 rfl <| OD.ia (.p rfl) Tryz.underlying25 F.size3 rfl rfl rfl (by first | assumption | exact Arr.mono hg (by assumption) | exact Arr.left (by assumption) | exact Arr.left (Arr.mono hg (by assumption))) (h := fun p23 cs23 hp23 hr23 => ?_)
    obtain ⟨rfl, hz23⟩ := hr23
    refine .quiet (.p rfl) rfl (fun _ => .loadAt F.flat3 rfl hp23 rfl) ?_
    refine .quiet (.p rfl) rfl (fun _ => .neq rfl rfl) <| OD.sF 25 rfl (by exact decide_eq_false (not_not_intro e)) ?_
    refine ODx.nil <| S.condF rfl <| S.skip <| S.inBlock <| S.region rfl <| O.q 1 rfl <| O.op (.p rfl) (.add rfl rfl (IntWalk.i64_in _ (by omega))) <| O.q 1 rfl <| O.nil ?_
    exact S.wk (ih (i + 1) (by exact ⟨by omega, take_same hi hi2 hx2 e⟩) (by omega))
   ·
    refine S.skip <| S.seq <| S.block <| S.seq <| S.regionD (L := [0, 1, 2, 3, 4, 5, 6, 7, 8]) F.mixed (by kernel_rfl) <| OD.q 2 rfl <| OD.ia (.p rfl) Tryz.underlying25 F.size3 rfl rfl rfl (by first | assumption | exact Arr.mono hg (by assumption) | exact Arr.left (by assumption) | exact Arr.left (Arr.mono hg (by assumption))) (h := fun p19 cs19 hp19 hr19 => ?_)
    obtain ⟨rfl, hz19⟩ := hr19
    refine .quiet (.p rfl) rfl (fun _ => .loadAt F.flat3 rfl hp19 rfl) ?_
    refine OD.q 2 rfl <| OD.ia (.p rfl) Tryz.underlying25 F.size3 rfl rfl rfl (by first | assumption | exact Arr.mono hg (by assumption) | exact Arr.left (by assumption) | exact Arr.left (Arr.mono hg (by assumption))) (h := fun p23 cs23 hp23 hr23 => ?_)
    obtain ⟨rfl, hz23⟩ := hr23
    refine .quiet (.p rfl) rfl (fun _ => .loadAt F.flat3 rfl hp23 rfl) ?_
    refine .quiet (.p rfl) rfl (fun _ => .neq rfl rfl) <| OD.sT 25 rfl (by exact decide_eq_true e) ?_
    refine ODx.nil <| S.condT rfl <| S.seq <| S.region rfl <| O.q 1 rfl <| O.nil ?_
    exact S.rt Tryz.results98 rfl hR ⟨congrArg _ (decide_eq_false (not_same hi hi2 e)).symm, rfl⟩
  ·have hi : i = xs.length := by omega
   clear ih
   subst hi
   rw [List.take_length, e0, List.take_length] at hx2
   refine S.exit rfl <| S.seq <| S.region rfl <| O.q 1 rfl <| O.nil ?_
   exact S.rt Tryz.results98 rfl hR ⟨by simp [hx2], rfl⟩
 ·
  refine S.seq <| S.region rfl <| O.q 1 rfl <| O.nil <| S.seq <| S.seq <| S.region rfl <| O.q 1 rfl <| O.op (.p rfl) (.len rfl Tryz.underlying25 rfl) <| O.q 1 rfl <| O.op (.p rfl) (.len rfl Tryz.underlying25 rfl) <| O.op (.p rfl) (.neq rfl rfl) <| O.sT 10 rfl (by exact decide_eq_true (by omega)) ?_
  refine O.nil <| S.condT rfl <| S.seq <| S.region rfl <| O.q 1 rfl <| O.nil ?_
  exact S.rt Tryz.results98 rfl hR ⟨congrArg _ (decide_eq_false (fun h => e0 (by rw [h]))).symm, rfl⟩
theorem sameRecord_eq {x y : RecT} (h0 : x.1 = y.1) (h1 : x.2.1 = y.2.1) (h2 : x.2.2.1 = y.2.2.1) (h3 : x.2.2.2.1 = y.2.2.2.1) (h4 : x.2.2.2.2.1 = y.2.2.2.2.1) (h5 : x.2.2.2.2.2.1 = y.2.2.2.2.2.1) (h6 : x.2.2.2.2.2.2.1 = y.2.2.2.2.2.2.1) : x = y := by
 obtain ⟨a0, a1, a2, a3, a4, a5, a6, ⟨⟩⟩ := x
 obtain ⟨b0, b1, b2, b3, b4, b5, b6, ⟨⟩⟩ := y
 simp_all
theorem sameRecord_c {r : Fr} {cs ds : List Value} {x y : RecT} (hx : RecRp.rel r cs x) (hy : RecRp.rel r ds y) :
  Con Tryz.prog 49 #[.agg cs.toArray, .agg ds.toArray] r [] (Ret fun v η => v = .bool (decide (x = y)) ∧ η = []) := by
 obtain ⟨xa3, xa5, xa6, xc3, xc5, xc6, rfl, xk0, xk1, xk2, xk3, xk5, xk6⟩ := RecRp.sh hx
 obtain ⟨ya3, ya5, ya6, yc3, yc5, yc6, rfl, yk0, yk1, yk2, yk3, yk5, yk6⟩ := RecRp.sh hy
 refine Con.of (n := 52) _ rfl Tryz.func49 rfl rfl rfl fun g hg R hR => ?_
 have xk3 := xk3.mono hg
 have xk5 := xk5.mono hg
 have xk6 := xk6.mono hg
 have yk3 := yk3.mono hg
 have yk5 := yk5.mono hg
 have yk6 := yk6.mono hg
 refine S.seq <| S.region rfl <| O.opE (.p rfl) (.box (cs := [_, _, _, _, _, _, _]) rfl rfl) ?_
 rintro _ _ ⟨b2, rfl, rfl⟩
 refine O.opE (.p rfl) (.box (cs := [_, _, _, _, _, _, _]) rfl rfl) ?_
 rintro _ _ ⟨b3, rfl, rfl⟩
 refine O.q 1 rfl <| O.nil <| S.seq <| S.region rfl <| O.op (.p rfl) (.fieldObj F.fld74x0 rfl) <| O.op (.p rfl) (.lo F.flat9) ?_
 refine O.op (.p rfl) (.fieldObj F.fld74x0 rfl) <| O.op (.p rfl) (.lo F.flat9) ?_
 refine O.op (.p rfl) (.eqlS rfl rfl) <| O.q 1 rfl ?_
 first | refine O.caseD 10 rfl (fun h10 => ?_) (fun h10 => ?_) | refine O.caseB 10 rfl (fun h10 => ?_) (fun h10 => ?_)
 ·refine O.op (.g rfl rfl) (.fieldObj F.fld74x1 rfl) <| O.op (.g rfl rfl) (.lo F.flat3) ?_
  refine O.op (.g rfl rfl) (.fieldObj F.fld74x1 rfl) <| O.op (.g rfl rfl) (.lo F.flat3) ?_
  refine O.op (.g rfl rfl) (.eql rfl rfl) <| O.q 2 rfl ?_
  first | refine O.caseD 17 rfl (fun h17 => ?_) (fun h17 => ?_) | refine O.caseB 17 rfl (fun h17 => ?_) (fun h17 => ?_)
  ·refine O.op (.g rfl rfl) (.fieldObj F.fld74x2 rfl) <| O.op (.g rfl rfl) (.lo F.flat3) ?_
   refine O.op (.g rfl rfl) (.fieldObj F.fld74x2 rfl) <| O.op (.g rfl rfl) (.lo F.flat3) ?_
   refine O.op (.g rfl rfl) (.eql rfl rfl) <| O.q 2 rfl ?_
   first | refine O.caseD 24 rfl (fun h24 => ?_) (fun h24 => ?_) | refine O.caseB 24 rfl (fun h24 => ?_) (fun h24 => ?_)
   ·refine O.op (.g rfl rfl) (.fieldObj F.fld74x3 rfl) <| O.op (.g rfl rfl) (.lo F.flat72) ?_
    refine O.op (.g rfl rfl) (.fieldObj F.fld74x3 rfl) <| O.op (.g rfl rfl) (.lo F.flat72) ?_
    refine O.call0 (.g rfl rfl) rfl F.ok125 rfl rfl (sameDots_c (by first | assumption | exact Arr.mono hg (by assumption) | exact Arr.left (by assumption) | exact Arr.left (Arr.mono hg (by assumption))) (by first | assumption | exact Arr.mono hg (by assumption) | exact Arr.left (by assumption) | exact Arr.left (Arr.mono hg (by assumption)))) ?_
    rintro v29 _ ⟨rfl, rfl⟩
    try simp only [zx1, zx2, zx3]
    refine O.q 2 rfl ?_
    first | refine O.caseD 31 rfl (fun h31 => ?_) (fun h31 => ?_) | refine O.caseB 31 rfl (fun h31 => ?_) (fun h31 => ?_)
    ·refine O.op (.g rfl rfl) (.fieldObj F.fld74x4 rfl) <| O.op (.g rfl rfl) (.lo F.flat4) ?_
     refine O.op (.g rfl rfl) (.fieldObj F.fld74x4 rfl) <| O.op (.g rfl rfl) (.lo F.flat4) ?_
     refine O.op (.g rfl rfl) (.eqlB Tryz.underlying4 rfl rfl) <| O.q 2 rfl ?_
     first | refine O.caseD 38 rfl (fun h38 => ?_) (fun h38 => ?_) | refine O.caseB 38 rfl (fun h38 => ?_) (fun h38 => ?_)
     ·refine O.op (.g rfl rfl) (.fieldObj F.fld74x5 rfl) <| O.op (.g rfl rfl) (.lo F.flat31) ?_
      refine O.op (.g rfl rfl) (.fieldObj F.fld74x5 rfl) <| O.op (.g rfl rfl) (.lo F.flat31) ?_
      refine O.call0 (.g rfl rfl) rfl F.ok19 rfl rfl (SameBytes_c (by first | assumption | exact Arr.mono hg (by assumption) | exact Arr.left (by assumption) | exact Arr.left (Arr.mono hg (by assumption))) (by first | assumption | exact Arr.mono hg (by assumption) | exact Arr.left (by assumption) | exact Arr.left (Arr.mono hg (by assumption)))) ?_
      rintro v43 _ ⟨rfl, rfl⟩
      try simp only [zx1, zx2, zx3]
      refine O.q 2 rfl ?_
      first | refine O.caseD 45 rfl (fun h45 => ?_) (fun h45 => ?_) | refine O.caseB 45 rfl (fun h45 => ?_) (fun h45 => ?_)
      ·refine O.op (.g rfl rfl) (.fieldObj F.fld74x6 rfl) <| O.op (.g rfl rfl) (.lo F.flat31) ?_
       refine O.op (.g rfl rfl) (.fieldObj F.fld74x6 rfl) <| O.op (.g rfl rfl) (.lo F.flat31) ?_
       refine O.call0 (.g rfl rfl) rfl F.ok19 rfl rfl (SameBytes_c (by first | assumption | exact Arr.mono hg (by assumption) | exact Arr.left (by assumption) | exact Arr.left (Arr.mono hg (by assumption))) (by first | assumption | exact Arr.mono hg (by assumption) | exact Arr.left (by assumption) | exact Arr.left (Arr.mono hg (by assumption)))) ?_
       rintro v50 _ ⟨rfl, rfl⟩
       try simp only [zx1, zx2, zx3]
       refine O.q 2 rfl <| O.nil <| S.ret Tryz.results49 rfl fun w hw => Holds.end_ hR hw ?_
       first | exact ⟨_, ⟨congrArg _ (decide_eq_false (fun e => by subst e; exact absurd rfl (by assumption))).symm, rfl⟩, by repeat (first | exact zpa | exact zpn | (apply zpc; focus (repeat (first | exact zh | apply zt))) | apply zps)⟩ | exact ⟨_, ⟨congrArg _ (decide_eq_decide.2 ⟨fun e => sameRecord_eq (str_eqL (by assumption)) (by assumption) (by assumption) (by assumption) (by assumption) (by assumption) e, fun e => by rw [e]⟩), rfl⟩, by repeat (first | exact zpa | exact zpn | (apply zpc; focus (repeat (first | exact zh | apply zt))) | apply zps)⟩
      ·refine O.q 7 rfl <| O.nil <| S.ret Tryz.results49 rfl fun w hw => Holds.end_ hR hw ?_
       first | exact ⟨_, ⟨congrArg _ (decide_eq_false (fun e => by subst e; exact absurd rfl (by assumption))).symm, rfl⟩, by repeat (first | exact zpa | exact zpn | (apply zpc; focus (repeat (first | exact zh | apply zt))) | apply zps)⟩ | exact ⟨_, ⟨congrArg _ (decide_eq_decide.2 ⟨fun e => sameRecord_eq (str_eqL (by assumption)) (by assumption) (by assumption) (by assumption) (by assumption) (by assumption) e, fun e => by rw [e]⟩), rfl⟩, by repeat (first | exact zpa | exact zpn | (apply zpc; focus (repeat (first | exact zh | apply zt))) | apply zps)⟩
     ·refine O.q 14 rfl <| O.nil <| S.ret Tryz.results49 rfl fun w hw => Holds.end_ hR hw ?_
      first | exact ⟨_, ⟨congrArg _ (decide_eq_false (fun e => by subst e; exact absurd rfl (by assumption))).symm, rfl⟩, by repeat (first | exact zpa | exact zpn | (apply zpc; focus (repeat (first | exact zh | apply zt))) | apply zps)⟩ | exact ⟨_, ⟨congrArg _ (decide_eq_decide.2 ⟨fun e => sameRecord_eq (str_eqL (by assumption)) (by assumption) (by assumption) (by assumption) (by assumption) (by assumption) e, fun e => by rw [e]⟩), rfl⟩, by repeat (first | exact zpa | exact zpn | (apply zpc; focus (repeat (first | exact zh | apply zt))) | apply zps)⟩
    ·refine O.q 21 rfl <| O.nil <| S.ret Tryz.results49 rfl fun w hw => Holds.end_ hR hw ?_
     first | exact ⟨_, ⟨congrArg _ (decide_eq_false (fun e => by subst e; exact absurd rfl (by assumption))).symm, rfl⟩, by repeat (first | exact zpa | exact zpn | (apply zpc; focus (repeat (first | exact zh | apply zt))) | apply zps)⟩ | exact ⟨_, ⟨congrArg _ (decide_eq_decide.2 ⟨fun e => sameRecord_eq (str_eqL (by assumption)) (by assumption) (by assumption) (by assumption) (by assumption) (by assumption) e, fun e => by rw [e]⟩), rfl⟩, by repeat (first | exact zpa | exact zpn | (apply zpc; focus (repeat (first | exact zh | apply zt))) | apply zps)⟩
   ·refine O.q 28 rfl <| O.nil <| S.ret Tryz.results49 rfl fun w hw => Holds.end_ hR hw ?_
    first | exact ⟨_, ⟨congrArg _ (decide_eq_false (fun e => by subst e; exact absurd rfl (by assumption))).symm, rfl⟩, by repeat (first | exact zpa | exact zpn | (apply zpc; focus (repeat (first | exact zh | apply zt))) | apply zps)⟩ | exact ⟨_, ⟨congrArg _ (decide_eq_decide.2 ⟨fun e => sameRecord_eq (str_eqL (by assumption)) (by assumption) (by assumption) (by assumption) (by assumption) (by assumption) e, fun e => by rw [e]⟩), rfl⟩, by repeat (first | exact zpa | exact zpn | (apply zpc; focus (repeat (first | exact zh | apply zt))) | apply zps)⟩
  ·refine O.q 35 rfl <| O.nil <| S.ret Tryz.results49 rfl fun w hw => Holds.end_ hR hw ?_
   first | exact ⟨_, ⟨congrArg _ (decide_eq_false (fun e => by subst e; exact absurd rfl (by assumption))).symm, rfl⟩, by repeat (first | exact zpa | exact zpn | (apply zpc; focus (repeat (first | exact zh | apply zt))) | apply zps)⟩ | exact ⟨_, ⟨congrArg _ (decide_eq_decide.2 ⟨fun e => sameRecord_eq (str_eqL (by assumption)) (by assumption) (by assumption) (by assumption) (by assumption) (by assumption) e, fun e => by rw [e]⟩), rfl⟩, by repeat (first | exact zpa | exact zpn | (apply zpc; focus (repeat (first | exact zh | apply zt))) | apply zps)⟩
 ·refine O.q 42 rfl <| O.nil <| S.ret Tryz.results49 rfl fun w hw => Holds.end_ hR hw ?_
  first | exact ⟨_, ⟨congrArg _ (decide_eq_false (fun e => by subst e; exact absurd rfl (by assumption))).symm, rfl⟩, by repeat (first | exact zpa | exact zpn | (apply zpc; focus (repeat (first | exact zh | apply zt))) | apply zps)⟩ | exact ⟨_, ⟨congrArg _ (decide_eq_decide.2 ⟨fun e => sameRecord_eq (str_eqL (by assumption)) (by assumption) (by assumption) (by assumption) (by assumption) (by assumption) e, fun e => by rw [e]⟩), rfl⟩, by repeat (first | exact zpa | exact zpn | (apply zpc; focus (repeat (first | exact zh | apply zt))) | apply zps)⟩
theorem sameRecords_c {r : Fr} {va vb : Value} {xs ys : List RecT} (ha : Arr RecRp r va xs) (hb : Arr RecRp r vb ys) :
  Con Tryz.prog 40 #[va, vb] r [] (Ret fun v η => v = .bool (decide (xs = ys)) ∧ η = []) := by
 have har := ha
 have hbr := hb
 refine Con.of (n := 27) _ rfl Tryz.func40 rfl rfl rfl fun g hg R hR => ?_
 have ha := ha.mono hg
 have hb := hb.mono hg
 have hbd := ha.bound
 obtain ⟨a1, c1, rfl⟩ := ha.shape
 obtain ⟨a2, c2, rfl⟩ := hb.shape
 by_cases e0 : xs.length = ys.length
 ·
  refine S.seq <| S.region rfl <| O.q 1 rfl <| O.nil <| S.seq <| S.seq <| S.region rfl <| O.q 1 rfl <| O.op (.p rfl) (.len rfl Tryz.underlying47 rfl) <| O.q 1 rfl <| O.op (.p rfl) (.len rfl Tryz.underlying47 rfl) <| O.op (.p rfl) (.neq rfl rfl) <| O.sF 10 rfl (by exact decide_eq_false (by omega)) ?_
  refine O.nil <| S.condF rfl <| S.skip <| S.seq <| S.seq <| S.region rfl <| O.q 1 rfl <| O.nil <| S.block <| S.loopK (ι := Nat) (fun i => i ≤ xs.length ∧ xs.take i = ys.take i) (fun i => [(5, .int .i64 (i : Int))]) [(0, _), (1, _)] (fun i => []) (fun i => xs.length - i) (0) (by simp) (.cons rfl (.nil)) (.cons rfl (.cons rfl (.nil))) rfl fun i hx ih => ?_
  have hm1 := meltRefl (g := g)
  obtain ⟨hx1, hx2⟩ := hx
  refine S.seq <| S.seq <| S.region rfl <| O.q 2 rfl <| O.op (.p rfl) (.len rfl Tryz.underlying47 rfl) <| O.op (.p rfl) (.lss rfl rfl) <| O.nil ?_
  first | refine S.condD rfl (fun h14 => ?_) (fun h14 => ?_) | refine S.condB rfl (fun h14 => ?_) (fun h14 => ?_)
  ·have hi : i < xs.length := by omega
   have hi2 : i < ys.length := by omega
   by_cases e : xs[i] = ys[i]
   ·
    refine S.skip <| S.seq <| S.block <| S.seq <| S.regionD (L := [0, 1, 2, 3, 4, 5, 6, 7, 8, 9]) F.mixed (by kernel_rfl) <| OD.q 2 rfl <| OD.ib (.p rfl) Tryz.underlying47 F.size74 rfl rfl rfl har hg (h := fun p19 cs19 hp19 hrr19 => ?_)
    have hr19 := Rp.rel.mono hrr19 hg
    obtain ⟨ra3_19, ra5_19, ra6_19, rc3_19, rc5_19, rc6_19, rfl, ho0_19, ho1_19, ho2_19, ha3_19, ha5_19, ha6_19⟩ := RecRp.sh hr19
    refine .quiet (.p rfl) rfl (fun _ => .loadAgg Tryz.isAgg74 (by kernel_rfl) rfl hp19) ?_
    refine OD.q 2 rfl <| OD.ib (.p rfl) Tryz.underlying47 F.size74 rfl rfl rfl hbr hg (h := fun p23 cs23 hp23 hrr23 => ?_)
    have hr23 := Rp.rel.mono hrr23 hg
    obtain ⟨ra3_23, ra5_23, ra6_23, rc3_23, rc5_23, rc6_23, rfl, ho0_23, ho1_23, ho2_23, ha3_23, ha5_23, ha6_23⟩ := RecRp.sh hr23
    refine .quiet (.p rfl) rfl (fun _ => .loadAgg Tryz.isAgg74 (by kernel_rfl) rfl hp23) ?_
    refine OD.call0 (.p rfl) (by kernel_rfl) rfl F.ok49 rfl rfl ((sameRecord_c hr19 hr23)) ?_
    rintro v25 _ ⟨rfl, rfl⟩
    try simp only [zx1, zx2, zx3]
    refine OD.sT 25 rfl (by exact decide_eq_true e) ?_
    refine .quiet (.p rfl) rfl (fun _ => .not rfl) <| ODx.nil <| S.condF rfl <| S.skip <| S.inBlock <| S.region rfl <| O.q 1 rfl <| O.op (.p rfl) (.add rfl rfl (IntWalk.i64_in _ (by omega))) <| O.q 1 rfl <| O.nil ?_
    exact S.wk (ih (i + 1) (by exact ⟨by omega, take_same hi hi2 hx2 e⟩) (by omega))
   ·
    refine S.skip <| S.seq <| S.block <| S.seq <| S.regionD (L := [0, 1, 2, 3, 4, 5, 6, 7, 8, 9]) F.mixed (by kernel_rfl) <| OD.q 2 rfl <| OD.ib (.p rfl) Tryz.underlying47 F.size74 rfl rfl rfl har hg (h := fun p19 cs19 hp19 hrr19 => ?_)
    have hr19 := Rp.rel.mono hrr19 hg
    obtain ⟨ra3_19, ra5_19, ra6_19, rc3_19, rc5_19, rc6_19, rfl, ho0_19, ho1_19, ho2_19, ha3_19, ha5_19, ha6_19⟩ := RecRp.sh hr19
    refine .quiet (.p rfl) rfl (fun _ => .loadAgg Tryz.isAgg74 (by kernel_rfl) rfl hp19) ?_
    refine OD.q 2 rfl <| OD.ib (.p rfl) Tryz.underlying47 F.size74 rfl rfl rfl hbr hg (h := fun p23 cs23 hp23 hrr23 => ?_)
    have hr23 := Rp.rel.mono hrr23 hg
    obtain ⟨ra3_23, ra5_23, ra6_23, rc3_23, rc5_23, rc6_23, rfl, ho0_23, ho1_23, ho2_23, ha3_23, ha5_23, ha6_23⟩ := RecRp.sh hr23
    refine .quiet (.p rfl) rfl (fun _ => .loadAgg Tryz.isAgg74 (by kernel_rfl) rfl hp23) ?_
    refine OD.call0 (.p rfl) (by kernel_rfl) rfl F.ok49 rfl rfl ((sameRecord_c hr19 hr23)) ?_
    rintro v25 _ ⟨rfl, rfl⟩
    try simp only [zx1, zx2, zx3]
    refine OD.sF 25 rfl (by exact decide_eq_false e) ?_
    refine .quiet (.p rfl) rfl (fun _ => .not rfl) <| ODx.nil <| S.condT rfl <| S.seq <| S.region rfl <| O.q 1 rfl <| O.nil ?_
    exact S.rt Tryz.results40 rfl hR ⟨congrArg _ (decide_eq_false (not_same hi hi2 e)).symm, rfl⟩
  ·have hi : i = xs.length := by omega
   clear ih
   subst hi
   rw [List.take_length, e0, List.take_length] at hx2
   refine S.exit rfl <| S.seq <| S.region rfl <| O.q 1 rfl <| O.nil ?_
   exact S.rt Tryz.results40 rfl hR ⟨by simp [hx2], rfl⟩
 ·
  refine S.seq <| S.region rfl <| O.q 1 rfl <| O.nil <| S.seq <| S.seq <| S.region rfl <| O.q 1 rfl <| O.op (.p rfl) (.len rfl Tryz.underlying47 rfl) <| O.q 1 rfl <| O.op (.p rfl) (.len rfl Tryz.underlying47 rfl) <| O.op (.p rfl) (.neq rfl rfl) <| O.sT 10 rfl (by exact decide_eq_true (by omega)) ?_
  refine O.nil <| S.condT rfl <| S.seq <| S.region rfl <| O.q 1 rfl <| O.nil ?_
  exact S.rt Tryz.results40 rfl hR ⟨congrArg _ (decide_eq_false (fun h => e0 (by rw [h]))).symm, rfl⟩
theorem sameLeaf_eq {x y : LeafT} (h0 : x.1 = y.1) (h1 : x.2.1 = y.2.1) : x = y := by
 obtain ⟨a0, a1, ⟨⟩⟩ := x
 obtain ⟨b0, b1, ⟨⟩⟩ := y
 simp_all
theorem sameLeaf_c {r : Fr} {cs ds : List Value} {x y : LeafT} (hx : LeafRp.rel r cs x) (hy : LeafRp.rel r ds y) :
  Con Tryz.prog 158 #[.agg cs.toArray, .agg ds.toArray] r [] (Ret fun v η => v = .bool (decide (x = y)) ∧ η = []) := by
 obtain ⟨xa1, xc1, rfl, xk0, xk1⟩ := LeafRp.sh hx
 obtain ⟨ya1, yc1, rfl, yk0, yk1⟩ := LeafRp.sh hy
 refine Con.of (n := 17) _ rfl Tryz.func158 rfl rfl rfl fun g hg R hR => ?_
 have xk1 := xk1.mono hg
 have yk1 := yk1.mono hg
 refine S.seq <| S.region rfl <| O.opE (.p rfl) (.box (cs := [_, _]) rfl rfl) ?_
 rintro _ _ ⟨b2, rfl, rfl⟩
 refine O.opE (.p rfl) (.box (cs := [_, _]) rfl rfl) ?_
 rintro _ _ ⟨b3, rfl, rfl⟩
 refine O.q 1 rfl <| O.nil <| S.seq <| S.region rfl <| O.op (.p rfl) (.fieldObj F.fld49x0 rfl) <| O.op (.p rfl) (.lo F.flat9) ?_
 refine O.op (.p rfl) (.fieldObj F.fld49x0 rfl) <| O.op (.p rfl) (.lo F.flat9) ?_
 refine O.op (.p rfl) (.eqlS rfl rfl) <| O.q 1 rfl ?_
 first | refine O.caseD 10 rfl (fun h10 => ?_) (fun h10 => ?_) | refine O.caseB 10 rfl (fun h10 => ?_) (fun h10 => ?_)
 ·refine O.op (.g rfl rfl) (.fieldObj F.fld49x1 rfl) <| O.op (.g rfl rfl) (.lo F.flat47) ?_
  refine O.op (.g rfl rfl) (.fieldObj F.fld49x1 rfl) <| O.op (.g rfl rfl) (.lo F.flat47) ?_
  refine O.call0 (.g rfl rfl) rfl F.ok40 rfl rfl (sameRecords_c (by first | assumption | exact Arr.mono hg (by assumption) | exact Arr.left (by assumption) | exact Arr.left (Arr.mono hg (by assumption))) (by first | assumption | exact Arr.mono hg (by assumption) | exact Arr.left (by assumption) | exact Arr.left (Arr.mono hg (by assumption)))) ?_
  rintro v15 _ ⟨rfl, rfl⟩
  try simp only [zx1, zx2, zx3]
  refine O.q 2 rfl <| O.nil <| S.ret Tryz.results158 rfl fun w hw => Holds.end_ hR hw ?_
  first | exact ⟨_, ⟨congrArg _ (decide_eq_false (fun e => by subst e; exact absurd rfl (by assumption))).symm, rfl⟩, by repeat (first | exact zpa | exact zpn | (apply zpc; focus (repeat (first | exact zh | apply zt))) | apply zps)⟩ | exact ⟨_, ⟨congrArg _ (decide_eq_decide.2 ⟨fun e => sameLeaf_eq (str_eqL (by assumption)) e, fun e => by rw [e]⟩), rfl⟩, by repeat (first | exact zpa | exact zpn | (apply zpc; focus (repeat (first | exact zh | apply zt))) | apply zps)⟩
 ·refine O.q 7 rfl <| O.nil <| S.ret Tryz.results158 rfl fun w hw => Holds.end_ hR hw ?_
  first | exact ⟨_, ⟨congrArg _ (decide_eq_false (fun e => by subst e; exact absurd rfl (by assumption))).symm, rfl⟩, by repeat (first | exact zpa | exact zpn | (apply zpc; focus (repeat (first | exact zh | apply zt))) | apply zps)⟩ | exact ⟨_, ⟨congrArg _ (decide_eq_decide.2 ⟨fun e => sameLeaf_eq (str_eqL (by assumption)) e, fun e => by rw [e]⟩), rfl⟩, by repeat (first | exact zpa | exact zpn | (apply zpc; focus (repeat (first | exact zh | apply zt))) | apply zps)⟩
theorem sameLeaves_c {r : Fr} {va vb : Value} {xs ys : List LeafT} (ha : Arr LeafRp r va xs) (hb : Arr LeafRp r vb ys) :
  Con Tryz.prog 95 #[va, vb] r [] (Ret fun v η => v = .bool (decide (xs = ys)) ∧ η = []) := by
 have har := ha
 have hbr := hb
 refine Con.of (n := 27) _ rfl Tryz.func95 rfl rfl rfl fun g hg R hR => ?_
 have ha := ha.mono hg
 have hb := hb.mono hg
 have hbd := ha.bound
 obtain ⟨a1, c1, rfl⟩ := ha.shape
 obtain ⟨a2, c2, rfl⟩ := hb.shape
 by_cases e0 : xs.length = ys.length
 ·
  refine S.seq <| S.region rfl <| O.q 1 rfl <| O.nil <| S.seq <| S.seq <| S.region rfl <| O.q 1 rfl <| O.op (.p rfl) (.len rfl Tryz.underlying22 rfl) <| O.q 1 rfl <| O.op (.p rfl) (.len rfl Tryz.underlying22 rfl) <| O.op (.p rfl) (.neq rfl rfl) <| O.sF 10 rfl (by exact decide_eq_false (by omega)) ?_
  refine O.nil <| S.condF rfl <| S.skip <| S.seq <| S.seq <| S.region rfl <| O.q 1 rfl <| O.nil <| S.block <| S.loopK (ι := Nat) (fun i => i ≤ xs.length ∧ xs.take i = ys.take i) (fun i => [(5, .int .i64 (i : Int))]) [(0, _), (1, _)] (fun i => []) (fun i => xs.length - i) (0) (by simp) (.cons rfl (.nil)) (.cons rfl (.cons rfl (.nil))) rfl fun i hx ih => ?_
  have hm1 := meltRefl (g := g)
  obtain ⟨hx1, hx2⟩ := hx
  refine S.seq <| S.seq <| S.region rfl <| O.q 2 rfl <| O.op (.p rfl) (.len rfl Tryz.underlying22 rfl) <| O.op (.p rfl) (.lss rfl rfl) <| O.nil ?_
  first | refine S.condD rfl (fun h14 => ?_) (fun h14 => ?_) | refine S.condB rfl (fun h14 => ?_) (fun h14 => ?_)
  ·have hi : i < xs.length := by omega
   have hi2 : i < ys.length := by omega
   by_cases e : xs[i] = ys[i]
   ·
    refine S.skip <| S.seq <| S.block <| S.seq <| S.regionD (L := [0, 1, 2, 3, 4, 5, 6, 7, 8, 9]) F.mixed (by kernel_rfl) <| OD.q 2 rfl <| OD.ib (.p rfl) Tryz.underlying22 F.size49 rfl rfl rfl har hg (h := fun p19 cs19 hp19 hrr19 => ?_)
    have hr19 := Rp.rel.mono hrr19 hg
    obtain ⟨la1_19, lc1_19, rfl, ho0_19, ha1_19⟩ := LeafRp.sh hr19
    refine .quiet (.p rfl) rfl (fun _ => .loadAgg Tryz.isAgg49 (by kernel_rfl) rfl hp19) ?_
    refine OD.q 2 rfl <| OD.ib (.p rfl) Tryz.underlying22 F.size49 rfl rfl rfl hbr hg (h := fun p23 cs23 hp23 hrr23 => ?_)
    have hr23 := Rp.rel.mono hrr23 hg
    obtain ⟨la1_23, lc1_23, rfl, ho0_23, ha1_23⟩ := LeafRp.sh hr23
    refine .quiet (.p rfl) rfl (fun _ => .loadAgg Tryz.isAgg49 (by kernel_rfl) rfl hp23) ?_
    refine OD.call0 (.p rfl) (by kernel_rfl) rfl F.ok158 rfl rfl ((sameLeaf_c hr19 hr23)) ?_
    rintro v25 _ ⟨rfl, rfl⟩
    try simp only [zx1, zx2, zx3]
    refine OD.sT 25 rfl (by exact decide_eq_true e) ?_
    refine .quiet (.p rfl) rfl (fun _ => .not rfl) <| ODx.nil <| S.condF rfl <| S.skip <| S.inBlock <| S.region rfl <| O.q 1 rfl <| O.op (.p rfl) (.add rfl rfl (IntWalk.i64_in _ (by omega))) <| O.q 1 rfl <| O.nil ?_
    exact S.wk (ih (i + 1) (by exact ⟨by omega, take_same hi hi2 hx2 e⟩) (by omega))
   ·
    refine S.skip <| S.seq <| S.block <| S.seq <| S.regionD (L := [0, 1, 2, 3, 4, 5, 6, 7, 8, 9]) F.mixed (by kernel_rfl) <| OD.q 2 rfl <| OD.ib (.p rfl) Tryz.underlying22 F.size49 rfl rfl rfl har hg (h := fun p19 cs19 hp19 hrr19 => ?_)
    have hr19 := Rp.rel.mono hrr19 hg
    obtain ⟨la1_19, lc1_19, rfl, ho0_19, ha1_19⟩ := LeafRp.sh hr19
    refine .quiet (.p rfl) rfl (fun _ => .loadAgg Tryz.isAgg49 (by kernel_rfl) rfl hp19) ?_
    refine OD.q 2 rfl <| OD.ib (.p rfl) Tryz.underlying22 F.size49 rfl rfl rfl hbr hg (h := fun p23 cs23 hp23 hrr23 => ?_)
    have hr23 := Rp.rel.mono hrr23 hg
    obtain ⟨la1_23, lc1_23, rfl, ho0_23, ha1_23⟩ := LeafRp.sh hr23
    refine .quiet (.p rfl) rfl (fun _ => .loadAgg Tryz.isAgg49 (by kernel_rfl) rfl hp23) ?_
    refine OD.call0 (.p rfl) (by kernel_rfl) rfl F.ok158 rfl rfl ((sameLeaf_c hr19 hr23)) ?_
    rintro v25 _ ⟨rfl, rfl⟩
    try simp only [zx1, zx2, zx3]
    refine OD.sF 25 rfl (by exact decide_eq_false e) ?_
    refine .quiet (.p rfl) rfl (fun _ => .not rfl) <| ODx.nil <| S.condT rfl <| S.seq <| S.region rfl <| O.q 1 rfl <| O.nil ?_
    exact S.rt Tryz.results95 rfl hR ⟨congrArg _ (decide_eq_false (not_same hi hi2 e)).symm, rfl⟩
  ·have hi : i = xs.length := by omega
   clear ih
   subst hi
   rw [List.take_length, e0, List.take_length] at hx2
   refine S.exit rfl <| S.seq <| S.region rfl <| O.q 1 rfl <| O.nil ?_
   exact S.rt Tryz.results95 rfl hR ⟨by simp [hx2], rfl⟩
 ·
  refine S.seq <| S.region rfl <| O.q 1 rfl <| O.nil <| S.seq <| S.seq <| S.region rfl <| O.q 1 rfl <| O.op (.p rfl) (.len rfl Tryz.underlying22 rfl) <| O.q 1 rfl <| O.op (.p rfl) (.len rfl Tryz.underlying22 rfl) <| O.op (.p rfl) (.neq rfl rfl) <| O.sT 10 rfl (by exact decide_eq_true (by omega)) ?_
  refine O.nil <| S.condT rfl <| S.seq <| S.region rfl <| O.q 1 rfl <| O.nil ?_
  exact S.rt Tryz.results95 rfl hR ⟨congrArg _ (decide_eq_false (fun h => e0 (by rw [h]))).symm, rfl⟩
end Go.Proofs.YtodhbhanmdfdeaaGreat
