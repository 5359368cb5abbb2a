/- Texts of this proof. -/
import Derived.Test.YtodhbhanmdfdeaaGreatQFc
import Derived.Test.YtodhbhanmdfdeaaGreatQRef7
import Derived.Test.YtodhbhanmdfdeaaGreatQRef9b
import Derived.Test.YtodhbhanmdfdeaaGreatQSame2
import Derived.Test.YtodhbhanmdfdeaaGreatQSpRef2
import Derived.Test.YtodhbhanmdfdeaaGreatQSpAuto
open Go Go.Sp
set_option maxRecDepth 100000
attribute [local irreducible] obj Own OwnP
namespace Go.Proofs.YtodhbhanmdfdeaaGreat
theorem r20quar_c {r : Fr} {va : Value} {l : List Int} (ha : Arr Rp.i64 r va l) : Con Tryz.prog 71 #[va] r [] (Ret fun v η => v = .bool (l.foldlM fS (0 : Int)).isSome ∧ η = []) := by
 have har := ha
 refine Con.of (n := 38) _ rfl Tryz.func71 rfl rfl rfl fun g hg R hR => ?_
 have ha := ha.mono hg
 have hbd := ha.bound
 obtain ⟨a1, c1, rfl⟩ := ha.shape
 refine S.seq <| S.region rfl <| O.q 1 rfl <| O.nil <| S.seq <| S.seq <| S.region rfl <| O.q 1 rfl <| O.nil <| S.block <| S.loopK (ι := Nat) (fun i => i ≤ l.length ∧ (l.take i).foldlM fS (0 : Int) = some (lastBy (fun x : Int => x) (0 : Int) l i) ∧ ∀ j (h : j < l.length), j < i → 1 ≤ l[j]) (fun i => [(3, .int .i64 (i : Int))]) [(0, _)] (fun i => []) (fun i => l.length - i) (0) (by exact ⟨by simp, by simp [lastBy_zero], fun j h q => absurd q (by omega)⟩) (.cons rfl (.nil)) (.cons rfl (.nil)) rfl fun i hx ih => ?_
 have hm1 := meltRefl (g := g)
 obtain ⟨hx1, hx2, hpos⟩ := hx
 refine S.seq <| S.seq <| S.region rfl <| O.q 2 rfl <| O.op (.p rfl) (.len rfl Tryz.underlying25 rfl) <| O.op (.p rfl) (.lss rfl rfl) <| O.nil ?_
 first | refine S.condD rfl (fun h7 => ?_) (fun h7 => ?_) | refine S.condB rfl (fun h7 => ?_) (fun h7 => ?_)
 ·have hi : i < l.length := by omega
  have hst : fS (lastBy (fun x : Int => x) (0 : Int) l i) l[i] = some ((fun x : Int => x) l[i]) → (l.take (i + 1)).foldlM fS (0 : Int) = some (lastBy (fun x : Int => x) (0 : Int) l (i + 1)) := fun q => by rw [lastBy_succ _ _ _ hi]; exact foldO_next fS hi hx2 q
  have hno : fS (lastBy (fun x : Int => x) (0 : Int) l i) l[i] = none → (l.foldlM fS (0 : Int)).isSome = false := foldO_none fS hi hx2
  by_cases z0 : i = 0
  ·have hlast : lastBy (fun x : Int => x) (0 : Int) l i = (0 : Int) := by rw [z0]; rfl
   rw [hlast] at hst hno
   by_cases n0 : ¬ (1 ≤ l[i])
   ·
    refine S.skip <| S.seq <| S.block <| S.seq <| S.regionD (L := [0, 1, 2, 3, 4, 5, 6, 7, 8, 9, 10, 11, 12, 13, 14, 15, 16, 17, 18, 19, 20, 21, 22, 23, 24, 25, 26, 27]) F.mixed (by kernel_rfl) <| OD.q 2 rfl <| OD.ia (.p rfl) Tryz.underlying25 F.size3 rfl rfl rfl (by first | assumption | exact Arr.mono hg (by assumption) | exact Arr.left (by assumption) | exact Arr.left (Arr.mono hg (by assumption))) (h := fun p12 cs12 hp12 hr12 => ?_)
    obtain ⟨rfl, hz12⟩ := hr12
    refine .quiet (.p rfl) rfl (fun _ => .loadAt F.flat3 rfl hp12 rfl) ?_
    refine .quiet (.p rfl) rfl (fun _ => .lss rfl rfl) <| OD.sT 14 rfl (by exact decide_eq_true (by omega)) ?_
    refine OD.q 23 rfl <| ODx.nil <| S.condT rfl <| S.seq <| S.region rfl <| O.q 1 rfl <| O.nil ?_
    exact S.rt Tryz.results71 rfl hR ⟨congrArg _ (hno (if_neg fun q => n0 (by have := q.1; omega))).symm, rfl⟩
   have c0 := Classical.not_not.1 n0
   by_cases n1 : ¬ (l[i] ≤ 7)
   ·
    refine S.skip <| S.seq <| S.block <| S.seq <| S.regionD (L := [0, 1, 2, 3, 4, 5, 6, 7, 8, 9, 10, 11, 12, 13, 14, 15, 16, 17, 18, 19, 20, 21, 22, 23, 24, 25, 26, 27]) F.mixed (by kernel_rfl) <| OD.q 2 rfl <| OD.ia (.p rfl) Tryz.underlying25 F.size3 rfl rfl rfl (by first | assumption | exact Arr.mono hg (by assumption) | exact Arr.left (by assumption) | exact Arr.left (Arr.mono hg (by assumption))) (h := fun p12 cs12 hp12 hr12 => ?_)
    obtain ⟨rfl, hz12⟩ := hr12
    refine .quiet (.p rfl) rfl (fun _ => .loadAt F.flat3 rfl hp12 rfl) ?_
    refine .quiet (.p rfl) rfl (fun _ => .lss rfl rfl) <| OD.sF 14 rfl (by exact decide_eq_false (by omega)) ?_
    refine OD.q 3 rfl <| OD.ia (.g rfl rfl) Tryz.underlying25 F.size3 rfl rfl rfl (by first | assumption | exact Arr.mono hg (by assumption) | exact Arr.left (by assumption) | exact Arr.left (Arr.mono hg (by assumption))) (h := fun p18 cs18 hp18 hr18 => ?_)
    obtain ⟨rfl, hz18⟩ := hr18
    refine .quiet (.g rfl rfl) rfl (fun _ => .loadAt F.flat3 rfl hp18 rfl) ?_
    refine .quiet (.g rfl rfl) rfl (fun _ => .gtr rfl rfl) <| OD.sT 20 rfl (by exact decide_eq_true (by omega)) ?_
    refine OD.q 17 rfl <| ODx.nil <| S.condT rfl <| S.seq <| S.region rfl <| O.q 1 rfl <| O.nil ?_
    exact S.rt Tryz.results71 rfl hR ⟨congrArg _ (hno (if_neg fun q => n1 (q.2))).symm, rfl⟩
   have c1 := Classical.not_not.1 n1
   refine S.skip <| S.seq <| S.block <| S.seq <| S.regionD (L := [0, 1, 2, 3, 4, 5, 6, 7, 8, 9, 10, 11, 12, 13, 14, 15, 16, 17, 18, 19, 20, 21, 22, 23, 24, 25, 26, 27]) F.mixed (by kernel_rfl) <| OD.q 2 rfl <| OD.ia (.p rfl) Tryz.underlying25 F.size3 rfl rfl rfl (by first | assumption | exact Arr.mono hg (by assumption) | exact Arr.left (by assumption) | exact Arr.left (Arr.mono hg (by assumption))) (h := fun p12 cs12 hp12 hr12 => ?_)
   obtain ⟨rfl, hz12⟩ := hr12
   refine .quiet (.p rfl) rfl (fun _ => .loadAt F.flat3 rfl hp12 rfl) ?_
   refine .quiet (.p rfl) rfl (fun _ => .lss rfl rfl) <| OD.sF 14 rfl (by exact decide_eq_false (by omega)) ?_
   refine OD.q 3 rfl <| OD.ia (.g rfl rfl) Tryz.underlying25 F.size3 rfl rfl rfl (by first | assumption | exact Arr.mono hg (by assumption) | exact Arr.left (by assumption) | exact Arr.left (Arr.mono hg (by assumption))) (h := fun p18 cs18 hp18 hr18 => ?_)
   obtain ⟨rfl, hz18⟩ := hr18
   refine .quiet (.g rfl rfl) rfl (fun _ => .loadAt F.flat3 rfl hp18 rfl) ?_
   refine .quiet (.g rfl rfl) rfl (fun _ => .gtr rfl rfl) <| OD.sF 20 rfl (by exact decide_eq_false (by omega)) ?_
   refine OD.q 3 rfl <| .quiet (.g rfl rfl) rfl (fun _ => .gtr rfl rfl) <| OD.sF 24 rfl (by exact decide_eq_false (by omega)) ?_
   refine OD.q 13 rfl <| ODx.nil <| S.condF rfl <| S.skip <| S.inBlock <| S.region rfl <| O.q 1 rfl <| O.op (.p rfl) (.add rfl rfl (IntWalk.i64_in _ (by omega))) <| O.q 1 rfl <| O.nil ?_
   exact S.wk (ih (i + 1) (by exact ⟨by omega, hst (if_pos ⟨by omega, by omega⟩), lt_step hpos fun _ => c0⟩) (by omega))
  ·have hi1 : i - 1 < l.length := by omega
   have hlast : lastBy (fun x : Int => x) (0 : Int) l i = (fun x : Int => x) l[i - 1] := lastBy_pos _ _ _ (by omega) hi1
   rw [hlast] at hst hno
   have hq1 : 1 ≤ l[i - 1] := hpos _ hi1 (by omega)
   by_cases n0 : ¬ (1 ≤ l[i])
   ·
    refine S.skip <| S.seq <| S.block <| S.seq <| S.regionD (L := [0, 1, 2, 3, 4, 5, 6, 7, 8, 9, 10, 11, 12, 13, 14, 15, 16, 17, 18, 19, 20, 21, 22, 23, 24, 25, 26, 27]) F.mixed (by kernel_rfl) <| OD.q 2 rfl <| OD.ia (.p rfl) Tryz.underlying25 F.size3 rfl rfl rfl (by first | assumption | exact Arr.mono hg (by assumption) | exact Arr.left (by assumption) | exact Arr.left (Arr.mono hg (by assumption))) (h := fun p12 cs12 hp12 hr12 => ?_)
    obtain ⟨rfl, hz12⟩ := hr12
    refine .quiet (.p rfl) rfl (fun _ => .loadAt F.flat3 rfl hp12 rfl) ?_
    refine .quiet (.p rfl) rfl (fun _ => .lss rfl rfl) <| OD.sT 14 rfl (by exact decide_eq_true (by omega)) ?_
    refine OD.q 23 rfl <| ODx.nil <| S.condT rfl <| S.seq <| S.region rfl <| O.q 1 rfl <| O.nil ?_
    exact S.rt Tryz.results71 rfl hR ⟨congrArg _ (hno (if_neg fun q => n0 (by have q1 : l[i - 1] < l[i] := q.1; have := hq1; omega))).symm, rfl⟩
   have c0 := Classical.not_not.1 n0
   by_cases n1 : ¬ (l[i] ≤ 7)
   ·
    refine S.skip <| S.seq <| S.block <| S.seq <| S.regionD (L := [0, 1, 2, 3, 4, 5, 6, 7, 8, 9, 10, 11, 12, 13, 14, 15, 16, 17, 18, 19, 20, 21, 22, 23, 24, 25, 26, 27]) F.mixed (by kernel_rfl) <| OD.q 2 rfl <| OD.ia (.p rfl) Tryz.underlying25 F.size3 rfl rfl rfl (by first | assumption | exact Arr.mono hg (by assumption) | exact Arr.left (by assumption) | exact Arr.left (Arr.mono hg (by assumption))) (h := fun p12 cs12 hp12 hr12 => ?_)
    obtain ⟨rfl, hz12⟩ := hr12
    refine .quiet (.p rfl) rfl (fun _ => .loadAt F.flat3 rfl hp12 rfl) ?_
    refine .quiet (.p rfl) rfl (fun _ => .lss rfl rfl) <| OD.sF 14 rfl (by exact decide_eq_false (by omega)) ?_
    refine OD.q 3 rfl <| OD.ia (.g rfl rfl) Tryz.underlying25 F.size3 rfl rfl rfl (by first | assumption | exact Arr.mono hg (by assumption) | exact Arr.left (by assumption) | exact Arr.left (Arr.mono hg (by assumption))) (h := fun p18 cs18 hp18 hr18 => ?_)
    obtain ⟨rfl, hz18⟩ := hr18
    refine .quiet (.g rfl rfl) rfl (fun _ => .loadAt F.flat3 rfl hp18 rfl) ?_
    refine .quiet (.g rfl rfl) rfl (fun _ => .gtr rfl rfl) <| OD.sT 20 rfl (by exact decide_eq_true (by omega)) ?_
    refine OD.q 17 rfl <| ODx.nil <| S.condT rfl <| S.seq <| S.region rfl <| O.q 1 rfl <| O.nil ?_
    exact S.rt Tryz.results71 rfl hR ⟨congrArg _ (hno (if_neg fun q => n1 (q.2))).symm, rfl⟩
   have c1 := Classical.not_not.1 n1
   by_cases n2 : ¬ (l[i - 1] < l[i])
   ·
    refine S.skip <| S.seq <| S.block <| S.seq <| S.regionD (L := [0, 1, 2, 3, 4, 5, 6, 7, 8, 9, 10, 11, 12, 13, 14, 15, 16, 17, 18, 19, 20, 21, 22, 23, 24, 25, 26, 27]) F.mixed (by kernel_rfl) <| OD.q 2 rfl <| OD.ia (.p rfl) Tryz.underlying25 F.size3 rfl rfl rfl (by first | assumption | exact Arr.mono hg (by assumption) | exact Arr.left (by assumption) | exact Arr.left (Arr.mono hg (by assumption))) (h := fun p12 cs12 hp12 hr12 => ?_)
    obtain ⟨rfl, hz12⟩ := hr12
    refine .quiet (.p rfl) rfl (fun _ => .loadAt F.flat3 rfl hp12 rfl) ?_
    refine .quiet (.p rfl) rfl (fun _ => .lss rfl rfl) <| OD.sF 14 rfl (by exact decide_eq_false (by omega)) ?_
    refine OD.q 3 rfl <| OD.ia (.g rfl rfl) Tryz.underlying25 F.size3 rfl rfl rfl (by first | assumption | exact Arr.mono hg (by assumption) | exact Arr.left (by assumption) | exact Arr.left (Arr.mono hg (by assumption))) (h := fun p18 cs18 hp18 hr18 => ?_)
    obtain ⟨rfl, hz18⟩ := hr18
    refine .quiet (.g rfl rfl) rfl (fun _ => .loadAt F.flat3 rfl hp18 rfl) ?_
    refine .quiet (.g rfl rfl) rfl (fun _ => .gtr rfl rfl) <| OD.sF 20 rfl (by exact decide_eq_false (by omega)) ?_
    refine OD.q 3 rfl <| .quiet (.g rfl rfl) rfl (fun _ => .gtr rfl rfl) <| OD.sT 24 rfl (by exact decide_eq_true (by omega)) ?_
    refine OD.q 3 rfl <| .quiet (.g rfl rfl) rfl (fun _ => .sub rfl rfl (IntWalk.i64_in _ (by omega))) <| OD.ia (.g rfl rfl) Tryz.underlying25 F.size3 rfl rfl (show _ = (((i - 1) : Nat) : Int) by omega) (by first | assumption | exact Arr.mono hg (by assumption) | exact Arr.left (by assumption) | exact Arr.left (Arr.mono hg (by assumption))) (h := fun p29 cs29 hp29 hr29 => ?_)
    obtain ⟨rfl, hz29⟩ := hr29
    refine .quiet (.g rfl rfl) rfl (fun _ => .loadAt F.flat3 rfl hp29 rfl) ?_
    refine OD.q 2 rfl <| OD.ia (.g rfl rfl) Tryz.underlying25 F.size3 rfl rfl rfl (by first | assumption | exact Arr.mono hg (by assumption) | exact Arr.left (by assumption) | exact Arr.left (Arr.mono hg (by assumption))) (h := fun p33 cs33 hp33 hr33 => ?_)
    obtain ⟨rfl, hz33⟩ := hr33
    refine .quiet (.g rfl rfl) rfl (fun _ => .loadAt F.flat3 rfl hp33 rfl) ?_
    refine .quiet (.g rfl rfl) rfl (fun _ => .geq rfl rfl) <| OD.sT 35 rfl (by exact decide_eq_true (by omega)) ?_
    refine OD.q 2 rfl <| ODx.nil <| S.condT rfl <| S.seq <| S.region rfl <| O.q 1 rfl <| O.nil ?_
    exact S.rt Tryz.results71 rfl hR ⟨congrArg _ (hno (if_neg fun q => n2 (q.1))).symm, rfl⟩
   have c2 := Classical.not_not.1 n2
   refine S.skip <| S.seq <| S.block <| S.seq <| S.regionD (L := [0, 1, 2, 3, 4, 5, 6, 7, 8, 9, 10, 11, 12, 13, 14, 15, 16, 17, 18, 19, 20, 21, 22, 23, 24, 25, 26, 27]) F.mixed (by kernel_rfl) <| OD.q 2 rfl <| OD.ia (.p rfl) Tryz.underlying25 F.size3 rfl rfl rfl (by first | assumption | exact Arr.mono hg (by assumption) | exact Arr.left (by assumption) | exact Arr.left (Arr.mono hg (by assumption))) (h := fun p12 cs12 hp12 hr12 => ?_)
   obtain ⟨rfl, hz12⟩ := hr12
   refine .quiet (.p rfl) rfl (fun _ => .loadAt F.flat3 rfl hp12 rfl) ?_
   refine .quiet (.p rfl) rfl (fun _ => .lss rfl rfl) <| OD.sF 14 rfl (by exact decide_eq_false (by omega)) ?_
   refine OD.q 3 rfl <| OD.ia (.g rfl rfl) Tryz.underlying25 F.size3 rfl rfl rfl (by first | assumption | exact Arr.mono hg (by assumption) | exact Arr.left (by assumption) | exact Arr.left (Arr.mono hg (by assumption))) (h := fun p18 cs18 hp18 hr18 => ?_)
   obtain ⟨rfl, hz18⟩ := hr18
   refine .quiet (.g rfl rfl) rfl (fun _ => .loadAt F.flat3 rfl hp18 rfl) ?_
   refine .quiet (.g rfl rfl) rfl (fun _ => .gtr rfl rfl) <| OD.sF 20 rfl (by exact decide_eq_false (by omega)) ?_
   refine OD.q 3 rfl <| .quiet (.g rfl rfl) rfl (fun _ => .gtr rfl rfl) <| OD.sT 24 rfl (by exact decide_eq_true (by omega)) ?_
   refine OD.q 3 rfl <| .quiet (.g rfl rfl) rfl (fun _ => .sub rfl rfl (IntWalk.i64_in _ (by omega))) <| OD.ia (.g rfl rfl) Tryz.underlying25 F.size3 rfl rfl (show _ = (((i - 1) : Nat) : Int) by omega) (by first | assumption | exact Arr.mono hg (by assumption) | exact Arr.left (by assumption) | exact Arr.left (Arr.mono hg (by assumption))) (h := fun p29 cs29 hp29 hr29 => ?_)
   obtain ⟨rfl, hz29⟩ := hr29
   refine .quiet (.g rfl rfl) rfl (fun _ => .loadAt F.flat3 rfl hp29 rfl) ?_
   refine OD.q 2 rfl <| OD.ia (.g rfl rfl) Tryz.underlying25 F.size3 rfl rfl rfl (by first | assumption | exact Arr.mono hg (by assumption) | exact Arr.left (by assumption) | exact Arr.left (Arr.mono hg (by assumption))) (h := fun p33 cs33 hp33 hr33 => ?_)
   obtain ⟨rfl, hz33⟩ := hr33
   refine .quiet (.g rfl rfl) rfl (fun _ => .loadAt F.flat3 rfl hp33 rfl) ?_
   refine .quiet (.g rfl rfl) rfl (fun _ => .geq rfl rfl) <| OD.sF 35 rfl (by exact decide_eq_false (by omega)) ?_
   refine OD.q 2 rfl <| ODx.nil <| S.condF rfl <| S.skip <| S.inBlock <| S.region rfl <| O.q 1 rfl <| O.op (.p rfl) (.add rfl rfl (IntWalk.i64_in _ (by omega))) <| O.q 1 rfl <| O.nil ?_
   exact S.wk (ih (i + 1) (by exact ⟨by omega, hst (if_pos ⟨by show l[i - 1] < l[i]; omega, by omega⟩), lt_step hpos fun _ => c0⟩) (by omega))
 ·clear ih
  have hi : i = l.length := by omega
  subst hi
  rw [List.take_length] at hx2
  refine S.exit rfl <| S.seq <| S.region rfl <| O.q 1 rfl <| O.nil ?_
  exact S.rt Tryz.results71 rfl hR ⟨congrArg _ (foldO_some fS hx2).symm, rfl⟩
theorem r20roots_c {r : Fr} {va : Value} {l : List RootT} (ha : Arr RootRp r va l) : Con Tryz.prog 69 #[va] r [] (Ret fun v η => v = .bool (l.foldlM fR ((0, 0) : Int × Int)).isSome ∧ η = []) := by
 have har := ha
 refine Con.of (n := 46) _ rfl Tryz.func69 rfl rfl rfl fun g hg R hR => ?_
 have ha := ha.mono hg
 have hbd := ha.bound
 obtain ⟨a1, c1, rfl⟩ := ha.shape
 refine S.seq <| S.region rfl <| O.q 1 rfl <| O.nil <| S.seq <| S.seq <| S.region rfl <| O.q 1 rfl <| O.nil <| S.block <| S.loopK (ι := Nat) (fun i => i ≤ l.length ∧ (l.take i).foldlM fR ((0, 0) : Int × Int) = some (lastBy (fun x : RootT => (x.1, x.2.1)) ((0, 0) : Int × Int) l i) ∧ ∀ j (h : j < l.length), j < i → rootOk l[j] = true ∧ l[j].1 = (l[0]'(by omega)).1) (fun i => [(3, .int .i64 (i : Int))]) [(0, _)] (fun i => []) (fun i => l.length - i) (0) (by exact ⟨by simp, by simp [lastBy_zero], fun j h q => absurd q (by omega)⟩) (.cons rfl (.nil)) (.cons rfl (.nil)) rfl fun i hx ih => ?_
 have hm1 := meltRefl (g := g)
 obtain ⟨hx1, hx2, hpos⟩ := hx
 refine S.seq <| S.seq <| S.region rfl <| O.q 2 rfl <| O.op (.p rfl) (.len rfl Tryz.underlying23 rfl) <| O.op (.p rfl) (.lss rfl rfl) <| O.nil ?_
 first | refine S.condD rfl (fun h7 => ?_) (fun h7 => ?_) | refine S.condB rfl (fun h7 => ?_) (fun h7 => ?_)
 ·have hi : i < l.length := by omega
  have hst : fR (lastBy (fun x : RootT => (x.1, x.2.1)) ((0, 0) : Int × Int) l i) l[i] = some ((fun x : RootT => (x.1, x.2.1)) l[i]) → (l.take (i + 1)).foldlM fR ((0, 0) : Int × Int) = some (lastBy (fun x : RootT => (x.1, x.2.1)) ((0, 0) : Int × Int) l (i + 1)) := fun q => by rw [lastBy_succ _ _ _ hi]; exact foldO_next fR hi hx2 q
  have hno : fR (lastBy (fun x : RootT => (x.1, x.2.1)) ((0, 0) : Int × Int) l i) l[i] = none → (l.foldlM fR ((0, 0) : Int × Int)).isSome = false := foldO_none fR hi hx2
  by_cases z0 : i = 0
  ·have hlast : lastBy (fun x : RootT => (x.1, x.2.1)) ((0, 0) : Int × Int) l i = ((0, 0) : Int × Int) := by rw [z0]; rfl
   rw [hlast] at hst hno
   by_cases n0 : ¬ (rootOk l[i] = true)
   ·
    refine S.skip <| S.seq <| S.block <| S.seq <| S.regionD (L := [0, 1, 2, 3, 4, 5, 6, 7, 8, 9, 10, 11, 12, 13, 14, 15, 16, 17, 18, 19, 20, 21, 22, 23, 24, 25, 26, 27, 28, 29, 30, 31, 32, 33, 34, 35]) F.mixed (by kernel_rfl) <| OD.q 2 rfl <| OD.ib (.p rfl) Tryz.underlying23 F.size52 rfl rfl rfl har hg (h := fun p12 cs12 hp12 hrr12 => ?_)
    have hr12 := Rp.rel.mono hrr12 hg
    obtain ⟨ta3_12, ta4_12, tc3_12, tc4_12, rfl, ho0_12, ho1_12, ho2_12, ha3_12, ha4_12⟩ := RootRp.sh hr12
    refine .quiet (.p rfl) rfl (fun _ => .loadAgg Tryz.isAgg52 (by kernel_rfl) rfl hp12) ?_
    refine OD.call0 (.p rfl) (by kernel_rfl) rfl F.ok153 rfl rfl ((r15right_c hr12)) ?_
    rintro v14 _ ⟨rfl, rfl⟩
    try simp only [zx1, zx2, zx3]
    refine OD.sF 14 rfl (by exact (by simpa using n0)) ?_
    refine .quiet (.p rfl) rfl (fun _ => .not rfl) <| OD.q 30 rfl <| ODx.nil <| S.condT rfl <| S.seq <| S.region rfl <| O.q 1 rfl <| O.nil ?_
    exact S.rt Tryz.results69 rfl hR ⟨congrArg _ (hno (if_neg fun q => n0 (q.2))).symm, rfl⟩
   have c0 := Classical.not_not.1 n0
   by_cases n1 : ¬ (l[i].1 = (l[0]'(by omega)).1)
   ·
    refine S.skip <| S.seq <| S.block <| S.seq <| S.regionD (L := [0, 1, 2, 3, 4, 5, 6, 7, 8, 9, 10, 11, 12, 13, 14, 15, 16, 17, 18, 19, 20, 21, 22, 23, 24, 25, 26, 27, 28, 29, 30, 31, 32, 33, 34, 35]) F.mixed (by kernel_rfl) <| OD.q 2 rfl <| OD.ib (.p rfl) Tryz.underlying23 F.size52 rfl rfl rfl har hg (h := fun p12 cs12 hp12 hrr12 => ?_)
    have hr12 := Rp.rel.mono hrr12 hg
    obtain ⟨ta3_12, ta4_12, tc3_12, tc4_12, rfl, ho0_12, ho1_12, ho2_12, ha3_12, ha4_12⟩ := RootRp.sh hr12
    refine .quiet (.p rfl) rfl (fun _ => .loadAgg Tryz.isAgg52 (by kernel_rfl) rfl hp12) ?_
    refine OD.call0 (.p rfl) (by kernel_rfl) rfl F.ok153 rfl rfl ((r15right_c hr12)) ?_
    rintro v14 _ ⟨rfl, rfl⟩
    try simp only [zx1, zx2, zx3]
    refine OD.sT 14 rfl (by exact c0) ?_
    refine .quiet (.p rfl) rfl (fun _ => .not rfl) <| OD.q 3 rfl <| OD.ib (.g rfl rfl) Tryz.underlying23 F.size52 rfl rfl rfl har hg (h := fun p19 cs19 hp19 hrr19 => ?_)
    have hr19 := Rp.rel.mono hrr19 hg
    obtain ⟨ta3_19, ta4_19, tc3_19, tc4_19, rfl, ho0_19, ho1_19, ho2_19, ha3_19, ha4_19⟩ := RootRp.sh hr19
    refine .quiet (.g rfl rfl) rfl (fun _ => .fieldAddr F.fld52x0 rfl) <| .quiet (.g rfl rfl) rfl (fun _ => .loadAt F.flat3 rfl hp19 rfl) ?_
    refine OD.q 1 rfl <| OD.ib (.g rfl rfl) Tryz.underlying23 F.size52 rfl rfl (show _ = (((0) : Nat) : Int) by omega) har hg (h := fun p23 cs23 hp23 hrr23 => ?_)
    have hr23 := Rp.rel.mono hrr23 hg
    obtain ⟨ta3_23, ta4_23, tc3_23, tc4_23, rfl, ho0_23, ho1_23, ho2_23, ha3_23, ha4_23⟩ := RootRp.sh hr23
    refine .quiet (.g rfl rfl) rfl (fun _ => .fieldAddr F.fld52x0 rfl) <| .quiet (.g rfl rfl) rfl (fun _ => .loadAt F.flat3 rfl hp23 rfl) ?_
    refine .quiet (.g rfl rfl) rfl (fun _ => .neq rfl rfl) <| OD.sT 26 rfl (by exact decide_eq_true (by omega)) ?_
    refine OD.q 19 rfl <| ODx.nil <| S.condT rfl <| S.seq <| S.region rfl <| O.q 1 rfl <| O.nil ?_
    exact S.rt Tryz.results69 rfl hR ⟨congrArg _ (hno (if_neg fun q => n1 (by subst z0; rfl))).symm, rfl⟩
   have c1 := Classical.not_not.1 n1
   refine S.skip <| S.seq <| S.block <| S.seq <| S.regionD (L := [0, 1, 2, 3, 4, 5, 6, 7, 8, 9, 10, 11, 12, 13, 14, 15, 16, 17, 18, 19, 20, 21, 22, 23, 24, 25, 26, 27, 28, 29, 30, 31, 32, 33, 34, 35]) F.mixed (by kernel_rfl) <| OD.q 2 rfl <| OD.ib (.p rfl) Tryz.underlying23 F.size52 rfl rfl rfl har hg (h := fun p12 cs12 hp12 hrr12 => ?_)
   have hr12 := Rp.rel.mono hrr12 hg
   obtain ⟨ta3_12, ta4_12, tc3_12, tc4_12, rfl, ho0_12, ho1_12, ho2_12, ha3_12, ha4_12⟩ := RootRp.sh hr12
   refine .quiet (.p rfl) rfl (fun _ => .loadAgg Tryz.isAgg52 (by kernel_rfl) rfl hp12) ?_
   refine OD.call0 (.p rfl) (by kernel_rfl) rfl F.ok153 rfl rfl ((r15right_c hr12)) ?_
   rintro v14 _ ⟨rfl, rfl⟩
   try simp only [zx1, zx2, zx3]
   refine OD.sT 14 rfl (by exact c0) ?_
   refine .quiet (.p rfl) rfl (fun _ => .not rfl) <| OD.q 3 rfl <| OD.ib (.g rfl rfl) Tryz.underlying23 F.size52 rfl rfl rfl har hg (h := fun p19 cs19 hp19 hrr19 => ?_)
   have hr19 := Rp.rel.mono hrr19 hg
   obtain ⟨ta3_19, ta4_19, tc3_19, tc4_19, rfl, ho0_19, ho1_19, ho2_19, ha3_19, ha4_19⟩ := RootRp.sh hr19
   refine .quiet (.g rfl rfl) rfl (fun _ => .fieldAddr F.fld52x0 rfl) <| .quiet (.g rfl rfl) rfl (fun _ => .loadAt F.flat3 rfl hp19 rfl) ?_
   refine OD.q 1 rfl <| OD.ib (.g rfl rfl) Tryz.underlying23 F.size52 rfl rfl (show _ = (((0) : Nat) : Int) by omega) har hg (h := fun p23 cs23 hp23 hrr23 => ?_)
   have hr23 := Rp.rel.mono hrr23 hg
   obtain ⟨ta3_23, ta4_23, tc3_23, tc4_23, rfl, ho0_23, ho1_23, ho2_23, ha3_23, ha4_23⟩ := RootRp.sh hr23
   refine .quiet (.g rfl rfl) rfl (fun _ => .fieldAddr F.fld52x0 rfl) <| .quiet (.g rfl rfl) rfl (fun _ => .loadAt F.flat3 rfl hp23 rfl) ?_
   refine .quiet (.g rfl rfl) rfl (fun _ => .neq rfl rfl) <| OD.sF 26 rfl (by exact decide_eq_false (by omega)) ?_
   refine OD.q 3 rfl <| .quiet (.g rfl rfl) rfl (fun _ => .gtr rfl rfl) <| OD.sF 30 rfl (by exact decide_eq_false (by omega)) ?_
   refine OD.q 15 rfl <| ODx.nil <| S.condF rfl <| S.skip <| S.inBlock <| S.region rfl <| O.q 1 rfl <| O.op (.p rfl) (.add rfl rfl (IntWalk.i64_in _ (by omega))) <| O.q 1 rfl <| O.nil ?_
   exact S.wk (ih (i + 1) (by exact ⟨by omega, hst (if_pos ⟨.inl rfl, c0⟩), lt_step hpos fun _ => ⟨c0, c1⟩⟩) (by omega))
  ·have hi1 : i - 1 < l.length := by omega
   have hlast : lastBy (fun x : RootT => (x.1, x.2.1)) ((0, 0) : Int × Int) l i = (fun x : RootT => (x.1, x.2.1)) l[i - 1] := lastBy_pos _ _ _ (by omega) hi1
   rw [hlast] at hst hno
   have hp := hpos _ hi1 (by omega)
   have hp1 := (rootShape_iff.1 (rootOk_iff.1 hp.1).1).1
   by_cases n0 : ¬ (rootOk l[i] = true)
   ·
    refine S.skip <| S.seq <| S.block <| S.seq <| S.regionD (L := [0, 1, 2, 3, 4, 5, 6, 7, 8, 9, 10, 11, 12, 13, 14, 15, 16, 17, 18, 19, 20, 21, 22, 23, 24, 25, 26, 27, 28, 29, 30, 31, 32, 33, 34, 35]) F.mixed (by kernel_rfl) <| OD.q 2 rfl <| OD.ib (.p rfl) Tryz.underlying23 F.size52 rfl rfl rfl har hg (h := fun p12 cs12 hp12 hrr12 => ?_)
    have hr12 := Rp.rel.mono hrr12 hg
    obtain ⟨ta3_12, ta4_12, tc3_12, tc4_12, rfl, ho0_12, ho1_12, ho2_12, ha3_12, ha4_12⟩ := RootRp.sh hr12
    refine .quiet (.p rfl) rfl (fun _ => .loadAgg Tryz.isAgg52 (by kernel_rfl) rfl hp12) ?_
    refine OD.call0 (.p rfl) (by kernel_rfl) rfl F.ok153 rfl rfl ((r15right_c hr12)) ?_
    rintro v14 _ ⟨rfl, rfl⟩
    try simp only [zx1, zx2, zx3]
    refine OD.sF 14 rfl (by exact (by simpa using n0)) ?_
    refine .quiet (.p rfl) rfl (fun _ => .not rfl) <| OD.q 30 rfl <| ODx.nil <| S.condT rfl <| S.seq <| S.region rfl <| O.q 1 rfl <| O.nil ?_
    exact S.rt Tryz.results69 rfl hR ⟨congrArg _ (hno (if_neg fun q => n0 (q.2))).symm, rfl⟩
   have c0 := Classical.not_not.1 n0
   by_cases n1 : ¬ (l[i].1 = (l[0]'(by omega)).1)
   ·
    refine S.skip <| S.seq <| S.block <| S.seq <| S.regionD (L := [0, 1, 2, 3, 4, 5, 6, 7, 8, 9, 10, 11, 12, 13, 14, 15, 16, 17, 18, 19, 20, 21, 22, 23, 24, 25, 26, 27, 28, 29, 30, 31, 32, 33, 34, 35]) F.mixed (by kernel_rfl) <| OD.q 2 rfl <| OD.ib (.p rfl) Tryz.underlying23 F.size52 rfl rfl rfl har hg (h := fun p12 cs12 hp12 hrr12 => ?_)
    have hr12 := Rp.rel.mono hrr12 hg
    obtain ⟨ta3_12, ta4_12, tc3_12, tc4_12, rfl, ho0_12, ho1_12, ho2_12, ha3_12, ha4_12⟩ := RootRp.sh hr12
    refine .quiet (.p rfl) rfl (fun _ => .loadAgg Tryz.isAgg52 (by kernel_rfl) rfl hp12) ?_
    refine OD.call0 (.p rfl) (by kernel_rfl) rfl F.ok153 rfl rfl ((r15right_c hr12)) ?_
    rintro v14 _ ⟨rfl, rfl⟩
    try simp only [zx1, zx2, zx3]
    refine OD.sT 14 rfl (by exact c0) ?_
    refine .quiet (.p rfl) rfl (fun _ => .not rfl) <| OD.q 3 rfl <| OD.ib (.g rfl rfl) Tryz.underlying23 F.size52 rfl rfl rfl har hg (h := fun p19 cs19 hp19 hrr19 => ?_)
    have hr19 := Rp.rel.mono hrr19 hg
    obtain ⟨ta3_19, ta4_19, tc3_19, tc4_19, rfl, ho0_19, ho1_19, ho2_19, ha3_19, ha4_19⟩ := RootRp.sh hr19
    refine .quiet (.g rfl rfl) rfl (fun _ => .fieldAddr F.fld52x0 rfl) <| .quiet (.g rfl rfl) rfl (fun _ => .loadAt F.flat3 rfl hp19 rfl) ?_
    refine OD.q 1 rfl <| OD.ib (.g rfl rfl) Tryz.underlying23 F.size52 rfl rfl (show _ = (((0) : Nat) : Int) by omega) har hg (h := fun p23 cs23 hp23 hrr23 => ?_)
    have hr23 := Rp.rel.mono hrr23 hg
    obtain ⟨ta3_23, ta4_23, tc3_23, tc4_23, rfl, ho0_23, ho1_23, ho2_23, ha3_23, ha4_23⟩ := RootRp.sh hr23
    refine .quiet (.g rfl rfl) rfl (fun _ => .fieldAddr F.fld52x0 rfl) <| .quiet (.g rfl rfl) rfl (fun _ => .loadAt F.flat3 rfl hp23 rfl) ?_
    refine .quiet (.g rfl rfl) rfl (fun _ => .neq rfl rfl) <| OD.sT 26 rfl (by exact decide_eq_true (by omega)) ?_
    refine OD.q 19 rfl <| ODx.nil <| S.condT rfl <| S.seq <| S.region rfl <| O.q 1 rfl <| O.nil ?_
    exact S.rt Tryz.results69 rfl hR ⟨congrArg _ (hno (if_neg fun q => n1 (by have q1 : l[i - 1].1 = 0 ∨ l[i].1 = l[i - 1].1 ∧ l[i - 1].2.1 < l[i].2.1 := q.1; have := hp.2; omega))).symm, rfl⟩
   have c1 := Classical.not_not.1 n1
   by_cases n2 : ¬ (l[i - 1].2.1 < l[i].2.1)
   ·
    refine S.skip <| S.seq <| S.block <| S.seq <| S.regionD (L := [0, 1, 2, 3, 4, 5, 6, 7, 8, 9, 10, 11, 12, 13, 14, 15, 16, 17, 18, 19, 20, 21, 22, 23, 24, 25, 26, 27, 28, 29, 30, 31, 32, 33, 34, 35]) F.mixed (by kernel_rfl) <| OD.q 2 rfl <| OD.ib (.p rfl) Tryz.underlying23 F.size52 rfl rfl rfl har hg (h := fun p12 cs12 hp12 hrr12 => ?_)
    have hr12 := Rp.rel.mono hrr12 hg
    obtain ⟨ta3_12, ta4_12, tc3_12, tc4_12, rfl, ho0_12, ho1_12, ho2_12, ha3_12, ha4_12⟩ := RootRp.sh hr12
    refine .quiet (.p rfl) rfl (fun _ => .loadAgg Tryz.isAgg52 (by kernel_rfl) rfl hp12) ?_
    refine OD.call0 (.p rfl) (by kernel_rfl) rfl F.ok153 rfl rfl ((r15right_c hr12)) ?_
    rintro v14 _ ⟨rfl, rfl⟩
    try simp only [zx1, zx2, zx3]
    refine OD.sT 14 rfl (by exact c0) ?_
    refine .quiet (.p rfl) rfl (fun _ => .not rfl) <| OD.q 3 rfl <| OD.ib (.g rfl rfl) Tryz.underlying23 F.size52 rfl rfl rfl har hg (h := fun p19 cs19 hp19 hrr19 => ?_)
    have hr19 := Rp.rel.mono hrr19 hg
    obtain ⟨ta3_19, ta4_19, tc3_19, tc4_19, rfl, ho0_19, ho1_19, ho2_19, ha3_19, ha4_19⟩ := RootRp.sh hr19
    refine .quiet (.g rfl rfl) rfl (fun _ => .fieldAddr F.fld52x0 rfl) <| .quiet (.g rfl rfl) rfl (fun _ => .loadAt F.flat3 rfl hp19 rfl) ?_
    refine OD.q 1 rfl <| OD.ib (.g rfl rfl) Tryz.underlying23 F.size52 rfl rfl (show _ = (((0) : Nat) : Int) by omega) har hg (h := fun p23 cs23 hp23 hrr23 => ?_)
    have hr23 := Rp.rel.mono hrr23 hg
    obtain ⟨ta3_23, ta4_23, tc3_23, tc4_23, rfl, ho0_23, ho1_23, ho2_23, ha3_23, ha4_23⟩ := RootRp.sh hr23
    refine .quiet (.g rfl rfl) rfl (fun _ => .fieldAddr F.fld52x0 rfl) <| .quiet (.g rfl rfl) rfl (fun _ => .loadAt F.flat3 rfl hp23 rfl) ?_
    refine .quiet (.g rfl rfl) rfl (fun _ => .neq rfl rfl) <| OD.sF 26 rfl (by exact decide_eq_false (by omega)) ?_
    refine OD.q 3 rfl <| .quiet (.g rfl rfl) rfl (fun _ => .gtr rfl rfl) <| OD.sT 30 rfl (by exact decide_eq_true (by omega)) ?_
    refine OD.q 3 rfl <| .quiet (.g rfl rfl) rfl (fun _ => .sub rfl rfl (IntWalk.i64_in _ (by omega))) <| OD.ib (.g rfl rfl) Tryz.underlying23 F.size52 rfl rfl (show _ = (((i - 1) : Nat) : Int) by omega) har hg (h := fun p35 cs35 hp35 hrr35 => ?_)
    have hr35 := Rp.rel.mono hrr35 hg
    obtain ⟨ta3_35, ta4_35, tc3_35, tc4_35, rfl, ho0_35, ho1_35, ho2_35, ha3_35, ha4_35⟩ := RootRp.sh hr35
    refine .quiet (.g rfl rfl) rfl (fun _ => .fieldAddr F.fld52x1 rfl) <| .quiet (.g rfl rfl) rfl (fun _ => .loadAt F.flat3 rfl (hp35.drop 1) rfl) ?_
    refine OD.q 2 rfl <| OD.ib (.g rfl rfl) Tryz.underlying23 F.size52 rfl rfl rfl har hg (h := fun p40 cs40 hp40 hrr40 => ?_)
    have hr40 := Rp.rel.mono hrr40 hg
    obtain ⟨ta3_40, ta4_40, tc3_40, tc4_40, rfl, ho0_40, ho1_40, ho2_40, ha3_40, ha4_40⟩ := RootRp.sh hr40
    refine .quiet (.g rfl rfl) rfl (fun _ => .fieldAddr F.fld52x1 rfl) <| .quiet (.g rfl rfl) rfl (fun _ => .loadAt F.flat3 rfl (hp40.drop 1) rfl) ?_
    refine .quiet (.g rfl rfl) rfl (fun _ => .geq rfl rfl) <| OD.sT 43 rfl (by exact decide_eq_true (by omega)) ?_
    refine OD.q 2 rfl <| ODx.nil <| S.condT rfl <| S.seq <| S.region rfl <| O.q 1 rfl <| O.nil ?_
    exact S.rt Tryz.results69 rfl hR ⟨congrArg _ (hno (if_neg fun q => n2 (by have q1 : l[i - 1].1 = 0 ∨ l[i].1 = l[i - 1].1 ∧ l[i - 1].2.1 < l[i].2.1 := q.1; have := hp.2; omega))).symm, rfl⟩
   have c2 := Classical.not_not.1 n2
   refine S.skip <| S.seq <| S.block <| S.seq <| S.regionD (L := [0, 1, 2, 3, 4, 5, 6, 7, 8, 9, 10, 11, 12, 13, 14, 15, 16, 17, 18, 19, 20, 21, 22, 23, 24, 25, 26, 27, 28, 29, 30, 31, 32, 33, 34, 35]) F.mixed (by kernel_rfl) <| OD.q 2 rfl <| OD.ib (.p rfl) Tryz.underlying23 F.size52 rfl rfl rfl har hg (h := fun p12 cs12 hp12 hrr12 => ?_)
   have hr12 := Rp.rel.mono hrr12 hg
   obtain ⟨ta3_12, ta4_12, tc3_12, tc4_12, rfl, ho0_12, ho1_12, ho2_12, ha3_12, ha4_12⟩ := RootRp.sh hr12
   refine .quiet (.p rfl) rfl (fun _ => .loadAgg Tryz.isAgg52 (by kernel_rfl) rfl hp12) ?_
   refine OD.call0 (.p rfl) (by kernel_rfl) rfl F.ok153 rfl rfl ((r15right_c hr12)) ?_
   rintro v14 _ ⟨rfl, rfl⟩
   try simp only [zx1, zx2, zx3]
   refine OD.sT 14 rfl (by exact c0) ?_
   refine .quiet (.p rfl) rfl (fun _ => .not rfl) <| OD.q 3 rfl <| OD.ib (.g rfl rfl) Tryz.underlying23 F.size52 rfl rfl rfl har hg (h := fun p19 cs19 hp19 hrr19 => ?_)
   have hr19 := Rp.rel.mono hrr19 hg
   obtain ⟨ta3_19, ta4_19, tc3_19, tc4_19, rfl, ho0_19, ho1_19, ho2_19, ha3_19, ha4_19⟩ := RootRp.sh hr19
   refine .quiet (.g rfl rfl) rfl (fun _ => .fieldAddr F.fld52x0 rfl) <| .quiet (.g rfl rfl) rfl (fun _ => .loadAt F.flat3 rfl hp19 rfl) ?_
   refine OD.q 1 rfl <| OD.ib (.g rfl rfl) Tryz.underlying23 F.size52 rfl rfl (show _ = (((0) : Nat) : Int) by omega) har hg (h := fun p23 cs23 hp23 hrr23 => ?_)
   have hr23 := Rp.rel.mono hrr23 hg
   obtain ⟨ta3_23, ta4_23, tc3_23, tc4_23, rfl, ho0_23, ho1_23, ho2_23, ha3_23, ha4_23⟩ := RootRp.sh hr23
   refine .quiet (.g rfl rfl) rfl (fun _ => .fieldAddr F.fld52x0 rfl) <| .quiet (.g rfl rfl) rfl (fun _ => .loadAt F.flat3 rfl hp23 rfl) ?_
   refine .quiet (.g rfl rfl) rfl (fun _ => .neq rfl rfl) <| OD.sF 26 rfl (by exact decide_eq_false (by omega)) ?_
   refine OD.q 3 rfl <| .quiet (.g rfl rfl) rfl (fun _ => .gtr rfl rfl) <| OD.sT 30 rfl (by exact decide_eq_true (by omega)) ?_
   refine OD.q 3 rfl <| .quiet (.g rfl rfl) rfl (fun _ => .sub rfl rfl (IntWalk.i64_in _ (by omega))) <| OD.ib (.g rfl rfl) Tryz.underlying23 F.size52 rfl rfl (show _ = (((i - 1) : Nat) : Int) by omega) har hg (h := fun p35 cs35 hp35 hrr35 => ?_)
   have hr35 := Rp.rel.mono hrr35 hg
   obtain ⟨ta3_35, ta4_35, tc3_35, tc4_35, rfl, ho0_35, ho1_35, ho2_35, ha3_35, ha4_35⟩ := RootRp.sh hr35
   refine .quiet (.g rfl rfl) rfl (fun _ => .fieldAddr F.fld52x1 rfl) <| .quiet (.g rfl rfl) rfl (fun _ => .loadAt F.flat3 rfl (hp35.drop 1) rfl) ?_
   refine OD.q 2 rfl <| OD.ib (.g rfl rfl) Tryz.underlying23 F.size52 rfl rfl rfl har hg (h := fun p40 cs40 hp40 hrr40 => ?_)
   have hr40 := Rp.rel.mono hrr40 hg
   obtain ⟨ta3_40, ta4_40, tc3_40, tc4_40, rfl, ho0_40, ho1_40, ho2_40, ha3_40, ha4_40⟩ := RootRp.sh hr40
   refine .quiet (.g rfl rfl) rfl (fun _ => .fieldAddr F.fld52x1 rfl) <| .quiet (.g rfl rfl) rfl (fun _ => .loadAt F.flat3 rfl (hp40.drop 1) rfl) ?_
   refine .quiet (.g rfl rfl) rfl (fun _ => .geq rfl rfl) <| OD.sF 43 rfl (by exact decide_eq_false (by omega)) ?_
   refine OD.q 2 rfl <| ODx.nil <| S.condF rfl <| S.skip <| S.inBlock <| S.region rfl <| O.q 1 rfl <| O.op (.p rfl) (.add rfl rfl (IntWalk.i64_in _ (by omega))) <| O.q 1 rfl <| O.nil ?_
   exact S.wk (ih (i + 1) (by exact ⟨by omega, hst (if_pos ⟨.inr ⟨by show l[i].1 = l[i - 1].1; have := hp.2; omega, c2⟩, c0⟩), lt_step hpos fun _ => ⟨c0, c1⟩⟩) (by omega))
 ·clear ih
  have hi : i = l.length := by omega
  subst hi
  rw [List.take_length] at hx2
  refine S.exit rfl <| S.seq <| S.region rfl <| O.q 1 rfl <| O.nil ?_
  exact S.rt Tryz.results69 rfl hR ⟨congrArg _ (foldO_some fR hx2).symm, rfl⟩
theorem r20leaves_c {r : Fr} {va : Value} {l : List LeafT} (ha : Arr LeafRp r va l) : Con Tryz.prog 68 #[va] r [] (Ret fun v η => v = .bool (l.foldlM fL ([] : List UInt8)).isSome ∧ η = []) := by
 have har := ha
 refine Con.of (n := 78) _ rfl Tryz.func68 rfl rfl rfl fun g hg R hR => ?_
 have ha := ha.mono hg
 have hbd := ha.bound
 obtain ⟨a1, c1, rfl⟩ := ha.shape
 refine S.seq <| S.region rfl <| O.q 1 rfl <| O.nil <| S.seq <| S.seq <| S.region rfl <| O.q 1 rfl <| O.nil <| S.block <| S.loopK (ι := Nat) (fun i => i ≤ l.length ∧ (l.take i).foldlM fL ([] : List UInt8) = some (lastBy (fun x : LeafT => x.1) ([] : List UInt8) l i) ∧ ∀ j (h : j < l.length), j < i → True) (fun i => [(3, .int .i64 (i : Int))]) [(0, _)] (fun i => []) (fun i => l.length - i) (0) (by exact ⟨by simp, by simp [lastBy_zero], fun j h q => absurd q (by omega)⟩) (.cons rfl (.nil)) (.cons rfl (.nil)) rfl fun i hx ih => ?_
 have hm1 := meltRefl (g := g)
 obtain ⟨hx1, hx2, hpos⟩ := hx
 refine S.seq <| S.seq <| S.region rfl <| O.q 2 rfl <| O.op (.p rfl) (.len rfl Tryz.underlying22 rfl) <| O.op (.p rfl) (.lss rfl rfl) <| O.nil ?_
 first | refine S.condD rfl (fun h7 => ?_) (fun h7 => ?_) | refine S.condB rfl (fun h7 => ?_) (fun h7 => ?_)
 ·have hi : i < l.length := by omega
  have hst : fL (lastBy (fun x : LeafT => x.1) ([] : List UInt8) l i) l[i] = some ((fun x : LeafT => x.1) l[i]) → (l.take (i + 1)).foldlM fL ([] : List UInt8) = some (lastBy (fun x : LeafT => x.1) ([] : List UInt8) l (i + 1)) := fun q => by rw [lastBy_succ _ _ _ hi]; exact foldO_next fL hi hx2 q
  have hno : fL (lastBy (fun x : LeafT => x.1) ([] : List UInt8) l i) l[i] = none → (l.foldlM fL ([] : List UInt8)).isSome = false := foldO_none fL hi hx2
  by_cases z0 : i = 0
  ·have hlast : lastBy (fun x : LeafT => x.1) ([] : List UInt8) l i = ([] : List UInt8) := by rw [z0]; rfl
   rw [hlast] at hst hno
   by_cases n0 : ¬ (1 ≤ l[i].1.length)
   ·
    refine S.skip <| S.seq <| S.block <| S.seq <| S.regionD (L := [0, 1, 2, 3, 4, 5, 6, 7, 8, 9, 10, 11, 12, 13, 14, 15, 16, 17, 18, 19, 20, 21, 22, 23, 24, 25, 26, 27, 28, 29, 30, 31, 32, 33, 34, 35, 36, 37, 38, 39, 40, 41, 42, 43, 44, 45, 46, 47, 48, 49, 50, 51, 52, 53, 54, 55, 56, 57, 58, 59, 60, 61, 62, 63, 64, 65, 66, 67]) F.mixed (by kernel_rfl) <| OD.q 2 rfl <| OD.ib (.p rfl) Tryz.underlying22 F.size49 rfl rfl rfl har hg (h := fun p12 cs12 hp12 hrr12 => ?_)
    have hr12 := Rp.rel.mono hrr12 hg
    obtain ⟨la1_12, lc1_12, rfl, ho0_12, ha1_12⟩ := LeafRp.sh hr12
    refine .quiet (.p rfl) rfl (fun _ => .fieldAddr F.fld49x0 rfl) <| .quiet (.p rfl) rfl (fun _ => .loadAt F.flat9 rfl hp12 rfl) ?_
    refine .quiet (.p rfl) rfl (fun _ => .lenS rfl Tryz.underlying9 rfl) <| .quiet (.p rfl) rfl (fun _ => .lss rfl rfl) <| OD.sT 16 rfl (by exact decide_eq_true (by rw [str_size]; omega)) ?_
    refine OD.q 61 rfl <| ODx.nil <| S.condT rfl <| S.seq <| S.region rfl <| O.q 1 rfl <| O.nil ?_
    exact S.rt Tryz.results68 rfl hR ⟨congrArg _ (hno (if_neg fun q => n0 (nil_lt.1 q.1))).symm, rfl⟩
   have c0 := Classical.not_not.1 n0
   by_cases n1 : ¬ (l[i].1.length ≤ 64)
   ·
    refine S.skip <| S.seq <| S.block <| S.seq <| S.regionD (L := [0, 1, 2, 3, 4, 5, 6, 7, 8, 9, 10, 11, 12, 13, 14, 15, 16, 17, 18, 19, 20, 21, 22, 23, 24, 25, 26, 27, 28, 29, 30, 31, 32, 33, 34, 35, 36, 37, 38, 39, 40, 41, 42, 43, 44, 45, 46, 47, 48, 49, 50, 51, 52, 53, 54, 55, 56, 57, 58, 59, 60, 61, 62, 63, 64, 65, 66, 67]) F.mixed (by kernel_rfl) <| OD.q 2 rfl <| OD.ib (.p rfl) Tryz.underlying22 F.size49 rfl rfl rfl har hg (h := fun p12 cs12 hp12 hrr12 => ?_)
    have hr12 := Rp.rel.mono hrr12 hg
    obtain ⟨la1_12, lc1_12, rfl, ho0_12, ha1_12⟩ := LeafRp.sh hr12
    refine .quiet (.p rfl) rfl (fun _ => .fieldAddr F.fld49x0 rfl) <| .quiet (.p rfl) rfl (fun _ => .loadAt F.flat9 rfl hp12 rfl) ?_
    refine .quiet (.p rfl) rfl (fun _ => .lenS rfl Tryz.underlying9 rfl) <| .quiet (.p rfl) rfl (fun _ => .lss rfl rfl) <| OD.sF 16 rfl (by exact decide_eq_false (by rw [str_size]; omega)) ?_
    refine OD.q 3 rfl <| OD.ib (.g rfl rfl) Tryz.underlying22 F.size49 rfl rfl rfl har hg (h := fun p20 cs20 hp20 hrr20 => ?_)
    have hr20 := Rp.rel.mono hrr20 hg
    obtain ⟨la1_20, lc1_20, rfl, ho0_20, ha1_20⟩ := LeafRp.sh hr20
    refine .quiet (.g rfl rfl) rfl (fun _ => .fieldAddr F.fld49x0 rfl) <| .quiet (.g rfl rfl) rfl (fun _ => .loadAt F.flat9 rfl hp20 rfl) ?_
    refine .quiet (.g rfl rfl) rfl (fun _ => .lenS rfl Tryz.underlying9 rfl) <| .quiet (.g rfl rfl) rfl (fun _ => .gtr rfl rfl) <| OD.sT 24 rfl (by exact decide_eq_true (by rw [str_size]; omega)) ?_
    refine OD.q 53 rfl <| ODx.nil <| S.condT rfl <| S.seq <| S.region rfl <| O.q 1 rfl <| O.nil ?_
    exact S.rt Tryz.results68 rfl hR ⟨congrArg _ (hno (if_neg fun q => n1 (q.2.1))).symm, rfl⟩
   have c1 := Classical.not_not.1 n1
   by_cases n2 : ¬ (0 < l[i].2.1.length)
   ·
    refine S.skip <| S.seq <| S.block <| S.seq <| S.regionD (L := [0, 1, 2, 3, 4, 5, 6, 7, 8, 9, 10, 11, 12, 13, 14, 15, 16, 17, 18, 19, 20, 21, 22, 23, 24, 25, 26, 27, 28, 29, 30, 31, 32, 33, 34, 35, 36, 37, 38, 39, 40, 41, 42, 43, 44, 45, 46, 47, 48, 49, 50, 51, 52, 53, 54, 55, 56, 57, 58, 59, 60, 61, 62, 63, 64, 65, 66, 67]) F.mixed (by kernel_rfl) <| OD.q 2 rfl <| OD.ib (.p rfl) Tryz.underlying22 F.size49 rfl rfl rfl har hg (h := fun p12 cs12 hp12 hrr12 => ?_)
    have hr12 := Rp.rel.mono hrr12 hg
    obtain ⟨la1_12, lc1_12, rfl, ho0_12, ha1_12⟩ := LeafRp.sh hr12
    refine .quiet (.p rfl) rfl (fun _ => .fieldAddr F.fld49x0 rfl) <| .quiet (.p rfl) rfl (fun _ => .loadAt F.flat9 rfl hp12 rfl) ?_
    refine .quiet (.p rfl) rfl (fun _ => .lenS rfl Tryz.underlying9 rfl) <| .quiet (.p rfl) rfl (fun _ => .lss rfl rfl) <| OD.sF 16 rfl (by exact decide_eq_false (by rw [str_size]; omega)) ?_
    refine OD.q 3 rfl <| OD.ib (.g rfl rfl) Tryz.underlying22 F.size49 rfl rfl rfl har hg (h := fun p20 cs20 hp20 hrr20 => ?_)
    have hr20 := Rp.rel.mono hrr20 hg
    obtain ⟨la1_20, lc1_20, rfl, ho0_20, ha1_20⟩ := LeafRp.sh hr20
    refine .quiet (.g rfl rfl) rfl (fun _ => .fieldAddr F.fld49x0 rfl) <| .quiet (.g rfl rfl) rfl (fun _ => .loadAt F.flat9 rfl hp20 rfl) ?_
    refine .quiet (.g rfl rfl) rfl (fun _ => .lenS rfl Tryz.underlying9 rfl) <| .quiet (.g rfl rfl) rfl (fun _ => .gtr rfl rfl) <| OD.sF 24 rfl (by exact decide_eq_false (by rw [str_size]; omega)) ?_
    refine OD.q 3 rfl <| .quiet (.g rfl rfl) rfl (fun _ => .gtr rfl rfl) <| OD.sF 28 rfl (by exact decide_eq_false (by omega)) ?_
    refine OD.q 18 rfl <| OD.ib (.g rfl rfl) Tryz.underlying22 F.size49 rfl rfl rfl har hg (h := fun p47 cs47 hp47 hrr47 => ?_)
    have hr47 := Rp.rel.mono hrr47 hg
    obtain ⟨la1_47, lc1_47, rfl, ho0_47, ha1_47⟩ := LeafRp.sh hr47
    refine .quiet (.g rfl rfl) rfl (fun _ => .fieldAddr F.fld49x1 rfl) <| .quiet (.g rfl rfl) rfl (fun _ => .loadAt F.flat47 rfl (hp47.drop 1) rfl) ?_
    refine .quiet (.g rfl rfl) rfl (fun _ => .len rfl Tryz.underlying47 rfl) <| .quiet (.g rfl rfl) rfl (fun _ => .eql rfl rfl) <| OD.sT 51 rfl (by exact decide_eq_true (by omega)) ?_
    refine OD.q 26 rfl <| ODx.nil <| S.condT rfl <| S.seq <| S.region rfl <| O.q 1 rfl <| O.nil ?_
    exact S.rt Tryz.results68 rfl hR ⟨congrArg _ (hno (if_neg fun q => n2 (q.2.2.1.choose))).symm, rfl⟩
   have c2 := Classical.not_not.1 n2
   by_cases n3 : ¬ (SRight l[i].2.1)
   ·
    refine S.skip <| S.seq <| S.block <| S.seq <| S.regionD (L := [0, 1, 2, 3, 4, 5, 6, 7, 8, 9, 10, 11, 12, 13, 14, 15, 16, 17, 18, 19, 20, 21, 22, 23, 24, 25, 26, 27, 28, 29, 30, 31, 32, 33, 34, 35, 36, 37, 38, 39, 40, 41, 42, 43, 44, 45, 46, 47, 48, 49, 50, 51, 52, 53, 54, 55, 56, 57, 58, 59, 60, 61, 62, 63, 64, 65, 66, 67]) F.mixed (by kernel_rfl) <| OD.q 2 rfl <| OD.ib (.p rfl) Tryz.underlying22 F.size49 rfl rfl rfl har hg (h := fun p12 cs12 hp12 hrr12 => ?_)
    have hr12 := Rp.rel.mono hrr12 hg
    obtain ⟨la1_12, lc1_12, rfl, ho0_12, ha1_12⟩ := LeafRp.sh hr12
    refine .quiet (.p rfl) rfl (fun _ => .fieldAddr F.fld49x0 rfl) <| .quiet (.p rfl) rfl (fun _ => .loadAt F.flat9 rfl hp12 rfl) ?_
    refine .quiet (.p rfl) rfl (fun _ => .lenS rfl Tryz.underlying9 rfl) <| .quiet (.p rfl) rfl (fun _ => .lss rfl rfl) <| OD.sF 16 rfl (by exact decide_eq_false (by rw [str_size]; omega)) ?_
    refine OD.q 3 rfl <| OD.ib (.g rfl rfl) Tryz.underlying22 F.size49 rfl rfl rfl har hg (h := fun p20 cs20 hp20 hrr20 => ?_)
    have hr20 := Rp.rel.mono hrr20 hg
    obtain ⟨la1_20, lc1_20, rfl, ho0_20, ha1_20⟩ := LeafRp.sh hr20
    refine .quiet (.g rfl rfl) rfl (fun _ => .fieldAddr F.fld49x0 rfl) <| .quiet (.g rfl rfl) rfl (fun _ => .loadAt F.flat9 rfl hp20 rfl) ?_
    refine .quiet (.g rfl rfl) rfl (fun _ => .lenS rfl Tryz.underlying9 rfl) <| .quiet (.g rfl rfl) rfl (fun _ => .gtr rfl rfl) <| OD.sF 24 rfl (by exact decide_eq_false (by rw [str_size]; omega)) ?_
    refine OD.q 3 rfl <| .quiet (.g rfl rfl) rfl (fun _ => .gtr rfl rfl) <| OD.sF 28 rfl (by exact decide_eq_false (by omega)) ?_
    refine OD.q 18 rfl <| OD.ib (.g rfl rfl) Tryz.underlying22 F.size49 rfl rfl rfl har hg (h := fun p47 cs47 hp47 hrr47 => ?_)
    have hr47 := Rp.rel.mono hrr47 hg
    obtain ⟨la1_47, lc1_47, rfl, ho0_47, ha1_47⟩ := LeafRp.sh hr47
    refine .quiet (.g rfl rfl) rfl (fun _ => .fieldAddr F.fld49x1 rfl) <| .quiet (.g rfl rfl) rfl (fun _ => .loadAt F.flat47 rfl (hp47.drop 1) rfl) ?_
    refine .quiet (.g rfl rfl) rfl (fun _ => .len rfl Tryz.underlying47 rfl) <| .quiet (.g rfl rfl) rfl (fun _ => .eql rfl rfl) <| OD.sF 51 rfl (by exact decide_eq_false (by omega)) ?_
    refine OD.q 4 rfl <| OD.ib (.g rfl rfl) Tryz.underlying22 F.size49 rfl rfl rfl har hg (h := fun p56 cs56 hp56 hrr56 => ?_)
    have hr56 := Rp.rel.mono hrr56 hg
    obtain ⟨la1_56, lc1_56, rfl, ho0_56, ha1_56⟩ := LeafRp.sh hr56
    refine .quiet (.g rfl rfl) rfl (fun _ => .fieldAddr F.fld49x1 rfl) <| .quiet (.g rfl rfl) rfl (fun _ => .loadAt F.flat47 rfl (hp56.drop 1) rfl) ?_
    refine OD.call0 (.g rfl rfl) (by kernel_rfl) rfl F.ok46 rfl rfl ((r9right_c ha1_56)) ?_
    rintro v59 _ ⟨rfl, rfl⟩
    try simp only [zx1, zx2, zx3]
    refine OD.sF 59 rfl (by exact decide_eq_false n3) ?_
    refine .quiet (.g rfl rfl) rfl (fun _ => .not rfl) <| OD.q 17 rfl <| ODx.nil <| S.condT rfl <| S.seq <| S.region rfl <| O.q 1 rfl <| O.nil ?_
    exact S.rt Tryz.results68 rfl hR ⟨congrArg _ (hno (if_neg fun q => n3 (q.2.2.2))).symm, rfl⟩
   have c3 := Classical.not_not.1 n3
   by_cases n4 : ¬ (∃ h : 0 < l[i].2.1.length, l[i].2.1[0].1 = l[i].1)
   ·
    refine S.skip <| S.seq <| S.block <| S.seq <| S.regionD (L := [0, 1, 2, 3, 4, 5, 6, 7, 8, 9, 10, 11, 12, 13, 14, 15, 16, 17, 18, 19, 20, 21, 22, 23, 24, 25, 26, 27, 28, 29, 30, 31, 32, 33, 34, 35, 36, 37, 38, 39, 40, 41, 42, 43, 44, 45, 46, 47, 48, 49, 50, 51, 52, 53, 54, 55, 56, 57, 58, 59, 60, 61, 62, 63, 64, 65, 66, 67]) F.mixed (by kernel_rfl) <| OD.q 2 rfl <| OD.ib (.p rfl) Tryz.underlying22 F.size49 rfl rfl rfl har hg (h := fun p12 cs12 hp12 hrr12 => ?_)
    have hr12 := Rp.rel.mono hrr12 hg
    obtain ⟨la1_12, lc1_12, rfl, ho0_12, ha1_12⟩ := LeafRp.sh hr12
    refine .quiet (.p rfl) rfl (fun _ => .fieldAddr F.fld49x0 rfl) <| .quiet (.p rfl) rfl (fun _ => .loadAt F.flat9 rfl hp12 rfl) ?_
    refine .quiet (.p rfl) rfl (fun _ => .lenS rfl Tryz.underlying9 rfl) <| .quiet (.p rfl) rfl (fun _ => .lss rfl rfl) <| OD.sF 16 rfl (by exact decide_eq_false (by rw [str_size]; omega)) ?_
    refine OD.q 3 rfl <| OD.ib (.g rfl rfl) Tryz.underlying22 F.size49 rfl rfl rfl har hg (h := fun p20 cs20 hp20 hrr20 => ?_)
    have hr20 := Rp.rel.mono hrr20 hg
    obtain ⟨la1_20, lc1_20, rfl, ho0_20, ha1_20⟩ := LeafRp.sh hr20
    refine .quiet (.g rfl rfl) rfl (fun _ => .fieldAddr F.fld49x0 rfl) <| .quiet (.g rfl rfl) rfl (fun _ => .loadAt F.flat9 rfl hp20 rfl) ?_
    refine .quiet (.g rfl rfl) rfl (fun _ => .lenS rfl Tryz.underlying9 rfl) <| .quiet (.g rfl rfl) rfl (fun _ => .gtr rfl rfl) <| OD.sF 24 rfl (by exact decide_eq_false (by rw [str_size]; omega)) ?_
    refine OD.q 3 rfl <| .quiet (.g rfl rfl) rfl (fun _ => .gtr rfl rfl) <| OD.sF 28 rfl (by exact decide_eq_false (by omega)) ?_
    refine OD.q 18 rfl <| OD.ib (.g rfl rfl) Tryz.underlying22 F.size49 rfl rfl rfl har hg (h := fun p47 cs47 hp47 hrr47 => ?_)
    have hr47 := Rp.rel.mono hrr47 hg
    obtain ⟨la1_47, lc1_47, rfl, ho0_47, ha1_47⟩ := LeafRp.sh hr47
    refine .quiet (.g rfl rfl) rfl (fun _ => .fieldAddr F.fld49x1 rfl) <| .quiet (.g rfl rfl) rfl (fun _ => .loadAt F.flat47 rfl (hp47.drop 1) rfl) ?_
    refine .quiet (.g rfl rfl) rfl (fun _ => .len rfl Tryz.underlying47 rfl) <| .quiet (.g rfl rfl) rfl (fun _ => .eql rfl rfl) <| OD.sF 51 rfl (by exact decide_eq_false (by omega)) ?_
    refine OD.q 4 rfl <| OD.ib (.g rfl rfl) Tryz.underlying22 F.size49 rfl rfl rfl har hg (h := fun p56 cs56 hp56 hrr56 => ?_)
    have hr56 := Rp.rel.mono hrr56 hg
    obtain ⟨la1_56, lc1_56, rfl, ho0_56, ha1_56⟩ := LeafRp.sh hr56
    refine .quiet (.g rfl rfl) rfl (fun _ => .fieldAddr F.fld49x1 rfl) <| .quiet (.g rfl rfl) rfl (fun _ => .loadAt F.flat47 rfl (hp56.drop 1) rfl) ?_
    refine OD.call0 (.g rfl rfl) (by kernel_rfl) rfl F.ok46 rfl rfl ((r9right_c ha1_56)) ?_
    rintro v59 _ ⟨rfl, rfl⟩
    try simp only [zx1, zx2, zx3]
    refine OD.sT 59 rfl (by exact decide_eq_true c3) ?_
    refine .quiet (.g rfl rfl) rfl (fun _ => .not rfl) <| OD.q 4 rfl <| OD.ib (.g rfl rfl) Tryz.underlying22 F.size49 rfl rfl rfl har hg (h := fun p65 cs65 hp65 hrr65 => ?_)
    have hr65 := Rp.rel.mono hrr65 hg
    obtain ⟨la1_65, lc1_65, rfl, ho0_65, ha1_65⟩ := LeafRp.sh hr65
    refine .quiet (.g rfl rfl) rfl (fun _ => .fieldAddr F.fld49x1 rfl) <| .quiet (.g rfl rfl) rfl (fun _ => .loadAt F.flat47 rfl (hp65.drop 1) rfl) ?_
    refine OD.ia (.g rfl rfl) Tryz.underlying47 F.size74 rfl rfl (show _ = (((0) : Nat) : Int) by omega) (ha1_65) (h := fun p68 cs68 hp68 hr68 => ?_)
    obtain ⟨ra3_68, ra5_68, ra6_68, rc3_68, rc5_68, rc6_68, rfl, ho0_68, ho1_68, ho2_68, ha3_68, ha5_68, ha6_68⟩ := RecRp.sh hr68
    refine .quiet (.g rfl rfl) rfl (fun _ => .fieldAddr F.fld74x0 rfl) <| .quiet (.g rfl rfl) rfl (fun _ => .loadAt F.flat9 rfl hp68 rfl) ?_
    refine OD.q 2 rfl <| OD.ib (.g rfl rfl) Tryz.underlying22 F.size49 rfl rfl rfl har hg (h := fun p73 cs73 hp73 hrr73 => ?_)
    have hr73 := Rp.rel.mono hrr73 hg
    obtain ⟨la1_73, lc1_73, rfl, ho0_73, ha1_73⟩ := LeafRp.sh hr73
    refine .quiet (.g rfl rfl) rfl (fun _ => .fieldAddr F.fld49x0 rfl) <| .quiet (.g rfl rfl) rfl (fun _ => .loadAt F.flat9 rfl hp73 rfl) ?_
    refine .quiet (.g rfl rfl) rfl (fun _ => .neqS rfl rfl) <| OD.sT 76 rfl (by exact decide_eq_true (fun q => n4 ⟨by omega, str_eqL q⟩)) ?_
    refine OD.q 1 rfl <| ODx.nil <| S.condT rfl <| S.seq <| S.region rfl <| O.q 1 rfl <| O.nil ?_
    exact S.rt Tryz.results68 rfl hR ⟨congrArg _ (hno (if_neg fun q => n4 (q.2.2.1))).symm, rfl⟩
   have c4 := Classical.not_not.1 n4
   refine S.skip <| S.seq <| S.block <| S.seq <| S.regionD (L := [0, 1, 2, 3, 4, 5, 6, 7, 8, 9, 10, 11, 12, 13, 14, 15, 16, 17, 18, 19, 20, 21, 22, 23, 24, 25, 26, 27, 28, 29, 30, 31, 32, 33, 34, 35, 36, 37, 38, 39, 40, 41, 42, 43, 44, 45, 46, 47, 48, 49, 50, 51, 52, 53, 54, 55, 56, 57, 58, 59, 60, 61, 62, 63, 64, 65, 66, 67]) F.mixed (by kernel_rfl) <| OD.q 2 rfl <| OD.ib (.p rfl) Tryz.underlying22 F.size49 rfl rfl rfl har hg (h := fun p12 cs12 hp12 hrr12 => ?_)
   have hr12 := Rp.rel.mono hrr12 hg
   obtain ⟨la1_12, lc1_12, rfl, ho0_12, ha1_12⟩ := LeafRp.sh hr12
   refine .quiet (.p rfl) rfl (fun _ => .fieldAddr F.fld49x0 rfl) <| .quiet (.p rfl) rfl (fun _ => .loadAt F.flat9 rfl hp12 rfl) ?_
   refine .quiet (.p rfl) rfl (fun _ => .lenS rfl Tryz.underlying9 rfl) <| .quiet (.p rfl) rfl (fun _ => .lss rfl rfl) <| OD.sF 16 rfl (by exact decide_eq_false (by rw [str_size]; omega)) ?_
   refine OD.q 3 rfl <| OD.ib (.g rfl rfl) Tryz.underlying22 F.size49 rfl rfl rfl har hg (h := fun p20 cs20 hp20 hrr20 => ?_)
   have hr20 := Rp.rel.mono hrr20 hg
   obtain ⟨la1_20, lc1_20, rfl, ho0_20, ha1_20⟩ := LeafRp.sh hr20
   refine .quiet (.g rfl rfl) rfl (fun _ => .fieldAddr F.fld49x0 rfl) <| .quiet (.g rfl rfl) rfl (fun _ => .loadAt F.flat9 rfl hp20 rfl) ?_
   refine .quiet (.g rfl rfl) rfl (fun _ => .lenS rfl Tryz.underlying9 rfl) <| .quiet (.g rfl rfl) rfl (fun _ => .gtr rfl rfl) <| OD.sF 24 rfl (by exact decide_eq_false (by rw [str_size]; omega)) ?_
   refine OD.q 3 rfl <| .quiet (.g rfl rfl) rfl (fun _ => .gtr rfl rfl) <| OD.sF 28 rfl (by exact decide_eq_false (by omega)) ?_
   refine OD.q 18 rfl <| OD.ib (.g rfl rfl) Tryz.underlying22 F.size49 rfl rfl rfl har hg (h := fun p47 cs47 hp47 hrr47 => ?_)
   have hr47 := Rp.rel.mono hrr47 hg
   obtain ⟨la1_47, lc1_47, rfl, ho0_47, ha1_47⟩ := LeafRp.sh hr47
   refine .quiet (.g rfl rfl) rfl (fun _ => .fieldAddr F.fld49x1 rfl) <| .quiet (.g rfl rfl) rfl (fun _ => .loadAt F.flat47 rfl (hp47.drop 1) rfl) ?_
   refine .quiet (.g rfl rfl) rfl (fun _ => .len rfl Tryz.underlying47 rfl) <| .quiet (.g rfl rfl) rfl (fun _ => .eql rfl rfl) <| OD.sF 51 rfl (by exact decide_eq_false (by omega)) ?_
   refine OD.q 4 rfl <| OD.ib (.g rfl rfl) Tryz.underlying22 F.size49 rfl rfl rfl har hg (h := fun p56 cs56 hp56 hrr56 => ?_)
   have hr56 := Rp.rel.mono hrr56 hg
   obtain ⟨la1_56, lc1_56, rfl, ho0_56, ha1_56⟩ := LeafRp.sh hr56
   refine .quiet (.g rfl rfl) rfl (fun _ => .fieldAddr F.fld49x1 rfl) <| .quiet (.g rfl rfl) rfl (fun _ => .loadAt F.flat47 rfl (hp56.drop 1) rfl) ?_
   refine OD.call0 (.g rfl rfl) (by kernel_rfl) rfl F.ok46 rfl rfl ((r9right_c ha1_56)) ?_
   rintro v59 _ ⟨rfl, rfl⟩
   try simp only [zx1, zx2, zx3]
   refine OD.sT 59 rfl (by exact decide_eq_true c3) ?_
   refine .quiet (.g rfl rfl) rfl (fun _ => .not rfl) <| OD.q 4 rfl <| OD.ib (.g rfl rfl) Tryz.underlying22 F.size49 rfl rfl rfl har hg (h := fun p65 cs65 hp65 hrr65 => ?_)
   have hr65 := Rp.rel.mono hrr65 hg
   obtain ⟨la1_65, lc1_65, rfl, ho0_65, ha1_65⟩ := LeafRp.sh hr65
   refine .quiet (.g rfl rfl) rfl (fun _ => .fieldAddr F.fld49x1 rfl) <| .quiet (.g rfl rfl) rfl (fun _ => .loadAt F.flat47 rfl (hp65.drop 1) rfl) ?_
   refine OD.ia (.g rfl rfl) Tryz.underlying47 F.size74 rfl rfl (show _ = (((0) : Nat) : Int) by omega) (ha1_65) (h := fun p68 cs68 hp68 hr68 => ?_)
   obtain ⟨ra3_68, ra5_68, ra6_68, rc3_68, rc5_68, rc6_68, rfl, ho0_68, ho1_68, ho2_68, ha3_68, ha5_68, ha6_68⟩ := RecRp.sh hr68
   refine .quiet (.g rfl rfl) rfl (fun _ => .fieldAddr F.fld74x0 rfl) <| .quiet (.g rfl rfl) rfl (fun _ => .loadAt F.flat9 rfl hp68 rfl) ?_
   refine OD.q 2 rfl <| OD.ib (.g rfl rfl) Tryz.underlying22 F.size49 rfl rfl rfl har hg (h := fun p73 cs73 hp73 hrr73 => ?_)
   have hr73 := Rp.rel.mono hrr73 hg
   obtain ⟨la1_73, lc1_73, rfl, ho0_73, ha1_73⟩ := LeafRp.sh hr73
   refine .quiet (.g rfl rfl) rfl (fun _ => .fieldAddr F.fld49x0 rfl) <| .quiet (.g rfl rfl) rfl (fun _ => .loadAt F.flat9 rfl hp73 rfl) ?_
   refine .quiet (.g rfl rfl) rfl (fun _ => .neqS rfl rfl) <| OD.sF 76 rfl (by exact decide_eq_false (not_not_intro (by obtain ⟨_, e5⟩ := c4; rw [e5]))) ?_
   refine OD.q 1 rfl <| ODx.nil <| S.condF rfl <| S.skip <| S.inBlock <| S.region rfl <| O.q 1 rfl <| O.op (.p rfl) (.add rfl rfl (IntWalk.i64_in _ (by omega))) <| O.q 1 rfl <| O.nil ?_
   exact S.wk (ih (i + 1) (by exact ⟨by omega, hst (if_pos ⟨nil_lt.2 c0, c1, c4, c3⟩), lt_step hpos fun _ => trivial⟩) (by omega))
  ·have hi1 : i - 1 < l.length := by omega
   have hlast : lastBy (fun x : LeafT => x.1) ([] : List UInt8) l i = (fun x : LeafT => x.1) l[i - 1] := lastBy_pos _ _ _ (by omega) hi1
   rw [hlast] at hst hno
   by_cases n0 : ¬ (1 ≤ l[i].1.length)
   ·
    refine S.skip <| S.seq <| S.block <| S.seq <| S.regionD (L := [0, 1, 2, 3, 4, 5, 6, 7, 8, 9, 10, 11, 12, 13, 14, 15, 16, 17, 18, 19, 20, 21, 22, 23, 24, 25, 26, 27, 28, 29, 30, 31, 32, 33, 34, 35, 36, 37, 38, 39, 40, 41, 42, 43, 44, 45, 46, 47, 48, 49, 50, 51, 52, 53, 54, 55, 56, 57, 58, 59, 60, 61, 62, 63, 64, 65, 66, 67]) F.mixed (by kernel_rfl) <| OD.q 2 rfl <| OD.ib (.p rfl) Tryz.underlying22 F.size49 rfl rfl rfl har hg (h := fun p12 cs12 hp12 hrr12 => ?_)
    have hr12 := Rp.rel.mono hrr12 hg
    obtain ⟨la1_12, lc1_12, rfl, ho0_12, ha1_12⟩ := LeafRp.sh hr12
    refine .quiet (.p rfl) rfl (fun _ => .fieldAddr F.fld49x0 rfl) <| .quiet (.p rfl) rfl (fun _ => .loadAt F.flat9 rfl hp12 rfl) ?_
    refine .quiet (.p rfl) rfl (fun _ => .lenS rfl Tryz.underlying9 rfl) <| .quiet (.p rfl) rfl (fun _ => .lss rfl rfl) <| OD.sT 16 rfl (by exact decide_eq_true (by rw [str_size]; omega)) ?_
    refine OD.q 61 rfl <| ODx.nil <| S.condT rfl <| S.seq <| S.region rfl <| O.q 1 rfl <| O.nil ?_
    exact S.rt Tryz.results68 rfl hR ⟨congrArg _ (hno (if_neg fun q => n0 (lt_pos q.1))).symm, rfl⟩
   have c0 := Classical.not_not.1 n0
   by_cases n1 : ¬ (l[i].1.length ≤ 64)
   ·
    refine S.skip <| S.seq <| S.block <| S.seq <| S.regionD (L := [0, 1, 2, 3, 4, 5, 6, 7, 8, 9, 10, 11, 12, 13, 14, 15, 16, 17, 18, 19, 20, 21, 22, 23, 24, 25, 26, 27, 28, 29, 30, 31, 32, 33, 34, 35, 36, 37, 38, 39, 40, 41, 42, 43, 44, 45, 46, 47, 48, 49, 50, 51, 52, 53, 54, 55, 56, 57, 58, 59, 60, 61, 62, 63, 64, 65, 66, 67]) F.mixed (by kernel_rfl) <| OD.q 2 rfl <| OD.ib (.p rfl) Tryz.underlying22 F.size49 rfl rfl rfl har hg (h := fun p12 cs12 hp12 hrr12 => ?_)
    have hr12 := Rp.rel.mono hrr12 hg
    obtain ⟨la1_12, lc1_12, rfl, ho0_12, ha1_12⟩ := LeafRp.sh hr12
    refine .quiet (.p rfl) rfl (fun _ => .fieldAddr F.fld49x0 rfl) <| .quiet (.p rfl) rfl (fun _ => .loadAt F.flat9 rfl hp12 rfl) ?_
    refine .quiet (.p rfl) rfl (fun _ => .lenS rfl Tryz.underlying9 rfl) <| .quiet (.p rfl) rfl (fun _ => .lss rfl rfl) <| OD.sF 16 rfl (by exact decide_eq_false (by rw [str_size]; omega)) ?_
    refine OD.q 3 rfl <| OD.ib (.g rfl rfl) Tryz.underlying22 F.size49 rfl rfl rfl har hg (h := fun p20 cs20 hp20 hrr20 => ?_)
    have hr20 := Rp.rel.mono hrr20 hg
    obtain ⟨la1_20, lc1_20, rfl, ho0_20, ha1_20⟩ := LeafRp.sh hr20
    refine .quiet (.g rfl rfl) rfl (fun _ => .fieldAddr F.fld49x0 rfl) <| .quiet (.g rfl rfl) rfl (fun _ => .loadAt F.flat9 rfl hp20 rfl) ?_
    refine .quiet (.g rfl rfl) rfl (fun _ => .lenS rfl Tryz.underlying9 rfl) <| .quiet (.g rfl rfl) rfl (fun _ => .gtr rfl rfl) <| OD.sT 24 rfl (by exact decide_eq_true (by rw [str_size]; omega)) ?_
    refine OD.q 53 rfl <| ODx.nil <| S.condT rfl <| S.seq <| S.region rfl <| O.q 1 rfl <| O.nil ?_
    exact S.rt Tryz.results68 rfl hR ⟨congrArg _ (hno (if_neg fun q => n1 (q.2.1))).symm, rfl⟩
   have c1 := Classical.not_not.1 n1
   by_cases n2 : ¬ (l[i - 1].1 < l[i].1)
   ·
    refine S.skip <| S.seq <| S.block <| S.seq <| S.regionD (L := [0, 1, 2, 3, 4, 5, 6, 7, 8, 9, 10, 11, 12, 13, 14, 15, 16, 17, 18, 19, 20, 21, 22, 23, 24, 25, 26, 27, 28, 29, 30, 31, 32, 33, 34, 35, 36, 37, 38, 39, 40, 41, 42, 43, 44, 45, 46, 47, 48, 49, 50, 51, 52, 53, 54, 55, 56, 57, 58, 59, 60, 61, 62, 63, 64, 65, 66, 67]) F.mixed (by kernel_rfl) <| OD.q 2 rfl <| OD.ib (.p rfl) Tryz.underlying22 F.size49 rfl rfl rfl har hg (h := fun p12 cs12 hp12 hrr12 => ?_)
    have hr12 := Rp.rel.mono hrr12 hg
    obtain ⟨la1_12, lc1_12, rfl, ho0_12, ha1_12⟩ := LeafRp.sh hr12
    refine .quiet (.p rfl) rfl (fun _ => .fieldAddr F.fld49x0 rfl) <| .quiet (.p rfl) rfl (fun _ => .loadAt F.flat9 rfl hp12 rfl) ?_
    refine .quiet (.p rfl) rfl (fun _ => .lenS rfl Tryz.underlying9 rfl) <| .quiet (.p rfl) rfl (fun _ => .lss rfl rfl) <| OD.sF 16 rfl (by exact decide_eq_false (by rw [str_size]; omega)) ?_
    refine OD.q 3 rfl <| OD.ib (.g rfl rfl) Tryz.underlying22 F.size49 rfl rfl rfl har hg (h := fun p20 cs20 hp20 hrr20 => ?_)
    have hr20 := Rp.rel.mono hrr20 hg
    obtain ⟨la1_20, lc1_20, rfl, ho0_20, ha1_20⟩ := LeafRp.sh hr20
    refine .quiet (.g rfl rfl) rfl (fun _ => .fieldAddr F.fld49x0 rfl) <| .quiet (.g rfl rfl) rfl (fun _ => .loadAt F.flat9 rfl hp20 rfl) ?_
    refine .quiet (.g rfl rfl) rfl (fun _ => .lenS rfl Tryz.underlying9 rfl) <| .quiet (.g rfl rfl) rfl (fun _ => .gtr rfl rfl) <| OD.sF 24 rfl (by exact decide_eq_false (by rw [str_size]; omega)) ?_
    refine OD.q 3 rfl <| .quiet (.g rfl rfl) rfl (fun _ => .gtr rfl rfl) <| OD.sT 28 rfl (by exact decide_eq_true (by omega)) ?_
    refine OD.q 3 rfl <| .quiet (.g rfl rfl) rfl (fun _ => .sub rfl rfl (IntWalk.i64_in _ (by omega))) <| OD.ib (.g rfl rfl) Tryz.underlying22 F.size49 rfl rfl (show _ = (((i - 1) : Nat) : Int) by omega) har hg (h := fun p33 cs33 hp33 hrr33 => ?_)
    have hr33 := Rp.rel.mono hrr33 hg
    obtain ⟨la1_33, lc1_33, rfl, ho0_33, ha1_33⟩ := LeafRp.sh hr33
    refine .quiet (.g rfl rfl) rfl (fun _ => .fieldAddr F.fld49x0 rfl) <| .quiet (.g rfl rfl) rfl (fun _ => .loadAt F.flat9 rfl hp33 rfl) ?_
    refine OD.q 2 rfl <| OD.ib (.g rfl rfl) Tryz.underlying22 F.size49 rfl rfl rfl har hg (h := fun p38 cs38 hp38 hrr38 => ?_)
    have hr38 := Rp.rel.mono hrr38 hg
    obtain ⟨la1_38, lc1_38, rfl, ho0_38, ha1_38⟩ := LeafRp.sh hr38
    refine .quiet (.g rfl rfl) rfl (fun _ => .fieldAddr F.fld49x0 rfl) <| .quiet (.g rfl rfl) rfl (fun _ => .loadAt F.flat9 rfl hp38 rfl) ?_
    refine .quiet (.g rfl rfl) rfl (fun _ => .geqS rfl rfl) <| OD.sT 41 rfl (by rw [geqS_eq]; exact decide_eq_true n2) ?_
    refine OD.q 36 rfl <| ODx.nil <| S.condT rfl <| S.seq <| S.region rfl <| O.q 1 rfl <| O.nil ?_
    exact S.rt Tryz.results68 rfl hR ⟨congrArg _ (hno (if_neg fun q => n2 (q.1))).symm, rfl⟩
   have c2 := Classical.not_not.1 n2
   by_cases n3 : ¬ (0 < l[i].2.1.length)
   ·
    refine S.skip <| S.seq <| S.block <| S.seq <| S.regionD (L := [0, 1, 2, 3, 4, 5, 6, 7, 8, 9, 10, 11, 12, 13, 14, 15, 16, 17, 18, 19, 20, 21, 22, 23, 24, 25, 26, 27, 28, 29, 30, 31, 32, 33, 34, 35, 36, 37, 38, 39, 40, 41, 42, 43, 44, 45, 46, 47, 48, 49, 50, 51, 52, 53, 54, 55, 56, 57, 58, 59, 60, 61, 62, 63, 64, 65, 66, 67]) F.mixed (by kernel_rfl) <| OD.q 2 rfl <| OD.ib (.p rfl) Tryz.underlying22 F.size49 rfl rfl rfl har hg (h := fun p12 cs12 hp12 hrr12 => ?_)
    have hr12 := Rp.rel.mono hrr12 hg
    obtain ⟨la1_12, lc1_12, rfl, ho0_12, ha1_12⟩ := LeafRp.sh hr12
    refine .quiet (.p rfl) rfl (fun _ => .fieldAddr F.fld49x0 rfl) <| .quiet (.p rfl) rfl (fun _ => .loadAt F.flat9 rfl hp12 rfl) ?_
    refine .quiet (.p rfl) rfl (fun _ => .lenS rfl Tryz.underlying9 rfl) <| .quiet (.p rfl) rfl (fun _ => .lss rfl rfl) <| OD.sF 16 rfl (by exact decide_eq_false (by rw [str_size]; omega)) ?_
    refine OD.q 3 rfl <| OD.ib (.g rfl rfl) Tryz.underlying22 F.size49 rfl rfl rfl har hg (h := fun p20 cs20 hp20 hrr20 => ?_)
    have hr20 := Rp.rel.mono hrr20 hg
    obtain ⟨la1_20, lc1_20, rfl, ho0_20, ha1_20⟩ := LeafRp.sh hr20
    refine .quiet (.g rfl rfl) rfl (fun _ => .fieldAddr F.fld49x0 rfl) <| .quiet (.g rfl rfl) rfl (fun _ => .loadAt F.flat9 rfl hp20 rfl) ?_
    refine .quiet (.g rfl rfl) rfl (fun _ => .lenS rfl Tryz.underlying9 rfl) <| .quiet (.g rfl rfl) rfl (fun _ => .gtr rfl rfl) <| OD.sF 24 rfl (by exact decide_eq_false (by rw [str_size]; omega)) ?_
    refine OD.q 3 rfl <| .quiet (.g rfl rfl) rfl (fun _ => .gtr rfl rfl) <| OD.sT 28 rfl (by exact decide_eq_true (by omega)) ?_
    refine OD.q 3 rfl <| .quiet (.g rfl rfl) rfl (fun _ => .sub rfl rfl (IntWalk.i64_in _ (by omega))) <| OD.ib (.g rfl rfl) Tryz.underlying22 F.size49 rfl rfl (show _ = (((i - 1) : Nat) : Int) by omega) har hg (h := fun p33 cs33 hp33 hrr33 => ?_)
    have hr33 := Rp.rel.mono hrr33 hg
    obtain ⟨la1_33, lc1_33, rfl, ho0_33, ha1_33⟩ := LeafRp.sh hr33
    refine .quiet (.g rfl rfl) rfl (fun _ => .fieldAddr F.fld49x0 rfl) <| .quiet (.g rfl rfl) rfl (fun _ => .loadAt F.flat9 rfl hp33 rfl) ?_
    refine OD.q 2 rfl <| OD.ib (.g rfl rfl) Tryz.underlying22 F.size49 rfl rfl rfl har hg (h := fun p38 cs38 hp38 hrr38 => ?_)
    have hr38 := Rp.rel.mono hrr38 hg
    obtain ⟨la1_38, lc1_38, rfl, ho0_38, ha1_38⟩ := LeafRp.sh hr38
    refine .quiet (.g rfl rfl) rfl (fun _ => .fieldAddr F.fld49x0 rfl) <| .quiet (.g rfl rfl) rfl (fun _ => .loadAt F.flat9 rfl hp38 rfl) ?_
    refine .quiet (.g rfl rfl) rfl (fun _ => .geqS rfl rfl) <| OD.sF 41 rfl (by rw [geqS_eq]; exact decide_eq_false (not_not_intro c2)) ?_
    refine OD.q 5 rfl <| OD.ib (.g rfl rfl) Tryz.underlying22 F.size49 rfl rfl rfl har hg (h := fun p47 cs47 hp47 hrr47 => ?_)
    have hr47 := Rp.rel.mono hrr47 hg
    obtain ⟨la1_47, lc1_47, rfl, ho0_47, ha1_47⟩ := LeafRp.sh hr47
    refine .quiet (.g rfl rfl) rfl (fun _ => .fieldAddr F.fld49x1 rfl) <| .quiet (.g rfl rfl) rfl (fun _ => .loadAt F.flat47 rfl (hp47.drop 1) rfl) ?_
    refine .quiet (.g rfl rfl) rfl (fun _ => .len rfl Tryz.underlying47 rfl) <| .quiet (.g rfl rfl) rfl (fun _ => .eql rfl rfl) <| OD.sT 51 rfl (by exact decide_eq_true (by omega)) ?_
    refine OD.q 26 rfl <| ODx.nil <| S.condT rfl <| S.seq <| S.region rfl <| O.q 1 rfl <| O.nil ?_
    exact S.rt Tryz.results68 rfl hR ⟨congrArg _ (hno (if_neg fun q => n3 (q.2.2.1.choose))).symm, rfl⟩
   have c3 := Classical.not_not.1 n3
   by_cases n4 : ¬ (SRight l[i].2.1)
   ·
    refine S.skip <| S.seq <| S.block <| S.seq <| S.regionD (L := [0, 1, 2, 3, 4, 5, 6, 7, 8, 9, 10, 11, 12, 13, 14, 15, 16, 17, 18, 19, 20, 21, 22, 23, 24, 25, 26, 27, 28, 29, 30, 31, 32, 33, 34, 35, 36, 37, 38, 39, 40, 41, 42, 43, 44, 45, 46, 47, 48, 49, 50, 51, 52, 53, 54, 55, 56, 57, 58, 59, 60, 61, 62, 63, 64, 65, 66, 67]) F.mixed (by kernel_rfl) <| OD.q 2 rfl <| OD.ib (.p rfl) Tryz.underlying22 F.size49 rfl rfl rfl har hg (h := fun p12 cs12 hp12 hrr12 => ?_)
    have hr12 := Rp.rel.mono hrr12 hg
    obtain ⟨la1_12, lc1_12, rfl, ho0_12, ha1_12⟩ := LeafRp.sh hr12
    refine .quiet (.p rfl) rfl (fun _ => .fieldAddr F.fld49x0 rfl) <| .quiet (.p rfl) rfl (fun _ => .loadAt F.flat9 rfl hp12 rfl) ?_
    refine .quiet (.p rfl) rfl (fun _ => .lenS rfl Tryz.underlying9 rfl) <| .quiet (.p rfl) rfl (fun _ => .lss rfl rfl) <| OD.sF 16 rfl (by exact decide_eq_false (by rw [str_size]; omega)) ?_
    refine OD.q 3 rfl <| OD.ib (.g rfl rfl) Tryz.underlying22 F.size49 rfl rfl rfl har hg (h := fun p20 cs20 hp20 hrr20 => ?_)
    have hr20 := Rp.rel.mono hrr20 hg
    obtain ⟨la1_20, lc1_20, rfl, ho0_20, ha1_20⟩ := LeafRp.sh hr20
    refine .quiet (.g rfl rfl) rfl (fun _ => .fieldAddr F.fld49x0 rfl) <| .quiet (.g rfl rfl) rfl (fun _ => .loadAt F.flat9 rfl hp20 rfl) ?_
    refine .quiet (.g rfl rfl) rfl (fun _ => .lenS rfl Tryz.underlying9 rfl) <| .quiet (.g rfl rfl) rfl (fun _ => .gtr rfl rfl) <| OD.sF 24 rfl (by exact decide_eq_false (by rw [str_size]; omega)) ?_
    refine OD.q 3 rfl <| .quiet (.g rfl rfl) rfl (fun _ => .gtr rfl rfl) <| OD.sT 28 rfl (by exact decide_eq_true (by omega)) ?_
    refine OD.q 3 rfl <| .quiet (.g rfl rfl) rfl (fun _ => .sub rfl rfl (IntWalk.i64_in _ (by omega))) <| OD.ib (.g rfl rfl) Tryz.underlying22 F.size49 rfl rfl (show _ = (((i - 1) : Nat) : Int) by omega) har hg (h := fun p33 cs33 hp33 hrr33 => ?_)
    have hr33 := Rp.rel.mono hrr33 hg
    obtain ⟨la1_33, lc1_33, rfl, ho0_33, ha1_33⟩ := LeafRp.sh hr33
    refine .quiet (.g rfl rfl) rfl (fun _ => .fieldAddr F.fld49x0 rfl) <| .quiet (.g rfl rfl) rfl (fun _ => .loadAt F.flat9 rfl hp33 rfl) ?_
    refine OD.q 2 rfl <| OD.ib (.g rfl rfl) Tryz.underlying22 F.size49 rfl rfl rfl har hg (h := fun p38 cs38 hp38 hrr38 => ?_)
    have hr38 := Rp.rel.mono hrr38 hg
    obtain ⟨la1_38, lc1_38, rfl, ho0_38, ha1_38⟩ := LeafRp.sh hr38
    refine .quiet (.g rfl rfl) rfl (fun _ => .fieldAddr F.fld49x0 rfl) <| .quiet (.g rfl rfl) rfl (fun _ => .loadAt F.flat9 rfl hp38 rfl) ?_
    refine .quiet (.g rfl rfl) rfl (fun _ => .geqS rfl rfl) <| OD.sF 41 rfl (by rw [geqS_eq]; exact decide_eq_false (not_not_intro c2)) ?_
    refine OD.q 5 rfl <| OD.ib (.g rfl rfl) Tryz.underlying22 F.size49 rfl rfl rfl har hg (h := fun p47 cs47 hp47 hrr47 => ?_)
    have hr47 := Rp.rel.mono hrr47 hg
    obtain ⟨la1_47, lc1_47, rfl, ho0_47, ha1_47⟩ := LeafRp.sh hr47
    refine .quiet (.g rfl rfl) rfl (fun _ => .fieldAddr F.fld49x1 rfl) <| .quiet (.g rfl rfl) rfl (fun _ => .loadAt F.flat47 rfl (hp47.drop 1) rfl) ?_
    refine .quiet (.g rfl rfl) rfl (fun _ => .len rfl Tryz.underlying47 rfl) <| .quiet (.g rfl rfl) rfl (fun _ => .eql rfl rfl) <| OD.sF 51 rfl (by exact decide_eq_false (by omega)) ?_
    refine OD.q 4 rfl <| OD.ib (.g rfl rfl) Tryz.underlying22 F.size49 rfl rfl rfl har hg (h := fun p56 cs56 hp56 hrr56 => ?_)
    have hr56 := Rp.rel.mono hrr56 hg
    obtain ⟨la1_56, lc1_56, rfl, ho0_56, ha1_56⟩ := LeafRp.sh hr56
    refine .quiet (.g rfl rfl) rfl (fun _ => .fieldAddr F.fld49x1 rfl) <| .quiet (.g rfl rfl) rfl (fun _ => .loadAt F.flat47 rfl (hp56.drop 1) rfl) ?_
    refine OD.call0 (.g rfl rfl) (by kernel_rfl) rfl F.ok46 rfl rfl ((r9right_c ha1_56)) ?_
    rintro v59 _ ⟨rfl, rfl⟩
    try simp only [zx1, zx2, zx3]
    refine OD.sF 59 rfl (by exact decide_eq_false n4) ?_
    refine .quiet (.g rfl rfl) rfl (fun _ => .not rfl) <| OD.q 17 rfl <| ODx.nil <| S.condT rfl <| S.seq <| S.region rfl <| O.q 1 rfl <| O.nil ?_
    exact S.rt Tryz.results68 rfl hR ⟨congrArg _ (hno (if_neg fun q => n4 (q.2.2.2))).symm, rfl⟩
   have c4 := Classical.not_not.1 n4
   by_cases n5 : ¬ (∃ h : 0 < l[i].2.1.length, l[i].2.1[0].1 = l[i].1)
   ·
    refine S.skip <| S.seq <| S.block <| S.seq <| S.regionD (L := [0, 1, 2, 3, 4, 5, 6, 7, 8, 9, 10, 11, 12, 13, 14, 15, 16, 17, 18, 19, 20, 21, 22, 23, 24, 25, 26, 27, 28, 29, 30, 31, 32, 33, 34, 35, 36, 37, 38, 39, 40, 41, 42, 43, 44, 45, 46, 47, 48, 49, 50, 51, 52, 53, 54, 55, 56, 57, 58, 59, 60, 61, 62, 63, 64, 65, 66, 67]) F.mixed (by kernel_rfl) <| OD.q 2 rfl <| OD.ib (.p rfl) Tryz.underlying22 F.size49 rfl rfl rfl har hg (h := fun p12 cs12 hp12 hrr12 => ?_)
    have hr12 := Rp.rel.mono hrr12 hg
    obtain ⟨la1_12, lc1_12, rfl, ho0_12, ha1_12⟩ := LeafRp.sh hr12
    refine .quiet (.p rfl) rfl (fun _ => .fieldAddr F.fld49x0 rfl) <| .quiet (.p rfl) rfl (fun _ => .loadAt F.flat9 rfl hp12 rfl) ?_
    refine .quiet (.p rfl) rfl (fun _ => .lenS rfl Tryz.underlying9 rfl) <| .quiet (.p rfl) rfl (fun _ => .lss rfl rfl) <| OD.sF 16 rfl (by exact decide_eq_false (by rw [str_size]; omega)) ?_
    refine OD.q 3 rfl <| OD.ib (.g rfl rfl) Tryz.underlying22 F.size49 rfl rfl rfl har hg (h := fun p20 cs20 hp20 hrr20 => ?_)
    have hr20 := Rp.rel.mono hrr20 hg
    obtain ⟨la1_20, lc1_20, rfl, ho0_20, ha1_20⟩ := LeafRp.sh hr20
    refine .quiet (.g rfl rfl) rfl (fun _ => .fieldAddr F.fld49x0 rfl) <| .quiet (.g rfl rfl) rfl (fun _ => .loadAt F.flat9 rfl hp20 rfl) ?_
    refine .quiet (.g rfl rfl) rfl (fun _ => .lenS rfl Tryz.underlying9 rfl) <| .quiet (.g rfl rfl) rfl (fun _ => .gtr rfl rfl) <| OD.sF 24 rfl (by exact decide_eq_false (by rw [str_size]; omega)) ?_
    refine OD.q 3 rfl <| .quiet (.g rfl rfl) rfl (fun _ => .gtr rfl rfl) <| OD.sT 28 rfl (by exact decide_eq_true (by omega)) ?_
    refine OD.q 3 rfl <| .quiet (.g rfl rfl) rfl (fun _ => .sub rfl rfl (IntWalk.i64_in _ (by omega))) <| OD.ib (.g rfl rfl) Tryz.underlying22 F.size49 rfl rfl (show _ = (((i - 1) : Nat) : Int) by omega) har hg (h := fun p33 cs33 hp33 hrr33 => ?_)
    have hr33 := Rp.rel.mono hrr33 hg
    obtain ⟨la1_33, lc1_33, rfl, ho0_33, ha1_33⟩ := LeafRp.sh hr33
    refine .quiet (.g rfl rfl) rfl (fun _ => .fieldAddr F.fld49x0 rfl) <| .quiet (.g rfl rfl) rfl (fun _ => .loadAt F.flat9 rfl hp33 rfl) ?_
    refine OD.q 2 rfl <| OD.ib (.g rfl rfl) Tryz.underlying22 F.size49 rfl rfl rfl har hg (h := fun p38 cs38 hp38 hrr38 => ?_)
    have hr38 := Rp.rel.mono hrr38 hg
    obtain ⟨la1_38, lc1_38, rfl, ho0_38, ha1_38⟩ := LeafRp.sh hr38
    refine .quiet (.g rfl rfl) rfl (fun _ => .fieldAddr F.fld49x0 rfl) <| .quiet (.g rfl rfl) rfl (fun _ => .loadAt F.flat9 rfl hp38 rfl) ?_
    refine .quiet (.g rfl rfl) rfl (fun _ => .geqS rfl rfl) <| OD.sF 41 rfl (by rw [geqS_eq]; exact decide_eq_false (not_not_intro c2)) ?_
    refine OD.q 5 rfl <| OD.ib (.g rfl rfl) Tryz.underlying22 F.size49 rfl rfl rfl har hg (h := fun p47 cs47 hp47 hrr47 => ?_)
    have hr47 := Rp.rel.mono hrr47 hg
    obtain ⟨la1_47, lc1_47, rfl, ho0_47, ha1_47⟩ := LeafRp.sh hr47
    refine .quiet (.g rfl rfl) rfl (fun _ => .fieldAddr F.fld49x1 rfl) <| .quiet (.g rfl rfl) rfl (fun _ => .loadAt F.flat47 rfl (hp47.drop 1) rfl) ?_
    refine .quiet (.g rfl rfl) rfl (fun _ => .len rfl Tryz.underlying47 rfl) <| .quiet (.g rfl rfl) rfl (fun _ => .eql rfl rfl) <| OD.sF 51 rfl (by exact decide_eq_false (by omega)) ?_
    refine OD.q 4 rfl <| OD.ib (.g rfl rfl) Tryz.underlying22 F.size49 rfl rfl rfl har hg (h := fun p56 cs56 hp56 hrr56 => ?_)
    have hr56 := Rp.rel.mono hrr56 hg
    obtain ⟨la1_56, lc1_56, rfl, ho0_56, ha1_56⟩ := LeafRp.sh hr56
    refine .quiet (.g rfl rfl) rfl (fun _ => .fieldAddr F.fld49x1 rfl) <| .quiet (.g rfl rfl) rfl (fun _ => .loadAt F.flat47 rfl (hp56.drop 1) rfl) ?_
    refine OD.call0 (.g rfl rfl) (by kernel_rfl) rfl F.ok46 rfl rfl ((r9right_c ha1_56)) ?_
    rintro v59 _ ⟨rfl, rfl⟩
    try simp only [zx1, zx2, zx3]
    refine OD.sT 59 rfl (by exact decide_eq_true c4) ?_
    refine .quiet (.g rfl rfl) rfl (fun _ => .not rfl) <| OD.q 4 rfl <| OD.ib (.g rfl rfl) Tryz.underlying22 F.size49 rfl rfl rfl har hg (h := fun p65 cs65 hp65 hrr65 => ?_)
    have hr65 := Rp.rel.mono hrr65 hg
    obtain ⟨la1_65, lc1_65, rfl, ho0_65, ha1_65⟩ := LeafRp.sh hr65
    refine .quiet (.g rfl rfl) rfl (fun _ => .fieldAddr F.fld49x1 rfl) <| .quiet (.g rfl rfl) rfl (fun _ => .loadAt F.flat47 rfl (hp65.drop 1) rfl) ?_
    refine OD.ia (.g rfl rfl) Tryz.underlying47 F.size74 rfl rfl (show _ = (((0) : Nat) : Int) by omega) (ha1_65) (h := fun p68 cs68 hp68 hr68 => ?_)
    obtain ⟨ra3_68, ra5_68, ra6_68, rc3_68, rc5_68, rc6_68, rfl, ho0_68, ho1_68, ho2_68, ha3_68, ha5_68, ha6_68⟩ := RecRp.sh hr68
    refine .quiet (.g rfl rfl) rfl (fun _ => .fieldAddr F.fld74x0 rfl) <| .quiet (.g rfl rfl) rfl (fun _ => .loadAt F.flat9 rfl hp68 rfl) ?_
    refine OD.q 2 rfl <| OD.ib (.g rfl rfl) Tryz.underlying22 F.size49 rfl rfl rfl har hg (h := fun p73 cs73 hp73 hrr73 => ?_)
    have hr73 := Rp.rel.mono hrr73 hg
    obtain ⟨la1_73, lc1_73, rfl, ho0_73, ha1_73⟩ := LeafRp.sh hr73
    refine .quiet (.g rfl rfl) rfl (fun _ => .fieldAddr F.fld49x0 rfl) <| .quiet (.g rfl rfl) rfl (fun _ => .loadAt F.flat9 rfl hp73 rfl) ?_
    refine .quiet (.g rfl rfl) rfl (fun _ => .neqS rfl rfl) <| OD.sT 76 rfl (by exact decide_eq_true (fun q => n5 ⟨by omega, str_eqL q⟩)) ?_
    refine OD.q 1 rfl <| ODx.nil <| S.condT rfl <| S.seq <| S.region rfl <| O.q 1 rfl <| O.nil ?_
    exact S.rt Tryz.results68 rfl hR ⟨congrArg _ (hno (if_neg fun q => n5 (q.2.2.1))).symm, rfl⟩
   have c5 := Classical.not_not.1 n5
   refine S.skip <| S.seq <| S.block <| S.seq <| S.regionD (L := [0, 1, 2, 3, 4, 5, 6, 7, 8, 9, 10, 11, 12, 13, 14, 15, 16, 17, 18, 19, 20, 21, 22, 23, 24, 25, 26, 27, 28, 29, 30, 31, 32, 33, 34, 35, 36, 37, 38, 39, 40, 41, 42, 43, 44, 45, 46, 47, 48, 49, 50, 51, 52, 53, 54, 55, 56, 57, 58, 59, 60, 61, 62, 63, 64, 65, 66, 67]) F.mixed (by kernel_rfl) <| OD.q 2 rfl <| OD.ib (.p rfl) Tryz.underlying22 F.size49 rfl rfl rfl har hg (h := fun p12 cs12 hp12 hrr12 => ?_)
   have hr12 := Rp.rel.mono hrr12 hg
   obtain ⟨la1_12, lc1_12, rfl, ho0_12, ha1_12⟩ := LeafRp.sh hr12
   refine .quiet (.p rfl) rfl (fun _ => .fieldAddr F.fld49x0 rfl) <| .quiet (.p rfl) rfl (fun _ => .loadAt F.flat9 rfl hp12 rfl) ?_
   refine .quiet (.p rfl) rfl (fun _ => .lenS rfl Tryz.underlying9 rfl) <| .quiet (.p rfl) rfl (fun _ => .lss rfl rfl) <| OD.sF 16 rfl (by exact decide_eq_false (by rw [str_size]; omega)) ?_
   refine OD.q 3 rfl <| OD.ib (.g rfl rfl) Tryz.underlying22 F.size49 rfl rfl rfl har hg (h := fun p20 cs20 hp20 hrr20 => ?_)
   have hr20 := Rp.rel.mono hrr20 hg
   obtain ⟨la1_20, lc1_20, rfl, ho0_20, ha1_20⟩ := LeafRp.sh hr20
   refine .quiet (.g rfl rfl) rfl (fun _ => .fieldAddr F.fld49x0 rfl) <| .quiet (.g rfl rfl) rfl (fun _ => .loadAt F.flat9 rfl hp20 rfl) ?_
   refine .quiet (.g rfl rfl) rfl (fun _ => .lenS rfl Tryz.underlying9 rfl) <| .quiet (.g rfl rfl) rfl (fun _ => .gtr rfl rfl) <| OD.sF 24 rfl (by exact decide_eq_false (by rw [str_size]; omega)) ?_
   refine OD.q 3 rfl <| .quiet (.g rfl rfl) rfl (fun _ => .gtr rfl rfl) <| OD.sT 28 rfl (by exact decide_eq_true (by omega)) ?_
   refine OD.q 3 rfl <| .quiet (.g rfl rfl) rfl (fun _ => .sub rfl rfl (IntWalk.i64_in _ (by omega))) <| OD.ib (.g rfl rfl) Tryz.underlying22 F.size49 rfl rfl (show _ = (((i - 1) : Nat) : Int) by omega) har hg (h := fun p33 cs33 hp33 hrr33 => ?_)
   have hr33 := Rp.rel.mono hrr33 hg
   obtain ⟨la1_33, lc1_33, rfl, ho0_33, ha1_33⟩ := LeafRp.sh hr33
   refine .quiet (.g rfl rfl) rfl (fun _ => .fieldAddr F.fld49x0 rfl) <| .quiet (.g rfl rfl) rfl (fun _ => .loadAt F.flat9 rfl hp33 rfl) ?_
   refine OD.q 2 rfl <| OD.ib (.g rfl rfl) Tryz.underlying22 F.size49 rfl rfl rfl har hg (h := fun p38 cs38 hp38 hrr38 => ?_)
   have hr38 := Rp.rel.mono hrr38 hg
   obtain ⟨la1_38, lc1_38, rfl, ho0_38, ha1_38⟩ := LeafRp.sh hr38
   refine .quiet (.g rfl rfl) rfl (fun _ => .fieldAddr F.fld49x0 rfl) <| .quiet (.g rfl rfl) rfl (fun _ => .loadAt F.flat9 rfl hp38 rfl) ?_
   refine .quiet (.g rfl rfl) rfl (fun _ => .geqS rfl rfl) <| OD.sF 41 rfl (by rw [geqS_eq]; exact decide_eq_false (not_not_intro c2)) ?_
   refine OD.q 5 rfl <| OD.ib (.g rfl rfl) Tryz.underlying22 F.size49 rfl rfl rfl har hg (h := fun p47 cs47 hp47 hrr47 => ?_)
   have hr47 := Rp.rel.mono hrr47 hg
   obtain ⟨la1_47, lc1_47, rfl, ho0_47, ha1_47⟩ := LeafRp.sh hr47
   refine .quiet (.g rfl rfl) rfl (fun _ => .fieldAddr F.fld49x1 rfl) <| .quiet (.g rfl rfl) rfl (fun _ => .loadAt F.flat47 rfl (hp47.drop 1) rfl) ?_
   refine .quiet (.g rfl rfl) rfl (fun _ => .len rfl Tryz.underlying47 rfl) <| .quiet (.g rfl rfl) rfl (fun _ => .eql rfl rfl) <| OD.sF 51 rfl (by exact decide_eq_false (by omega)) ?_
   refine OD.q 4 rfl <| OD.ib (.g rfl rfl) Tryz.underlying22 F.size49 rfl rfl rfl har hg (h := fun p56 cs56 hp56 hrr56 => ?_)
   have hr56 := Rp.rel.mono hrr56 hg
   obtain ⟨la1_56, lc1_56, rfl, ho0_56, ha1_56⟩ := LeafRp.sh hr56
   refine .quiet (.g rfl rfl) rfl (fun _ => .fieldAddr F.fld49x1 rfl) <| .quiet (.g rfl rfl) rfl (fun _ => .loadAt F.flat47 rfl (hp56.drop 1) rfl) ?_
   refine OD.call0 (.g rfl rfl) (by kernel_rfl) rfl F.ok46 rfl rfl ((r9right_c ha1_56)) ?_
   rintro v59 _ ⟨rfl, rfl⟩
   try simp only [zx1, zx2, zx3]
   refine OD.sT 59 rfl (by exact decide_eq_true c4) ?_
   refine .quiet (.g rfl rfl) rfl (fun _ => .not rfl) <| OD.q 4 rfl <| OD.ib (.g rfl rfl) Tryz.underlying22 F.size49 rfl rfl rfl har hg (h := fun p65 cs65 hp65 hrr65 => ?_)
   have hr65 := Rp.rel.mono hrr65 hg
   obtain ⟨la1_65, lc1_65, rfl, ho0_65, ha1_65⟩ := LeafRp.sh hr65
   refine .quiet (.g rfl rfl) rfl (fun _ => .fieldAddr F.fld49x1 rfl) <| .quiet (.g rfl rfl) rfl (fun _ => .loadAt F.flat47 rfl (hp65.drop 1) rfl) ?_
   refine OD.ia (.g rfl rfl) Tryz.underlying47 F.size74 rfl rfl (show _ = (((0) : Nat) : Int) by omega) (ha1_65) (h := fun p68 cs68 hp68 hr68 => ?_)
   obtain ⟨ra3_68, ra5_68, ra6_68, rc3_68, rc5_68, rc6_68, rfl, ho0_68, ho1_68, ho2_68, ha3_68, ha5_68, ha6_68⟩ := RecRp.sh hr68
   refine .quiet (.g rfl rfl) rfl (fun _ => .fieldAddr F.fld74x0 rfl) <| .quiet (.g rfl rfl) rfl (fun _ => .loadAt F.flat9 rfl hp68 rfl) ?_
   refine OD.q 2 rfl <| OD.ib (.g rfl rfl) Tryz.underlying22 F.size49 rfl rfl rfl har hg (h := fun p73 cs73 hp73 hrr73 => ?_)
   have hr73 := Rp.rel.mono hrr73 hg
   obtain ⟨la1_73, lc1_73, rfl, ho0_73, ha1_73⟩ := LeafRp.sh hr73
   refine .quiet (.g rfl rfl) rfl (fun _ => .fieldAddr F.fld49x0 rfl) <| .quiet (.g rfl rfl) rfl (fun _ => .loadAt F.flat9 rfl hp73 rfl) ?_
   refine .quiet (.g rfl rfl) rfl (fun _ => .neqS rfl rfl) <| OD.sF 76 rfl (by exact decide_eq_false (not_not_intro (by obtain ⟨_, e5⟩ := c5; rw [e5]))) ?_
   refine OD.q 1 rfl <| ODx.nil <| S.condF rfl <| S.skip <| S.inBlock <| S.region rfl <| O.q 1 rfl <| O.op (.p rfl) (.add rfl rfl (IntWalk.i64_in _ (by omega))) <| O.q 1 rfl <| O.nil ?_
   exact S.wk (ih (i + 1) (by exact ⟨by omega, hst (if_pos ⟨c2, c1, c5, c4⟩), lt_step hpos fun _ => trivial⟩) (by omega))
 ·clear ih
  have hi : i = l.length := by omega
  subst hi
  rw [List.take_length] at hx2
  refine S.exit rfl <| S.seq <| S.region rfl <| O.q 1 rfl <| O.nil ?_
  exact S.rt Tryz.results68 rfl hR ⟨congrArg _ (foldO_some fL hx2).symm, rfl⟩
end Go.Proofs.YtodhbhanmdfdeaaGreat
