/- Texts of this proof, one behind the other. -/
import Derived.Test.YtodhbhanmdfdeaaGreatQFc
import Derived.Test.YtodhbhanmdfdeaaGreatQRef8b
import Derived.Test.YtodhbhanmdfdeaaGreatQSpAuto
section
/- Texts of this proof. -/
open Go Go.Sp
set_option maxRecDepth 100000
attribute [local irreducible] obj Own OwnP
namespace Go.Proofs.YtodhbhanmdfdeaaGreat
theorem r9ahead_c {r : Fr} {cs ds : List Value} {x y : RecT} (h : RecRp.rel r cs x) (h' : RecRp.rel r ds y) : Con Tryz.prog 110 #[.agg cs.toArray, .agg ds.toArray] r [] (Ret fun v η => v = .bool (decide (cmpR x y < 0)) ∧ η = []) := by
 obtain ⟨xa3, xa5, xa6, xc3, xc5, xc6, rfl, k0, k1, k2, k3, k5, k6⟩ := RecRp.sh h
 obtain ⟨ya3, ya5, ya6, yc3, yc5, yc6, rfl, j0, j1, j2, j3, j5, j6⟩ := RecRp.sh h'
 have hc := cmpR_lt (a := x) (b := y)
 refine Con.of (n := 24) _ rfl Tryz.func110 rfl rfl rfl fun g hg R hR => ?_
 refine S.seq <| S.region rfl <| O.opE (.p rfl) (.box (cs := [_, _, _, _, _, _, _]) rfl rfl) ?_
 rintro _ _ ⟨b2, rfl, rfl⟩
 refine O.opE (.p rfl) (.box (cs := [_, _, _, _, _, _, _]) rfl rfl) ?_
 rintro _ _ ⟨b3, rfl, rfl⟩
 refine O.q 1 rfl <| O.nil <| S.seq <| S.region rfl <| O.op (.p rfl) (.fieldObj F.fld74x1 rfl) <| O.op (.p rfl) (.lo F.flat3) ?_
 refine O.op (.p rfl) (.fieldObj F.fld74x1 rfl) <| O.op (.p rfl) (.lo F.flat3) ?_
 refine O.op (.p rfl) (.lss rfl rfl) <| O.q 1 rfl ?_
 first | refine O.caseD 10 rfl (fun h10 => ?_) (fun h10 => ?_) | refine O.caseB 10 rfl (fun h10 => ?_) (fun h10 => ?_)
 ·refine O.q 14 rfl <| O.nil <| S.ret Tryz.results110 rfl fun w hw => Holds.end_ hR hw ?_
  first | exact ⟨_, ⟨congrArg _ (decide_eq_true (hc.2 (by omega))).symm, rfl⟩, by repeat (first | exact zpa | exact zpn | (apply zpc; focus (repeat (first | exact zh | apply zt))) | apply zps)⟩ | exact ⟨_, ⟨congrArg _ (decide_eq_false (fun q => absurd (hc.1 q) (by omega))).symm, rfl⟩, by repeat (first | exact zpa | exact zpn | (apply zpc; focus (repeat (first | exact zh | apply zt))) | apply zps)⟩ | exact ⟨_, ⟨congrArg _ (decide_eq_decide.2 (by rw [hc]; omega)), rfl⟩, by repeat (first | exact zpa | exact zpn | (apply zpc; focus (repeat (first | exact zh | apply zt))) | apply zps)⟩
 ·refine O.op (.g rfl rfl) (.fieldObj F.fld74x1 rfl) <| O.op (.g rfl rfl) (.lo F.flat3) ?_
  refine O.op (.g rfl rfl) (.fieldObj F.fld74x1 rfl) <| O.op (.g rfl rfl) (.lo F.flat3) ?_
  refine O.op (.g rfl rfl) (.eql rfl rfl) <| O.q 1 rfl ?_
  first | refine O.caseD 16 rfl (fun h16 => ?_) (fun h16 => ?_) | refine O.caseB 16 rfl (fun h16 => ?_) (fun h16 => ?_)
  ·refine O.op (.g rfl rfl) (.fieldObj F.fld74x2 rfl) <| O.op (.g rfl rfl) (.lo F.flat3) ?_
   refine O.op (.g rfl rfl) (.fieldObj F.fld74x2 rfl) <| O.op (.g rfl rfl) (.lo F.flat3) ?_
   refine O.op (.g rfl rfl) (.lss rfl rfl) <| O.q 3 rfl <| O.nil <| S.ret Tryz.results110 rfl fun w hw => Holds.end_ hR hw ?_
   first | exact ⟨_, ⟨congrArg _ (decide_eq_true (hc.2 (by omega))).symm, rfl⟩, by repeat (first | exact zpa | exact zpn | (apply zpc; focus (repeat (first | exact zh | apply zt))) | apply zps)⟩ | exact ⟨_, ⟨congrArg _ (decide_eq_false (fun q => absurd (hc.1 q) (by omega))).symm, rfl⟩, by repeat (first | exact zpa | exact zpn | (apply zpc; focus (repeat (first | exact zh | apply zt))) | apply zps)⟩ | exact ⟨_, ⟨congrArg _ (decide_eq_decide.2 (by rw [hc]; omega)), rfl⟩, by repeat (first | exact zpa | exact zpn | (apply zpc; focus (repeat (first | exact zh | apply zt))) | apply zps)⟩
  ·refine O.q 8 rfl <| O.nil <| S.ret Tryz.results110 rfl fun w hw => Holds.end_ hR hw ?_
   first | exact ⟨_, ⟨congrArg _ (decide_eq_true (hc.2 (by omega))).symm, rfl⟩, by repeat (first | exact zpa | exact zpn | (apply zpc; focus (repeat (first | exact zh | apply zt))) | apply zps)⟩ | exact ⟨_, ⟨congrArg _ (decide_eq_false (fun q => absurd (hc.1 q) (by omega))).symm, rfl⟩, by repeat (first | exact zpa | exact zpn | (apply zpc; focus (repeat (first | exact zh | apply zt))) | apply zps)⟩ | exact ⟨_, ⟨congrArg _ (decide_eq_decide.2 (by rw [hc]; omega)), rfl⟩, by repeat (first | exact zpa | exact zpn | (apply zpc; focus (repeat (first | exact zh | apply zt))) | apply zps)⟩
theorem r9one_c {r : Fr} {va : Value} {l : List RecT} (ha : Arr RecRp r va l) : Con Tryz.prog 107 #[va] r [] (Ret fun v η => v = .bool (oneK l) ∧ η = []) := by
 have har := ha
 refine Con.of (n := 28) _ rfl Tryz.func107 rfl rfl rfl fun g hg R hR => ?_
 have ha := ha.mono hg
 have hbd := ha.bound
 obtain ⟨a1, c1, rfl⟩ := ha.shape
 refine S.seq <| S.region rfl <| O.q 1 rfl <| O.nil <| S.seq <| S.seq <| S.region rfl <| O.q 1 rfl <| O.nil <| S.block <| S.loopK (ι := Nat) (fun i => i ≤ l.length ∧ oneK (l.take i) = true) (fun i => [(3, .int .i64 (i : Int))]) [(0, _)] (fun i => []) (fun i => l.length - i) (0) (by exact ⟨by simp, rfl⟩) (.cons rfl (.nil)) (.cons rfl (.nil)) rfl fun i hx ih => ?_
 have hm1 := meltRefl (g := g)
 obtain ⟨hx1, hx2⟩ := hx
 refine S.seq <| S.seq <| S.region rfl <| O.q 2 rfl <| O.op (.p rfl) (.len rfl Tryz.underlying47 rfl) <| O.op (.p rfl) (.lss rfl rfl) <| O.nil ?_
 first | refine S.condD rfl (fun h7 => ?_) (fun h7 => ?_) | refine S.condB rfl (fun h7 => ?_) (fun h7 => ?_)
 ·have hi : i < l.length := by omega
  have h0 : 0 < l.length := by omega
  have hst := oneK_step hi hx2
  cases e1 : recOk l[i] with
  | false =>
   have hno : oneK l = false := oneK_none (i := i + 1) (Bool.eq_false_iff.2 fun q => by rw [e1] at hst; exact absurd (hst.1 q).1 (by simp))
   refine S.skip <| S.seq <| S.block <| S.seq <| S.regionD (L := [0, 1, 2, 3, 4, 5, 6, 7, 8, 9, 10, 11, 12, 13, 14, 15, 16, 17]) F.mixed (by kernel_rfl) <| OD.q 2 rfl <| OD.ib (.p rfl) Tryz.underlying47 F.size74 rfl rfl rfl har hg (h := fun p12 cs12 hp12 hrr12 => ?_)
   have hr12 := Rp.rel.mono hrr12 hg
   obtain ⟨ra3_12, ra5_12, ra6_12, rc3_12, rc5_12, rc6_12, rfl, ho0_12, ho1_12, ho2_12, ha3_12, ha5_12, ha6_12⟩ := RecRp.sh hr12
   refine .quiet (.p rfl) rfl (fun _ => .loadAgg Tryz.isAgg74 (by kernel_rfl) rfl hp12) ?_
   refine OD.call0 (.p rfl) (by kernel_rfl) rfl F.ok213 rfl rfl ((r8right_c hr12)) ?_
   rintro v14 _ ⟨rfl, rfl⟩
   try simp only [zx1, zx2, zx3]
   refine OD.sF 14 rfl (by exact e1) ?_
   refine .quiet (.p rfl) rfl (fun _ => .not rfl) <| OD.q 12 rfl <| ODx.nil <| S.condT rfl <| S.seq <| S.region rfl <| O.q 1 rfl <| O.nil ?_
   exact S.rt Tryz.results107 rfl hR ⟨by rw [hno], rfl⟩
  | true =>
   by_cases e2 : l[i].1 = l[0].1
   ·
    refine S.skip <| S.seq <| S.block <| S.seq <| S.regionD (L := [0, 1, 2, 3, 4, 5, 6, 7, 8, 9, 10, 11, 12, 13, 14, 15, 16, 17]) F.mixed (by kernel_rfl) <| OD.q 2 rfl <| OD.ib (.p rfl) Tryz.underlying47 F.size74 rfl rfl rfl har hg (h := fun p12 cs12 hp12 hrr12 => ?_)
    have hr12 := Rp.rel.mono hrr12 hg
    obtain ⟨ra3_12, ra5_12, ra6_12, rc3_12, rc5_12, rc6_12, rfl, ho0_12, ho1_12, ho2_12, ha3_12, ha5_12, ha6_12⟩ := RecRp.sh hr12
    refine .quiet (.p rfl) rfl (fun _ => .loadAgg Tryz.isAgg74 (by kernel_rfl) rfl hp12) ?_
    refine OD.call0 (.p rfl) (by kernel_rfl) rfl F.ok213 rfl rfl ((r8right_c hr12)) ?_
    rintro v14 _ ⟨rfl, rfl⟩
    try simp only [zx1, zx2, zx3]
    refine OD.sT 14 rfl (by exact e1) ?_
    refine .quiet (.p rfl) rfl (fun _ => .not rfl) <| OD.q 3 rfl <| OD.ib (.g rfl rfl) Tryz.underlying47 F.size74 rfl rfl rfl har hg (h := fun p19 cs19 hp19 hrr19 => ?_)
    have hr19 := Rp.rel.mono hrr19 hg
    obtain ⟨ra3_19, ra5_19, ra6_19, rc3_19, rc5_19, rc6_19, rfl, ho0_19, ho1_19, ho2_19, ha3_19, ha5_19, ha6_19⟩ := RecRp.sh hr19
    refine .quiet (.g rfl rfl) rfl (fun _ => .fieldAddr F.fld74x0 rfl) <| .quiet (.g rfl rfl) rfl (fun _ => .loadAt F.flat9 rfl hp19 rfl) ?_
    refine OD.q 1 rfl <| OD.ib (.g rfl rfl) Tryz.underlying47 F.size74 rfl rfl (show _ = (((0) : Nat) : Int) by omega) har hg (h := fun p23 cs23 hp23 hrr23 => ?_)
    have hr23 := Rp.rel.mono hrr23 hg
    obtain ⟨ra3_23, ra5_23, ra6_23, rc3_23, rc5_23, rc6_23, rfl, ho0_23, ho1_23, ho2_23, ha3_23, ha5_23, ha6_23⟩ := RecRp.sh hr23
    refine .quiet (.g rfl rfl) rfl (fun _ => .fieldAddr F.fld74x0 rfl) <| .quiet (.g rfl rfl) rfl (fun _ => .loadAt F.flat9 rfl hp23 rfl) ?_
    refine .quiet (.g rfl rfl) rfl (fun _ => .neqS rfl rfl) <| OD.sF 26 rfl (by simp [e2]) ?_
    refine OD.q 1 rfl <| ODx.nil <| S.condF rfl <| S.skip <| S.inBlock <| S.region rfl <| O.q 1 rfl <| O.op (.p rfl) (.add rfl rfl (IntWalk.i64_in _ (by omega))) <| O.q 1 rfl <| O.nil ?_
    exact S.wk (ih (i + 1) (by exact ⟨by omega, hst.2 ⟨e1, e2⟩⟩) (by omega))
   ·have hno : oneK l = false := oneK_none (i := i + 1) (Bool.eq_false_iff.2 fun q => e2 (hst.1 q).2)
    refine S.skip <| S.seq <| S.block <| S.seq <| S.regionD (L := [0, 1, 2, 3, 4, 5, 6, 7, 8, 9, 10, 11, 12, 13, 14, 15, 16, 17]) F.mixed (by kernel_rfl) <| OD.q 2 rfl <| OD.ib (.p rfl) Tryz.underlying47 F.size74 rfl rfl rfl har hg (h := fun p12 cs12 hp12 hrr12 => ?_)
    have hr12 := Rp.rel.mono hrr12 hg
    obtain ⟨ra3_12, ra5_12, ra6_12, rc3_12, rc5_12, rc6_12, rfl, ho0_12, ho1_12, ho2_12, ha3_12, ha5_12, ha6_12⟩ := RecRp.sh hr12
    refine .quiet (.p rfl) rfl (fun _ => .loadAgg Tryz.isAgg74 (by kernel_rfl) rfl hp12) ?_
    refine OD.call0 (.p rfl) (by kernel_rfl) rfl F.ok213 rfl rfl ((r8right_c hr12)) ?_
    rintro v14 _ ⟨rfl, rfl⟩
    try simp only [zx1, zx2, zx3]
    refine OD.sT 14 rfl (by exact e1) ?_
    refine .quiet (.p rfl) rfl (fun _ => .not rfl) <| OD.q 3 rfl <| OD.ib (.g rfl rfl) Tryz.underlying47 F.size74 rfl rfl rfl har hg (h := fun p19 cs19 hp19 hrr19 => ?_)
    have hr19 := Rp.rel.mono hrr19 hg
    obtain ⟨ra3_19, ra5_19, ra6_19, rc3_19, rc5_19, rc6_19, rfl, ho0_19, ho1_19, ho2_19, ha3_19, ha5_19, ha6_19⟩ := RecRp.sh hr19
    refine .quiet (.g rfl rfl) rfl (fun _ => .fieldAddr F.fld74x0 rfl) <| .quiet (.g rfl rfl) rfl (fun _ => .loadAt F.flat9 rfl hp19 rfl) ?_
    refine OD.q 1 rfl <| OD.ib (.g rfl rfl) Tryz.underlying47 F.size74 rfl rfl (show _ = (((0) : Nat) : Int) by omega) har hg (h := fun p23 cs23 hp23 hrr23 => ?_)
    have hr23 := Rp.rel.mono hrr23 hg
    obtain ⟨ra3_23, ra5_23, ra6_23, rc3_23, rc5_23, rc6_23, rfl, ho0_23, ho1_23, ho2_23, ha3_23, ha5_23, ha6_23⟩ := RecRp.sh hr23
    refine .quiet (.g rfl rfl) rfl (fun _ => .fieldAddr F.fld74x0 rfl) <| .quiet (.g rfl rfl) rfl (fun _ => .loadAt F.flat9 rfl hp23 rfl) ?_
    refine .quiet (.g rfl rfl) rfl (fun _ => .neqS rfl rfl) <| OD.sT 26 rfl (by simp [e2]) ?_
    refine OD.q 1 rfl <| ODx.nil <| S.condT rfl <| S.seq <| S.region rfl <| O.q 1 rfl <| O.nil ?_
    exact S.rt Tryz.results107 rfl hR ⟨by rw [hno], rfl⟩
 ·clear ih
  have hi : i = l.length := by omega
  subst hi
  rw [List.take_length] at hx2
  refine S.exit rfl <| S.seq <| S.region rfl <| O.q 1 rfl <| O.nil ?_
  exact S.rt Tryz.results107 rfl hR ⟨by rw [hx2], rfl⟩
theorem r9right_c {r : Fr} {va : Value} {l : List RecT} (ha : Arr RecRp r va l) : Con Tryz.prog 46 #[va] r [] (Ret fun v η => v = .bool (decide (SRight l)) ∧ η = []) := by
 have har := ha
 have hS := SRight_iff (l := l)
 refine Con.of (n := 49) _ rfl Tryz.func46 rfl rfl rfl fun g hg R hR => ?_
 have ha := ha.mono hg
 have hbd := ha.bound
 obtain ⟨a1, c1, rfl⟩ := ha.shape
 cases e0 : oneK l with
 | false =>
  refine S.seq <| S.region rfl <| O.q 1 rfl <| O.nil <| S.seq <| S.seq <| S.region rfl <| O.q 1 rfl <| O.call0 (.p rfl) rfl F.ok107 rfl rfl ((r9one_c ha)) ?_
  rintro v6 _ ⟨rfl, rfl⟩
  try simp only [zx1, zx2, zx3]
  refine O.sF 6 rfl (by exact e0) ?_
  refine O.op (.p rfl) (.not rfl) <| O.nil <| S.condT rfl <| S.seq <| S.region rfl <| O.q 1 rfl <| O.nil ?_
  exact S.rt Tryz.results46 rfl hR ⟨congrArg _ (decide_eq_false fun q => by rw [e0] at hS; exact absurd (hS.1 q).1 (by simp)).symm, rfl⟩
 | true =>
  refine S.seq <| S.region rfl <| O.q 1 rfl <| O.nil <| S.seq <| S.seq <| S.region rfl <| O.q 1 rfl <| O.call0 (.p rfl) rfl F.ok107 rfl rfl ((r9one_c ha)) ?_
  rintro v6 _ ⟨rfl, rfl⟩
  try simp only [zx1, zx2, zx3]
  refine O.sT 6 rfl (by exact e0) ?_
  refine O.op (.p rfl) (.not rfl) <| O.nil <| S.condF rfl <| S.skip <| S.seq <| S.seq <| S.region rfl <| O.q 1 rfl <| O.nil <| S.block <| S.loopK (ι := Nat) (fun i => i ≤ l.length ∧ ∀ j (h : j < l.length), j < i → (∀ h0 : 0 < j, cmpR l[j-1] l[j] < 0) ∧ ∀ k (hk : k < l.length), over l[j] l[k] = false) (fun i => [(3, .int .i64 (i : Int))]) [(0, _)] (fun i => []) (fun i => l.length - i) (0) (by exact ⟨by simp, fun j h q => absurd q (by omega)⟩) (.cons rfl (.nil)) (.cons rfl (.nil)) rfl fun i hx ih => ?_
  have hm1 := meltRefl (g := g)
  obtain ⟨hx1, hx2⟩ := hx
  refine S.seq <| S.seq <| S.region rfl <| O.q 2 rfl <| O.op (.p rfl) (.len rfl Tryz.underlying47 rfl) <| O.op (.p rfl) (.lss rfl rfl) <| O.nil ?_
  first | refine S.condD rfl (fun h11 => ?_) (fun h11 => ?_) | refine S.condB rfl (fun h11 => ?_) (fun h11 => ?_)
  ·have hi : i < l.length := by omega
   by_cases c1 : 0 < i ∧ ∃ hk : i - 1 < l.length, ¬ cmpR l[i - 1] l[i] < 0
   ·obtain ⟨c2, hk, c3⟩ := c1
    refine S.skip <| S.seq <| S.block <| S.seq <| S.seq <| S.regionD (L := [0, 1, 2, 3, 4, 5, 6, 7, 8, 9, 10, 11, 12, 13, 14]) F.mixed (by kernel_rfl) <| OD.q 1 rfl <| .quiet (.p rfl) rfl (fun _ => .gtr rfl rfl) <| OD.sT 15 rfl (by exact decide_eq_true (by omega)) ?_
    refine OD.q 3 rfl <| .quiet (.g rfl rfl) rfl (fun _ => .sub rfl rfl (IntWalk.i64_in _ (by omega))) <| OD.ib (.g rfl rfl) Tryz.underlying47 F.size74 rfl rfl (show _ = (((i - 1) : Nat) : Int) by omega) har hg (h := fun p20 cs20 hp20 hrr20 => ?_)
    have hr20 := Rp.rel.mono hrr20 hg
    obtain ⟨ra3_20, ra5_20, ra6_20, rc3_20, rc5_20, rc6_20, rfl, ho0_20, ho1_20, ho2_20, ha3_20, ha5_20, ha6_20⟩ := RecRp.sh hr20
    refine .quiet (.g rfl rfl) rfl (fun _ => .loadAgg Tryz.isAgg74 (by kernel_rfl) rfl hp20) ?_
    refine OD.q 2 rfl <| OD.ib (.g rfl rfl) Tryz.underlying47 F.size74 rfl rfl rfl har hg (h := fun p24 cs24 hp24 hrr24 => ?_)
    have hr24 := Rp.rel.mono hrr24 hg
    obtain ⟨ra3_24, ra5_24, ra6_24, rc3_24, rc5_24, rc6_24, rfl, ho0_24, ho1_24, ho2_24, ha3_24, ha5_24, ha6_24⟩ := RecRp.sh hr24
    refine .quiet (.g rfl rfl) rfl (fun _ => .loadAgg Tryz.isAgg74 (by kernel_rfl) rfl hp24) ?_
    refine OD.call0 (.g rfl rfl) (by kernel_rfl) rfl F.ok110 rfl rfl ((r9ahead_c hr20 hr24)) ?_
    rintro v26 _ ⟨rfl, rfl⟩
    try simp only [zx1, zx2, zx3]
    refine OD.sF 26 rfl (by exact decide_eq_false c3) ?_
    refine .quiet (.g rfl rfl) rfl (fun _ => .not rfl) <| OD.q 1 rfl <| ODx.nil <| S.condT rfl <| S.seq <| S.region rfl <| O.q 1 rfl <| O.nil ?_
    exact S.rt Tryz.results46 rfl hR ⟨congrArg _ (decide_eq_false fun q => c3 (((hS.1 q).2 i hi).1 c2)).symm, rfl⟩
   ·have hup : ∀ h0 : 0 < i, cmpR l[i - 1] l[i] < 0 := fun h0 => Classical.byContradiction fun q => c1 ⟨h0, by omega, q⟩
    have hk : i - 1 < l.length := by omega
    refine S.skip <| S.seq <| S.block <| S.seq <| S.seq <| S.cut2 (fun (u : Unit) => True) (fun (u : Unit) => []) [(0, _), (3, _)] (fun (u : Unit) => []) (.cons rfl (.cons rfl (.nil))) (fun key => ?_) (fun u hx => ?_)
    ·have hm2 := meltRefl (g := g)
     by_cases c2 : 0 < i
     ·
      refine S.regionD (L := [0, 1, 2, 3, 4, 5, 6, 7, 8, 9, 10, 11, 12, 13, 14]) F.mixed (by kernel_rfl) ?_
      refine OD.q 1 rfl <| .quiet (.p rfl) rfl (fun _ => .gtr rfl rfl) <| OD.sT 15 rfl (by exact decide_eq_true (by omega)) ?_
      refine OD.q 3 rfl <| .quiet (.g rfl rfl) rfl (fun _ => .sub rfl rfl (IntWalk.i64_in _ (by omega))) <| OD.ib (.g rfl rfl) Tryz.underlying47 F.size74 rfl rfl (show _ = (((i - 1) : Nat) : Int) by omega) har hg (h := fun p20 cs20 hp20 hrr20 => ?_)
      have hr20 := Rp.rel.mono hrr20 hg
      obtain ⟨ra3_20, ra5_20, ra6_20, rc3_20, rc5_20, rc6_20, rfl, ho0_20, ho1_20, ho2_20, ha3_20, ha5_20, ha6_20⟩ := RecRp.sh hr20
      refine .quiet (.g rfl rfl) rfl (fun _ => .loadAgg Tryz.isAgg74 (by kernel_rfl) rfl hp20) ?_
      refine OD.q 2 rfl <| OD.ib (.g rfl rfl) Tryz.underlying47 F.size74 rfl rfl rfl har hg (h := fun p24 cs24 hp24 hrr24 => ?_)
      have hr24 := Rp.rel.mono hrr24 hg
      obtain ⟨ra3_24, ra5_24, ra6_24, rc3_24, rc5_24, rc6_24, rfl, ho0_24, ho1_24, ho2_24, ha3_24, ha5_24, ha6_24⟩ := RecRp.sh hr24
      refine .quiet (.g rfl rfl) rfl (fun _ => .loadAgg Tryz.isAgg74 (by kernel_rfl) rfl hp24) ?_
      refine OD.call0 (.g rfl rfl) (by kernel_rfl) rfl F.ok110 rfl rfl ((r9ahead_c hr20 hr24)) ?_
      rintro v26 _ ⟨rfl, rfl⟩
      try simp only [zx1, zx2, zx3]
      refine OD.sT 26 rfl (by exact decide_eq_true (hup c2)) ?_
      refine .quiet (.g rfl rfl) rfl (fun _ => .not rfl) <| OD.q 1 rfl <| ODx.nil <| S.condF rfl <| S.skip <| S.pk ?_ (S.weaken ?_ (key (()) (by trivial)))
      ·repeat (first | exact zpa | exact zpn | (apply zpc; focus (repeat (first | exact zh | apply zt))) | apply zps)
      repeat (first | exact Sub.nil | refine Sub.cons rfl ?_)
     ·
      refine S.regionD (L := [0, 1, 2, 3, 4, 5, 6, 7, 8, 9, 10, 11, 12, 13, 14]) F.mixed (by kernel_rfl) ?_
      refine OD.q 1 rfl <| .quiet (.p rfl) rfl (fun _ => .gtr rfl rfl) <| OD.sF 15 rfl (by exact decide_eq_false (by omega)) ?_
      refine OD.q 13 rfl <| ODx.nil <| S.condF rfl <| S.skip <| S.pk ?_ (S.weaken ?_ (key (()) (by trivial)))
      ·repeat (first | exact zpa | exact zpn | (apply zpc; focus (repeat (first | exact zh | apply zt))) | apply zps)
      repeat (first | exact Sub.nil | refine Sub.cons rfl ?_)
    ·refine S.seq <| S.region rfl <| O.q 1 rfl <| O.nil <| S.block <| S.loopK (ι := Nat) (fun k => k ≤ l.length ∧ ∀ j (h : j < l.length), j < k → over l[i] l[j] = false) (fun k => [(4, .int .i64 (k : Int))]) [(0, _), (3, _)] (fun k => []) (fun k => l.length - k) (0) (by exact ⟨by simp, fun j h q => absurd q (by omega)⟩) (.cons rfl (.nil)) (.cons rfl (.cons rfl (.nil))) rfl fun k hx ih => ?_
     have hm2 := meltRefl (g := g)
     obtain ⟨hy1, hy2⟩ := hx
     refine S.seq <| S.seq <| S.region rfl <| O.q 2 rfl <| O.op (.p rfl) (.len rfl Tryz.underlying47 rfl) <| O.op (.p rfl) (.lss rfl rfl) <| O.nil ?_
     first | refine S.condD rfl (fun h32 => ?_) (fun h32 => ?_) | refine S.condB rfl (fun h32 => ?_) (fun h32 => ?_)
     ·have hkk : k < l.length := by omega
      by_cases d1 : i = k
      ·have hself : over l[i] l[k] = false := by subst d1; exact over_self _
       refine S.skip <| S.seq <| S.block <| S.seq <| S.regionD (L := [0, 1, 2, 3, 4, 5, 6, 7, 8, 9, 10, 11, 12, 13]) F.mixed (by kernel_rfl) <| OD.q 2 rfl <| .quiet (.p rfl) rfl (fun _ => .neq rfl rfl) <| OD.sF 37 rfl (by exact decide_eq_false (by omega)) ?_
       refine OD.q 11 rfl <| ODx.nil <| S.condF rfl <| S.skip <| S.inBlock <| S.region rfl <| O.q 1 rfl <| O.op (.p rfl) (.add rfl rfl (IntWalk.i64_in _ (by omega))) <| O.q 1 rfl <| O.nil ?_
       exact S.wk (ih (k + 1) (by exact ⟨by omega, lt_step hy2 fun _ => hself⟩) (by omega))
      ·cases d2 : over l[i] l[k] with
       | true =>
        refine S.skip <| S.seq <| S.block <| S.seq <| S.regionD (L := [0, 1, 2, 3, 4, 5, 6, 7, 8, 9, 10, 11, 12, 13]) F.mixed (by kernel_rfl) <| OD.q 2 rfl <| .quiet (.p rfl) rfl (fun _ => .neq rfl rfl) <| OD.sT 37 rfl (by exact decide_eq_true (by omega)) ?_
        refine OD.q 3 rfl <| OD.ib (.g rfl rfl) Tryz.underlying47 F.size74 rfl rfl rfl har hg (h := fun p41 cs41 hp41 hrr41 => ?_)
        have hr41 := Rp.rel.mono hrr41 hg
        obtain ⟨ra3_41, ra5_41, ra6_41, rc3_41, rc5_41, rc6_41, rfl, ho0_41, ho1_41, ho2_41, ha3_41, ha5_41, ha6_41⟩ := RecRp.sh hr41
        refine .quiet (.g rfl rfl) rfl (fun _ => .loadAgg Tryz.isAgg74 (by kernel_rfl) rfl hp41) ?_
        refine OD.q 2 rfl <| OD.ib (.g rfl rfl) Tryz.underlying47 F.size74 rfl rfl rfl har hg (h := fun p45 cs45 hp45 hrr45 => ?_)
        have hr45 := Rp.rel.mono hrr45 hg
        obtain ⟨ra3_45, ra5_45, ra6_45, rc3_45, rc5_45, rc6_45, rfl, ho0_45, ho1_45, ho2_45, ha3_45, ha5_45, ha6_45⟩ := RecRp.sh hr45
        refine .quiet (.g rfl rfl) rfl (fun _ => .loadAgg Tryz.isAgg74 (by kernel_rfl) rfl hp45) ?_
        refine OD.call0 (.g rfl rfl) (by kernel_rfl) rfl F.ok109 rfl rfl ((r8over_c hr41 hr45)) ?_
        rintro v47 _ ⟨rfl, rfl⟩
        try simp only [zx1, zx2, zx3]
        refine OD.sT 47 rfl (by exact d2) ?_
        refine OD.q 1 rfl <| ODx.nil <| S.condT rfl <| S.seq <| S.region rfl <| O.q 1 rfl <| O.nil ?_
        exact S.rt Tryz.results46 rfl hR ⟨congrArg _ (decide_eq_false fun q => by rw [((hS.1 q).2 i hi).2 k hkk] at d2; cases d2).symm, rfl⟩
       | false =>
        refine S.skip <| S.seq <| S.block <| S.seq <| S.regionD (L := [0, 1, 2, 3, 4, 5, 6, 7, 8, 9, 10, 11, 12, 13]) F.mixed (by kernel_rfl) <| OD.q 2 rfl <| .quiet (.p rfl) rfl (fun _ => .neq rfl rfl) <| OD.sT 37 rfl (by exact decide_eq_true (by omega)) ?_
        refine OD.q 3 rfl <| OD.ib (.g rfl rfl) Tryz.underlying47 F.size74 rfl rfl rfl har hg (h := fun p41 cs41 hp41 hrr41 => ?_)
        have hr41 := Rp.rel.mono hrr41 hg
        obtain ⟨ra3_41, ra5_41, ra6_41, rc3_41, rc5_41, rc6_41, rfl, ho0_41, ho1_41, ho2_41, ha3_41, ha5_41, ha6_41⟩ := RecRp.sh hr41
        refine .quiet (.g rfl rfl) rfl (fun _ => .loadAgg Tryz.isAgg74 (by kernel_rfl) rfl hp41) ?_
        refine OD.q 2 rfl <| OD.ib (.g rfl rfl) Tryz.underlying47 F.size74 rfl rfl rfl har hg (h := fun p45 cs45 hp45 hrr45 => ?_)
        have hr45 := Rp.rel.mono hrr45 hg
        obtain ⟨ra3_45, ra5_45, ra6_45, rc3_45, rc5_45, rc6_45, rfl, ho0_45, ho1_45, ho2_45, ha3_45, ha5_45, ha6_45⟩ := RecRp.sh hr45
        refine .quiet (.g rfl rfl) rfl (fun _ => .loadAgg Tryz.isAgg74 (by kernel_rfl) rfl hp45) ?_
        refine OD.call0 (.g rfl rfl) (by kernel_rfl) rfl F.ok109 rfl rfl ((r8over_c hr41 hr45)) ?_
        rintro v47 _ ⟨rfl, rfl⟩
        try simp only [zx1, zx2, zx3]
        refine OD.sF 47 rfl (by exact d2) ?_
        refine OD.q 1 rfl <| ODx.nil <| S.condF rfl <| S.skip <| S.inBlock <| S.region rfl <| O.q 1 rfl <| O.op (.p rfl) (.add rfl rfl (IntWalk.i64_in _ (by omega))) <| O.q 1 rfl <| O.nil ?_
        exact S.wk (ih (k + 1) (by exact ⟨by omega, lt_step hy2 fun _ => d2⟩) (by omega))
     ·clear ih
      have hkk : k = l.length := by omega
      refine S.exit rfl <| S.inBlock <| S.region rfl <| O.q 1 rfl <| O.op (.p rfl) (.add rfl rfl (IntWalk.i64_in _ (by omega))) <| O.q 1 rfl <| O.nil ?_
      exact S.wk (ih (i + 1) (by exact ⟨by omega, lt_step hx2 fun _ => ⟨hup, fun k hk => hy2 k hk (by omega)⟩⟩) (by omega))
  ·clear ih
   have hi : i = l.length := by omega
   subst hi
   refine S.exit rfl <| S.seq <| S.region rfl <| O.q 1 rfl <| O.nil ?_
   exact S.rt Tryz.results46 rfl hR ⟨congrArg _ (decide_eq_true (hS.2 ⟨e0, fun j h => hx2 j h h⟩)).symm, rfl⟩
end Go.Proofs.YtodhbhanmdfdeaaGreat
end
section
/- Texts of this proof. -/
open Go Go.Sp
set_option maxRecDepth 100000
attribute [local irreducible] obj Own OwnP
namespace Go.Proofs.YtodhbhanmdfdeaaGreat
theorem r9text_c {r : Fr} {cs : List Value} {x : RecT} (h : RecRp.rel r cs x) : Con Tryz.prog 108 #[.agg cs.toArray] r [] (Ret fun v η => v = .string (str (recOut x)) ∧ η = []) := by
 obtain ⟨xa3, xa5, xa6, xc3, xc5, xc6, rfl, k0, k1, k2, k3, k5, k6⟩ := RecRp.sh h
 refine Con.of (n := 12) _ rfl Tryz.func108 rfl rfl rfl fun g hg R hR => ?_
 have h := h.mono hg
 refine S.seq <| S.region rfl <| O.opE (.p rfl) (.box (cs := [_, _, _, _, _, _, _]) rfl rfl) ?_
 rintro _ _ ⟨b1, rfl, rfl⟩
 refine O.q 1 rfl <| O.nil <| S.seq <| S.frzO (by repeat (first | exact zh | apply zt)) fun g hs hm hb1 => ?_
 replace hg := Fr.sub_trans hg hs
 replace hR := melted hR hm
 try replace h := h.mono hs
 clear hs hm
 refine S.region rfl <| O.op (.p rfl) (.loadAgg Tryz.isAgg74 (by kernel_rfl) rfl hb1) ?_
 refine O.call0 (.p rfl) rfl F.ok214 rfl rfl ((r8put_c h)) ?_
 rintro v7 _ ⟨a7, c7, rfl, rfl⟩
 try simp only [zx1, zx2, zx3]
 refine O.q 5 rfl <| O.nil <| S.seq <| S.frzA (by repeat (first | exact zh | apply zt)) fun g hs hm hz => ?_
 replace hg := Fr.sub_trans hg hs
 replace hR := melted hR hm
 try replace h := h.mono hs
 try replace hb1 := hb1.mono hs
 clear hs hm
 refine S.region rfl <| O.q 1 rfl <| O.op (.p rfl) (.toStr Tryz.underlying31 Tryz.underlying5 Tryz.underlying9 rfl (by first | assumption | exact Arr.mono hg (by assumption) | exact Arr.left (by assumption) | exact Arr.left (Arr.mono hg (by assumption)))) ?_
 refine O.q 1 rfl <| O.nil ?_
 exact S.rt Tryz.results108 rfl hR ⟨rfl, rfl⟩
theorem r9put_c {r : Fr} {va : Value} {l : List RecT} (ha : Arr RecRp r va l) (hn : l.length ≤ 1000000) :
  Con Tryz.prog 44 #[va] r [] (Ret fun v η => ∃ a c, v = .tuple #[.slice a (sOut l).length c, .int .i64 (sErr l)] ∧ η = [OwnP Rp.u8 5 (.slice a (sOut l).length c) (sOut l)]) := by
 have har := ha
 refine Con.of (n := 28) _ rfl Tryz.func44 rfl rfl rfl fun g hg R hR => ?_
 have ha := ha.mono hg
 have hbd := ha.bound
 obtain ⟨a1, c1, rfl⟩ := ha.shape
 by_cases e : ¬ SRight l
 ·have e1 : sOut l = [] := if_neg e
  have e2 : sErr l = 4 := if_neg e
  rw [e1, e2] at hR
  refine S.seq <| S.region rfl <| O.q 2 rfl <| O.nil <| S.seq <| S.seq <| S.region rfl <| O.q 1 rfl <| O.call0 (.p rfl) rfl F.ok46 rfl rfl ((r9right_c ha)) ?_
  rintro v7 _ ⟨rfl, rfl⟩
  try simp only [zx1, zx2, zx3]
  refine O.sF 7 rfl (by exact decide_eq_false e) ?_
  refine O.op (.p rfl) (.not rfl) <| O.nil <| S.condT rfl <| S.seq <| S.region rfl <| O.q 2 rfl <| O.nil <| S.addNil (T := Rp.u8) (e := 5) ?_
  refine S.ret2 Tryz.results44 rfl rfl fun w hw => Holds.end_ hR hw ?_
  exact pk ⟨none, 0, rfl, rfl⟩
 replace e := Classical.not_not.1 e
 have e1 : sOut l = sB l := if_pos e
 have e2 : sErr l = 0 := if_pos e
 have hok := oneK_all e.1
 rw [e1, e2] at hR
 refine S.seq <| S.region rfl <| O.q 2 rfl <| O.nil <| S.seq <| S.seq <| S.region rfl <| O.q 1 rfl <| O.call0 (.p rfl) rfl F.ok46 rfl rfl ((r9right_c ha)) ?_
 rintro v7 _ ⟨rfl, rfl⟩
 try simp only [zx1, zx2, zx3]
 refine O.sT 7 rfl (by exact decide_eq_true e) ?_
 refine O.op (.p rfl) (.not rfl) <| O.nil <| S.condF rfl <| S.skip <| S.seq <| S.region rfl <| O.q 1 rfl <| O.op (.p rfl) (.len rfl Tryz.underlying47 rfl) <| O.call0 (.p rfl) rfl F.ok63 rfl rfl (refNumber_c _) ?_
 rintro v11 _ ⟨a11, c11, rfl, rfl⟩
 try simp only [zx1, zx2, zx3]
 refine O.q 1 rfl <| O.nil <| S.seq <| S.seq <| S.ownIs (T := Rp.u8) (e := 5) (v' := .slice a11 (be l.length ++ sRows (l.take 0)).length c11) (xs' := be l.length ++ sRows (l.take 0)) (by repeat (first | exact zh | apply zt)) (by simp [sRows]) (by simp [sRows]) ?_
 refine S.slot 4 (v' := .slice a11 (be l.length ++ sRows (l.take 0)).length c11) rfl (by simp [sRows]) ?_
 refine S.region rfl <| O.q 1 rfl <| O.nil <| S.block <| S.loopK2 (ι := Nat) (κ := Option Addr × Nat) (fun i q => i ≤ l.length) (fun i q => [(4, .slice q.1 (be l.length ++ sRows (l.take i)).length q.2), (5, .int .i64 (i : Int))]) [(0, _)] (fun i q => [OwnP Rp.u8 5 (.slice q.1 (be l.length ++ sRows (l.take i)).length q.2) (be l.length ++ sRows (l.take i))]) (fun i q => l.length - i) (0) ((a11, c11)) (by simp) (.cons rfl (.cons rfl (.nil))) (.cons rfl (.nil)) rfl fun i q hx ih => ?_
 have hm1 := meltRefl (g := g)
 refine S.seq <| S.seq <| S.region rfl <| O.q 2 rfl <| O.op (.p rfl) (.len rfl Tryz.underlying47 rfl) <| O.op (.p rfl) (.lss rfl rfl) <| O.nil ?_
 first | refine S.condD rfl (fun h15 => ?_) (fun h15 => ?_) | refine S.condB rfl (fun h15 => ?_) (fun h15 => ?_)
 ·have hi : i < l.length := by omega
  have hoi := hok _ (List.getElem_mem hi)
  have ho1 : recOut l[i] = recB l[i] := by simp [recOut, hoi]
  have hbl := recB_le hoi
  have hle := sRows_le (l.take i) fun x hx => hok x (List.mem_of_mem_take hx)
  have hlt : (l.take i).length ≤ 1000000 := by rw [List.length_take]; omega
  have htk : be l.length ++ sRows (l.take i) ++ bytesOf (recB l[i]) = be l.length ++ sRows (l.take (i + 1)) := by rw [List.take_succ_eq_append_getElem hi, sRows_snoc, List.append_assoc]
  have hln : (be l.length ++ sRows (l.take i)).length ≤ 2000000000 := by rw [List.length_append, be_length]; omega
  generalize be l.length ++ sRows (l.take i) = so at htk hln ⊢
  refine S.skip <| S.seq <| S.block <| S.region rfl <| O.q 3 rfl <| O.ib (.p rfl) Tryz.underlying47 F.size74 rfl rfl rfl har hg (h := fun p21 cs21 hp21 hrr21 => ?_)
  have hr21 := Rp.rel.mono hrr21 hg
  obtain ⟨ra3_21, ra5_21, ra6_21, rc3_21, rc5_21, rc6_21, rfl, ho0_21, ho1_21, ho2_21, ha3_21, ha5_21, ha6_21⟩ := RecRp.sh hr21
  refine O.op (.p rfl) (.loadAgg Tryz.isAgg74 (by kernel_rfl) rfl hp21) ?_
  refine O.call0 (.p rfl) rfl F.ok108 rfl rfl ((r9text_c hr21)) ?_
  rintro v23 _ ⟨rfl, rfl⟩
  try simp only [zx1, zx2, zx3]
  rw [ho1]
  refine O.opE (.p rfl) (.strBytesO Tryz.underlying9 Tryz.underlying31 Tryz.underlying5 rfl (by first | assumption | omega | (simp; done) | (simp; omega))) ?_
  rintro _ _ ⟨a24, c24, rfl, rfl⟩
  refine O.callB (.p rfl) rfl F.ok65 rfl rfl (bs := [OwnP Rp.u8 5 (.slice a24 (recB l[i]).length c24) (recB l[i])]) (by repeat (first | exact zsn | (apply zsc; focus (repeat (first | exact zh | apply zt))))) (fun m hm hd => refBytes_c (hm.arr.right hd) (by omega)) ?_
  rintro v25 _ ⟨a25, c25, rfl, rfl⟩
  try simp only [zx1, zx2, zx3]
  refine O.frzA (by repeat (first | exact zh | apply zt)) fun g hs hm ha25 => ?_
  replace hg := Fr.sub_trans hg hs
  replace hR := melted hR hm
  try replace hp21 := hp21.mono hs
  try replace hr21 := hr21.mono hs
  try replace ha3_21 := ha3_21.mono hs
  try replace ha5_21 := ha5_21.mono hs
  try replace ha6_21 := ha6_21.mono hs
  replace hm1 := meltTrans hm1 hm
  clear hs hm
  refine O.opE (.p rfl) (.appendP (T := Rp.u8) pure_u8 Tryz.underlying31 F.elem5 (by decide) rfl rfl (by repeat (first | exact zh | apply zt)) (by first | assumption | exact Arr.mono hg (by assumption) | exact Arr.left (by assumption) | exact Arr.left (Arr.mono hg (by assumption))) (by first | omega | (simp; done) | (simp; omega) | decide) (by first | omega | (simp; done) | (simp; omega) | decide)) ?_
  rintro _ _ ⟨a26, c26, rfl, rfl⟩
  refine O.q 1 rfl <| O.nil <| S.inBlock <| S.region rfl <| O.q 1 rfl <| O.op (.p rfl) (.add rfl rfl (IntWalk.i64_in _ (by omega))) <| O.q 1 rfl <| O.nil ?_
  rw [htk]
  rw [← List.length_append, htk]
  exact S.melt hm1 (S.pw (ih (i + 1) ((a26, c26)) (by omega) (by omega)))
 ·clear ih
  have hi : i = l.length := by omega
  subst hi
  rw [List.take_length]
  refine S.exit rfl <| S.seq <| S.region rfl <| O.q 3 rfl <| O.nil <| S.ret2 Tryz.results44 rfl rfl fun w hw => Holds.end_ hR hw ?_
  exact pk ⟨q.1, q.2, rfl, rfl⟩
end Go.Proofs.YtodhbhanmdfdeaaGreat
end
