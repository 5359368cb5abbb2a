/- Texts of this proof. -/
import Derived.Test.YtodhbhanmdfdeaaGreatQFc
import Derived.Test.YtodhbhanmdfdeaaGreatQImg5
import Derived.Test.YtodhbhanmdfdeaaGreatQSpAuto
open Go Go.Sp
set_option maxRecDepth 100000
attribute [local irreducible] obj Own OwnP
namespace Go.Proofs.YtodhbhanmdfdeaaGreat
theorem recordOf_c {r : Fr} {cs : List Value} {x : RecT} (h : RecRp.rel r cs x) (ho : RecOk big x) :
  Con Tryz.prog 201 #[.agg cs.toArray] r [] (Ret fun v η => v = .int .i64 (recN x : Int) ∧ η = []) := by
 obtain ⟨xa3, xa5, xa6, xc3, xc5, xc6, rfl, k0, k1, k2, k3, k5, k6⟩ := RecRp.sh h
 obtain ⟨o0, o1, o2, o3⟩ := ho
 unfold big at o0 o1 o2 o3
 have hz0 := str_size x.1
 refine Con.of (n := 20) _ rfl Tryz.func201 rfl rfl rfl fun g hg R hR => ?_
 refine S.seq <| S.region rfl <| O.opE (.p rfl) (.box (cs := [_, _, _, _, _, _, _]) rfl rfl) ?_
 rintro _ _ ⟨b1, rfl, rfl⟩
 refine O.q 1 rfl <| O.nil <| S.seq <| S.region rfl <| O.op (.p rfl) (.fieldObj F.fld74x3 rfl) <| O.op (.p rfl) (.lo F.flat72) ?_
 refine O.op (.p rfl) (.len rfl Tryz.underlying72 rfl) <| O.op (.p rfl) (.add rfl rfl (IntWalk.i64_in _ (by omega))) <| O.op (.p rfl) (.fieldObj F.fld74x0 rfl) <| O.op (.p rfl) (.lo F.flat9) ?_
 refine O.op (.p rfl) (.lenS rfl Tryz.underlying9 rfl) <| O.op (.p rfl) (.fieldObj F.fld74x5 rfl) <| O.op (.p rfl) (.lo F.flat31) ?_
 refine O.op (.p rfl) (.len rfl Tryz.underlying31 rfl) <| O.op (.p rfl) (.add rfl rfl (IntWalk.i64_in _ (by omega))) <| O.op (.p rfl) (.fieldObj F.fld74x6 rfl) <| O.op (.p rfl) (.lo F.flat31) ?_
 refine O.op (.p rfl) (.len rfl Tryz.underlying31 rfl) <| O.op (.p rfl) (.add rfl rfl (IntWalk.i64_in _ (by omega))) <| O.op (.p rfl) (.quo rfl rfl (by omega)) <| O.slot 18 (v' := .int .i64 (((x.1.length + x.2.2.2.2.2.1.length + x.2.2.2.2.2.2.1.length) / 8 : Nat) : Int)) rfl (by rw [hz0, Int.tdiv_eq_ediv_of_nonneg (by omega), IntWalk.i64_in _ (by omega)]; rfl) ?_
 refine O.op (.p rfl) (.add rfl rfl (IntWalk.i64_in _ (by omega))) <| O.slot 19 (v' := .int .i64 (recN x : Int)) rfl (by unfold recN; exact congrArg _ (by omega)) ?_
 refine O.q 1 rfl <| O.nil ?_
 exact S.rt Tryz.results201 rfl hR ⟨rfl, rfl⟩
theorem rootOf_c {r : Fr} {cs : List Value} {x : RootT} (h : RootRp.rel r cs x) (ho : RootOk big x) :
  Con Tryz.prog 55 #[.agg cs.toArray] r [] (Ret fun v η => v = .int .i64 (rootN x : Int) ∧ η = []) := by
 obtain ⟨xa3, xa4, xc3, xc4, rfl, k0, k1, k2, k3, k4⟩ := RootRp.sh h
 obtain ⟨o0, o1⟩ := ho
 unfold big at o0 o1
 refine Con.of (n := 12) _ rfl Tryz.func55 rfl rfl rfl fun g hg R hR => ?_
 refine S.seq <| S.region rfl <| O.opE (.p rfl) (.box (cs := [_, _, _, _, _]) rfl rfl) ?_
 rintro _ _ ⟨b1, rfl, rfl⟩
 refine O.q 1 rfl <| O.nil <| S.seq <| S.region rfl <| O.op (.p rfl) (.fieldObj F.fld52x3 rfl) <| O.op (.p rfl) (.lo F.flat31) ?_
 refine O.op (.p rfl) (.len rfl Tryz.underlying31 rfl) <| O.op (.p rfl) (.fieldObj F.fld52x4 rfl) <| O.op (.p rfl) (.lo F.flat31) ?_
 refine O.op (.p rfl) (.len rfl Tryz.underlying31 rfl) <| O.op (.p rfl) (.add rfl rfl (IntWalk.i64_in _ (by omega))) <| O.op (.p rfl) (.quo rfl rfl (by omega)) <| O.slot 10 (v' := .int .i64 (((x.2.2.2.1.length + x.2.2.2.2.1.length) / 8 : Nat) : Int)) rfl (by rw [Int.tdiv_eq_ediv_of_nonneg (by omega), IntWalk.i64_in _ (by omega)]; rfl) ?_
 refine O.op (.p rfl) (.add rfl rfl (IntWalk.i64_in _ (by omega))) <| O.slot 11 (v' := .int .i64 (rootN x : Int)) rfl (by unfold rootN; exact congrArg _ (by omega)) ?_
 refine O.q 1 rfl <| O.nil ?_
 exact S.rt Tryz.results55 rfl hR ⟨rfl, rfl⟩
theorem recordsOf_c {r : Fr} {va : Value} {l : List RecT} {most : Int} (ha : Arr RecRp r va l) (ho : ∀ x ∈ l, RecOk big x) (hl : l.length ≤ big) (hm : 0 ≤ most ∧ most ≤ 1000000000) :
  Con Tryz.prog 99 #[va, .int .i64 most] r [] (Ret fun v η => ∃ n : Nat, v = .int .i64 (n : Int) ∧ (n : Int) ≤ 1000000000000000 ∧ ((n : Int) ≤ most → RecsC n l) ∧ η = []) := by
 unfold big at hl
 obtain ⟨hm0, hm1⟩ := hm
 have har := ha
 refine Con.of (n := 26) _ rfl Tryz.func99 rfl rfl rfl fun g hg R hR => ?_
 have ha := ha.mono hg
 have hbd := ha.bound
 obtain ⟨a1, c1, rfl⟩ := ha.shape
 refine S.seq <| S.region rfl <| O.q 1 rfl <| O.nil <| S.seq <| S.region rfl <| O.q 1 rfl <| O.nil <| S.seq <| S.seq <| S.region rfl <| O.q 1 rfl <| O.nil <| S.block <| S.loopK2 (ι := Nat) (κ := Nat) (fun i n => i ≤ l.length ∧ i ≤ n ∧ (n : Int) ≤ 1000000000000000 ∧ ∀ x ∈ l.take i, recN x ≤ n) (fun i n => [(5, .int .i64 (n : Int)), (6, .int .i64 (i : Int))]) [(0, _), (1, _)] (fun i n => []) (fun i n => l.length - i) (0) (0) (by exact ⟨by simp, by simp, by omega, by simp⟩) (.cons rfl (.cons rfl (.nil))) (.cons rfl (.cons rfl (.nil))) rfl fun i n hx ih => ?_
 have hm1 := meltRefl (g := g)
 obtain ⟨hx1, hx2, hx3, hx4⟩ := hx
 by_cases q1 : ¬ i < l.length
 ·clear ih
  have hi : i = l.length := by omega
  rw [hi, List.take_length] at hx4
  refine S.seq <| S.seq <| S.region rfl <| O.q 2 rfl <| O.op (.p rfl) (.len rfl Tryz.underlying47 rfl) <| O.op (.p rfl) (.lss rfl rfl) <| O.sF 10 rfl (by exact decide_eq_false (by omega)) ?_
  refine O.q 5 rfl <| O.nil <| S.condF rfl <| S.exit rfl <| S.seq <| S.region rfl <| O.q 2 rfl <| O.nil ?_
  exact S.rt Tryz.results99 rfl hR ⟨n, rfl, hx3, fun _ => ⟨by omega, hx4⟩, rfl⟩
 have hi : i < l.length := Classical.not_not.1 q1
 by_cases q2 : ¬ (n : Int) ≤ most
 ·clear ih
  refine S.seq <| S.seq <| S.region rfl <| O.q 2 rfl <| O.op (.p rfl) (.len rfl Tryz.underlying47 rfl) <| O.op (.p rfl) (.lss rfl rfl) <| O.sT 10 rfl (by exact decide_eq_true (by omega)) ?_
  refine O.q 3 rfl <| O.op (.g rfl rfl) (.leq rfl rfl) <| O.sF 14 rfl (by exact decide_eq_false q2) ?_
  refine O.q 1 rfl <| O.nil <| S.condF rfl <| S.exit rfl <| S.seq <| S.region rfl <| O.q 2 rfl <| O.nil ?_
  exact S.rt Tryz.results99 rfl hR ⟨n, rfl, hx3, fun h => absurd h q2, rfl⟩
 replace q2 := Classical.not_not.1 q2
 have hoi := ho _ (List.getElem_mem hi)
 have hri := recN_le hoi
 unfold big at hri
 have hrp : 1 ≤ recN l[i] := by unfold recN; omega
 refine S.seq <| S.seq <| S.region rfl <| O.q 2 rfl <| O.op (.p rfl) (.len rfl Tryz.underlying47 rfl) <| O.op (.p rfl) (.lss rfl rfl) <| O.sT 10 rfl (by exact decide_eq_true (by omega)) ?_
 refine O.q 3 rfl <| O.op (.g rfl rfl) (.leq rfl rfl) <| O.sT 14 rfl (by exact decide_eq_true q2) ?_
 refine O.q 1 rfl <| O.nil <| S.condT rfl <| S.skip <| S.seq <| S.block <| S.region rfl <| O.q 3 rfl <| O.ib (.p rfl) Tryz.underlying47 F.size74 rfl rfl rfl har hg (h := fun p21 cs21 hp21 hrr21 => ?_)
 have hr21 := Rp.rel.mono hrr21 hg
 obtain ⟨ra3_21, ra5_21, ra6_21, rc3_21, rc5_21, rc6_21, rfl, ho0_21, ho1_21, ho2_21, ha3_21, ha5_21, ha6_21⟩ := RecRp.sh hr21
 refine O.op (.p rfl) (.loadAgg Tryz.isAgg74 (by kernel_rfl) rfl hp21) ?_
 refine O.call0 (.p rfl) rfl F.ok201 rfl rfl (recordOf_c (by first | assumption | exact Rp.rel.mono (by assumption) hg) (by assumption)) ?_
 rintro v23 _ ⟨rfl, rfl⟩
 try simp only [zx1, zx2, zx3]
 refine O.op (.p rfl) (.add rfl rfl (IntWalk.i64_in _ (by omega))) <| O.slot 24 (v' := .int .i64 ((n + recN l[i] : Nat) : Int)) rfl (by rw [Int.natCast_add]) ?_
 refine O.q 1 rfl <| O.nil <| S.inBlock <| S.region rfl <| O.q 1 rfl <| O.op (.p rfl) (.add rfl rfl (IntWalk.i64_in _ (by omega))) <| O.q 1 rfl <| O.nil ?_
 exact S.wk (ih (i + 1) (n + recN l[i]) (by exact ⟨by omega, by omega, by omega, mem_take_succ hi (fun x hx => by have := hx4 x hx; omega) (by omega)⟩) (by omega))
theorem leavesOf_c {r : Fr} {va : Value} {l : List LeafT} {most : Int} (ha : Arr LeafRp r va l) (ho : ∀ x ∈ l, LeafOk big x) (hl : l.length ≤ big) (hm : 0 ≤ most ∧ most ≤ 1000000000) :
  Con Tryz.prog 54 #[va, .int .i64 most] r [] (Ret fun v η => ∃ n : Nat, v = .int .i64 (n : Int) ∧ (n : Int) ≤ 3000000000000000 ∧ ((n : Int) ≤ most → LeavesC n l) ∧ η = []) := by
 unfold big at hl
 obtain ⟨hm0, hm1⟩ := hm
 have har := ha
 refine Con.of (n := 39) _ rfl Tryz.func54 rfl rfl rfl fun g hg R hR => ?_
 have ha := ha.mono hg
 have hbd := ha.bound
 obtain ⟨a1, c1, rfl⟩ := ha.shape
 refine S.seq <| S.region rfl <| O.q 1 rfl <| O.nil <| S.seq <| S.region rfl <| O.q 1 rfl <| O.nil <| S.seq <| S.seq <| S.region rfl <| O.q 1 rfl <| O.nil <| S.block <| S.loopK2 (ι := Nat) (κ := Nat) (fun i n => i ≤ l.length ∧ i ≤ n ∧ (n : Int) ≤ 3000000000000000 ∧ ((n : Int) ≤ most → recsIn (l.take i) ≤ n ∧ ∀ x ∈ l.take i, LeafC n x)) (fun i n => [(5, .int .i64 (n : Int)), (6, .int .i64 (i : Int))]) [(0, _), (1, _)] (fun i n => []) (fun i n => l.length - i) (0) (0) (by exact ⟨by simp, by simp, by omega, fun _ => ⟨by simp [recsIn], by simp⟩⟩) (.cons rfl (.cons rfl (.nil))) (.cons rfl (.cons rfl (.nil))) rfl fun i n hx ih => ?_
 have hm1 := meltRefl (g := g)
 obtain ⟨hx1, hx2, hx3, hx4⟩ := hx
 by_cases q1 : ¬ i < l.length
 ·clear ih
  have hi : i = l.length := by omega
  rw [hi, List.take_length] at hx4
  refine S.seq <| S.seq <| S.region rfl <| O.q 2 rfl <| O.op (.p rfl) (.len rfl Tryz.underlying22 rfl) <| O.op (.p rfl) (.lss rfl rfl) <| O.sF 10 rfl (by exact decide_eq_false (by omega)) ?_
  refine O.q 5 rfl <| O.nil <| S.condF rfl <| S.exit rfl <| S.seq <| S.region rfl <| O.q 2 rfl <| O.nil ?_
  exact S.rt Tryz.results54 rfl hR ⟨n, rfl, hx3, fun q => ⟨⟨by omega, (hx4 q).1⟩, (hx4 q).2⟩, rfl⟩
 have hi : i < l.length := Classical.not_not.1 q1
 by_cases q2 : ¬ (n : Int) ≤ most
 ·clear ih
  refine S.seq <| S.seq <| S.region rfl <| O.q 2 rfl <| O.op (.p rfl) (.len rfl Tryz.underlying22 rfl) <| O.op (.p rfl) (.lss rfl rfl) <| O.sT 10 rfl (by exact decide_eq_true (by omega)) ?_
  refine O.q 3 rfl <| O.op (.g rfl rfl) (.leq rfl rfl) <| O.sF 14 rfl (by exact decide_eq_false q2) ?_
  refine O.q 1 rfl <| O.nil <| S.condF rfl <| S.exit rfl <| S.seq <| S.region rfl <| O.q 2 rfl <| O.nil ?_
  exact S.rt Tryz.results54 rfl hR ⟨n, rfl, hx3, fun h => absurd h q2, rfl⟩
 replace q2 := Classical.not_not.1 q2
 have hoi := ho _ (List.getElem_mem hi)
 obtain ⟨ho1, ho2, ho3⟩ := hoi
 have hz0 := str_size l[i].1
 have ho1' : l[i].1.length ≤ 140737488351232 := ho1
 refine S.seq <| S.seq <| S.region rfl <| O.q 2 rfl <| O.op (.p rfl) (.len rfl Tryz.underlying22 rfl) <| O.op (.p rfl) (.lss rfl rfl) <| O.sT 10 rfl (by exact decide_eq_true (by omega)) ?_
 refine O.q 3 rfl <| O.op (.g rfl rfl) (.leq rfl rfl) <| O.sT 14 rfl (by exact decide_eq_true q2) ?_
 refine O.q 1 rfl <| O.nil <| S.condT rfl <| S.skip <| S.seq <| S.block <| S.regionD (L := [0, 1, 2, 3, 4, 5, 6, 7, 8, 9, 10, 11, 12, 13, 14, 15, 16, 17, 18, 19, 20]) F.mixed (by kernel_rfl) <| OD.q 1 rfl <| .quiet (.p rfl) rfl (fun _ => .add rfl rfl (IntWalk.i64_in _ (by omega))) <| OD.q 2 rfl <| OD.ib (.p rfl) Tryz.underlying22 F.size49 rfl rfl rfl har hg (h := fun p22 cs22 hp22 hrr22 => ?_)
 have hr22 := Rp.rel.mono hrr22 hg
 obtain ⟨la1_22, lc1_22, rfl, ho0_22, ha1_22⟩ := LeafRp.sh hr22
 refine .quiet (.p rfl) rfl (fun _ => .fieldAddr F.fld49x0 rfl) <| .quiet (.p rfl) rfl (fun _ => .loadAt F.flat9 rfl hp22 rfl) ?_
 refine .quiet (.p rfl) rfl (fun _ => .lenS rfl Tryz.underlying9 rfl) <| .quiet (.p rfl) rfl (fun _ => .quo rfl rfl (by omega)) <| OD.slot 26 (v' := .int .i64 ((l[i].1.length / 8 : Nat) : Int)) rfl (by rw [hz0, Int.tdiv_eq_ediv_of_nonneg (by omega), IntWalk.i64_in _ (by omega)]; rfl) ?_
 refine .quiet (.p rfl) rfl (fun _ => .add rfl rfl (IntWalk.i64_in _ (by omega))) <| OD.q 2 rfl <| OD.ib (.p rfl) Tryz.underlying22 F.size49 rfl rfl rfl har hg (h := fun p30 cs30 hp30 hrr30 => ?_)
 have hr30 := Rp.rel.mono hrr30 hg
 obtain ⟨la1_30, lc1_30, rfl, ho0_30, ha1_30⟩ := LeafRp.sh hr30
 refine .quiet (.p rfl) rfl (fun _ => .fieldAddr F.fld49x1 rfl) <| .quiet (.p rfl) rfl (fun _ => .loadAt F.flat47 rfl (hp30.drop 1) rfl) ?_
 refine OD.q 2 rfl <| .quiet (.p rfl) rfl (fun _ => .sub rfl rfl (IntWalk.i64_in _ (by omega))) <| OD.call0 (.p rfl) (by kernel_rfl) rfl F.ok99 rfl rfl ((recordsOf_c ha1_30 ho3 ho2 ⟨by omega, by omega⟩)) ?_
 rintro v36 _ ⟨m, rfl, hm2, hm3, rfl⟩
 try simp only [zx1, zx2, zx3]
 refine .quiet (.p rfl) rfl (fun _ => .add rfl rfl (IntWalk.i64_in _ (by omega))) <| OD.slot 37 (v' := .int .i64 ((n + 1 + l[i].1.length / 8 + m : Nat) : Int)) rfl (by exact congrArg _ (by omega)) ?_
 refine OD.q 1 rfl <| ODx.nil <| S.inBlock <| S.region rfl <| O.q 1 rfl <| O.op (.p rfl) (.add rfl rfl (IntWalk.i64_in _ (by omega))) <| O.q 1 rfl <| O.nil ?_
 exact S.wk (ih (i + 1) (n + 1 + l[i].1.length / 8 + m) (by exact ⟨by omega, by omega, by omega, fun q => ⟨by have h7 := (hx4 (by omega)).1; have h8 := (hm3 (by omega)).1; rw [recsIn_succ hi]; omega, mem_take_succ hi (fun x hx => ((hx4 (by omega)).2 x hx).mono (by omega)) ⟨by omega, (hm3 (by omega)).mono (by omega)⟩⟩⟩) (by omega))
theorem heldOf_c {r : Fr} {cs : List Value} {h : HeldT} {most : Int} (hr : HeldRp.rel r cs h) (ho : HeldOk big h) (hm : 0 ≤ most ∧ most ≤ 1000000000) :
  Con Tryz.prog 14 #[.agg cs.toArray, .int .i64 most] r [] (Ret fun v η => ∃ n : Nat, v = .int .i64 (n : Int) ∧ ((n : Int) ≤ most → HeldC n h) ∧ η = []) := by
 obtain ⟨xa0, xa1, xa2, xa3, xc0, xc1, xc2, xc3, rfl, k0, k1, k2, k3⟩ := HeldRp.sh hr
 obtain ⟨⟨o0, o0'⟩, ⟨o1, o1'⟩, ⟨o2, o2'⟩, o3⟩ := ho
 have o1b := o1
 have o2b := o2
 unfold big at o1b o2b o3
 obtain ⟨hm0, hm1⟩ := hm
 have kr1 := k1
 have kr2 := k2
 refine Con.of (n := 67) _ rfl Tryz.func14 rfl rfl rfl fun g hg R hR => ?_
 have k0 := k0.mono hg
 have k1 := k1.mono hg
 have k2 := k2.mono hg
 have k3 := k3.mono hg
 refine S.seq <| S.region rfl <| O.opE (.p rfl) (.box (cs := [_, _, _, _]) rfl rfl) ?_
 rintro _ _ ⟨b2, rfl, rfl⟩
 refine O.q 1 rfl <| O.nil <| S.seq <| S.frzO (by repeat (first | exact zh | apply zt)) fun g hs hm hb2 => ?_
 replace hg := Fr.sub_trans hg hs
 replace hR := melted hR hm
 try replace k0 := k0.mono hs
 try replace k1 := k1.mono hs
 try replace k2 := k2.mono hs
 try replace k3 := k3.mono hs
 clear hs hm
 refine S.regionD (L := [0, 1, 2, 3, 4, 5, 6, 7, 8, 9]) F.mixed (by kernel_rfl) ?_
 refine .quiet (.p rfl) rfl (fun _ => .fieldAddr F.fld27x3 rfl) <| .quiet (.p rfl) rfl (fun _ => .loadAt F.flat25 rfl (hb2.drop 3) rfl) ?_
 refine .quiet (.p rfl) rfl (fun _ => .len rfl Tryz.underlying25 rfl) <| .quiet (.p rfl) rfl (fun _ => .add rfl rfl (IntWalk.i64_in _ (by omega))) <| .quiet (.p rfl) rfl (fun _ => .fieldAddr F.fld27x0 rfl) <| .quiet (.p rfl) rfl (fun _ => .loadAt F.flat22 rfl hb2 rfl) ?_
 refine OD.q 1 rfl <| OD.call0 (.p rfl) (by kernel_rfl) rfl F.ok54 rfl rfl ((leavesOf_c k0 o0' o0 ⟨hm0, hm1⟩)) ?_
 rintro v15 _ ⟨m, rfl, hm2, hm3, rfl⟩
 try simp only [zx1, zx2, zx3]
 refine .quiet (.p rfl) rfl (fun _ => .add rfl rfl (IntWalk.i64_in _ (by omega))) <| OD.slot 16 (v' := .int .i64 ((1 + h.2.2.2.1.length + m : Nat) : Int)) rfl (by exact congrArg _ (by omega)) ?_
 refine OD.q 1 rfl <| ODx.nil (S.seq (S.seq ?_))
 generalize hn : 1 + h.2.2.2.1.length + m = n0
 refine S.region rfl <| O.q 1 rfl <| O.nil <| S.block <| S.loopK2 (ι := Nat) (κ := Nat) (fun i n => i ≤ h.2.1.length ∧ i ≤ n ∧ n0 ≤ n ∧ (n : Int) ≤ 4000000000000000 ∧ ((n : Int) ≤ most → ∀ x ∈ h.2.1.take i, rootN x ≤ n)) (fun i n => [(5, .int .i64 (n : Int)), (6, .int .i64 (i : Int))]) [(1, _), (2, _)] (fun i n => []) (fun i n => h.2.1.length - i) (0) (n0) (by exact ⟨by simp, by simp, by omega, by omega, by simp⟩) (.cons rfl (.cons rfl (.nil))) (.cons rfl (.cons rfl (.nil))) rfl fun i n hx ih => ?_
 have hm1 := meltRefl (g := g)
 obtain ⟨hx1, hx2, hx3, hx4, hx5⟩ := hx
 by_cases q : i < h.2.1.length ∧ (n : Int) ≤ most
 ·obtain ⟨hi, q2⟩ := q
  have hoi := o1' _ (List.getElem_mem hi)
  have hri := rootN_le hoi
  unfold big at hri
  have hrp : 1 ≤ rootN h.2.1[i] := by unfold rootN; omega
  refine S.seq <| S.seq <| S.region rfl <| O.q 1 rfl <| O.op (.p rfl) (.fieldAddr F.fld27x1 rfl) <| O.op (.p rfl) (.loadAt F.flat23 rfl (hb2.drop 1) rfl) ?_
  refine O.op (.p rfl) (.len rfl Tryz.underlying23 rfl) <| O.op (.p rfl) (.lss rfl rfl) <| O.sT 21 rfl (by exact decide_eq_true (by omega)) ?_
  refine O.q 3 rfl <| O.op (.g rfl rfl) (.leq rfl rfl) <| O.sT 25 rfl (by exact decide_eq_true q2) ?_
  refine O.q 1 rfl <| O.nil <| S.condT rfl <| S.skip <| S.seq <| S.block <| S.region rfl <| O.q 1 rfl <| O.op (.p rfl) (.fieldAddr F.fld27x1 rfl) <| O.op (.p rfl) (.loadAt F.flat23 rfl (hb2.drop 1) rfl) ?_
  refine O.q 1 rfl <| O.ib (.p rfl) Tryz.underlying23 F.size52 rfl rfl rfl kr1 hg (h := fun p33 cs33 hp33 hrr33 => ?_)
  have hr33 := Rp.rel.mono hrr33 hg
  obtain ⟨ta3_33, ta4_33, tc3_33, tc4_33, rfl, ho0_33, ho1_33, ho2_33, ha3_33, ha4_33⟩ := RootRp.sh hr33
  refine O.op (.p rfl) (.loadAgg Tryz.isAgg52 (by kernel_rfl) rfl hp33) ?_
  refine O.call0 (.p rfl) rfl F.ok55 rfl rfl (rootOf_c (by first | assumption | exact Rp.rel.mono (by assumption) hg) (by assumption)) ?_
  rintro v35 _ ⟨rfl, rfl⟩
  try simp only [zx1, zx2, zx3]
  refine O.op (.p rfl) (.add rfl rfl (IntWalk.i64_in _ (by omega))) <| O.slot 36 (v' := .int .i64 ((n + rootN h.2.1[i] : Nat) : Int)) rfl (by rw [Int.natCast_add]) ?_
  refine O.q 1 rfl <| O.nil <| S.inBlock <| S.region rfl <| O.q 1 rfl <| O.op (.p rfl) (.add rfl rfl (IntWalk.i64_in _ (by omega))) <| O.q 1 rfl <| O.nil ?_
  exact S.wk (ih (i + 1) (n + rootN h.2.1[i]) (by exact ⟨by omega, by omega, by omega, by omega, fun q => mem_take_succ hi (fun x hx => by have := hx5 (by omega) x hx; omega) (by omega)⟩) (by omega))
 ·clear ih
  have hx5' : (n : Int) ≤ most → RootsC n h.2.1 := fun q' => by
   have hi : i = h.2.1.length := by
    by_cases q3 : i < h.2.1.length
    ·exact absurd ⟨q3, q'⟩ q
    ·omega
   have := hx5 q'
   rw [hi, List.take_length] at this
   exact ⟨by omega, this⟩
  clear hx5
  refine S.cut3 (fun (u : Unit) => True) (fun (u : Unit) => [(5, .int .i64 (n : Int))]) [(1, _), (2, _)] (fun (u : Unit) => []) (.cons rfl (.cons rfl (.nil))) (fun key => ?_) (fun u hx => ?_)
  ·have hm2 := meltRefl (g := g)
   by_cases q1 : i < h.2.1.length
   ·
    refine S.seq <| S.seq <| S.region rfl <| O.q 1 rfl <| O.op (.p rfl) (.fieldAddr F.fld27x1 rfl) <| O.op (.p rfl) (.loadAt F.flat23 rfl (hb2.drop 1) rfl) ?_
    refine O.op (.p rfl) (.len rfl Tryz.underlying23 rfl) <| O.op (.p rfl) (.lss rfl rfl) <| O.sT 21 rfl (by exact decide_eq_true (by omega)) ?_
    refine O.q 3 rfl <| O.op (.g rfl rfl) (.leq rfl rfl) <| O.sF 25 rfl (by exact decide_eq_false (fun q2 => q ⟨q1, q2⟩)) ?_
    refine O.q 1 rfl <| O.nil <| S.condF rfl <| S.exit rfl <| S.pk ?_ (S.weaken ?_ (key (()) (by trivial)))
    ·repeat (first | exact zpa | exact zpn | (apply zpc; focus (repeat (first | exact zh | apply zt))) | apply zps)
    repeat (first | exact Sub.nil | refine Sub.cons rfl ?_)
   ·
    refine S.seq <| S.seq <| S.region rfl <| O.q 1 rfl <| O.op (.p rfl) (.fieldAddr F.fld27x1 rfl) <| O.op (.p rfl) (.loadAt F.flat23 rfl (hb2.drop 1) rfl) ?_
    refine O.op (.p rfl) (.len rfl Tryz.underlying23 rfl) <| O.op (.p rfl) (.lss rfl rfl) <| O.sF 21 rfl (by exact decide_eq_false (by omega)) ?_
    refine O.q 5 rfl <| O.nil <| S.condF rfl <| S.exit rfl <| S.pk ?_ (S.weaken ?_ (key (()) (by trivial)))
    ·repeat (first | exact zpa | exact zpn | (apply zpc; focus (repeat (first | exact zh | apply zt))) | apply zps)
    repeat (first | exact Sub.nil | refine Sub.cons rfl ?_)
  ·clear q
   generalize n = n1 at hx3 hx4 hx5' ⊢
   refine S.seq <| S.seq <| S.region rfl <| O.q 1 rfl <| O.nil <| S.block <| S.loopK2 (ι := Nat) (κ := Nat) (fun i n => i ≤ h.2.2.1.length ∧ i ≤ n ∧ n1 ≤ n ∧ (n : Int) ≤ 5000000000000000 ∧ ((n : Int) ≤ most → ∀ x ∈ h.2.2.1.take i, rootN x.1 ≤ n ∧ rootN x.2.1 ≤ n)) (fun i n => [(5, .int .i64 (n : Int)), (7, .int .i64 (i : Int))]) [(1, _), (2, _)] (fun i n => []) (fun i n => h.2.2.1.length - i) (0) (n1) (by exact ⟨by simp, by simp, by omega, by omega, by simp⟩) (.cons rfl (.cons rfl (.nil))) (.cons rfl (.cons rfl (.nil))) rfl fun i n hx ih => ?_
   have hm2 := meltRefl (g := g)
   obtain ⟨hy1, hy2, hy3, hy4, hy5⟩ := hx
   by_cases q : i < h.2.2.1.length ∧ (n : Int) ≤ most
   ·obtain ⟨hi, q2⟩ := q
    obtain ⟨ho3, ho4, ho5, ho6⟩ := o2' _ (List.getElem_mem hi)
    have hoi1 : RootOk big h.2.2.1[i].1 := ⟨ho3, ho4⟩
    have hoi2 : RootOk big h.2.2.1[i].2.1 := ⟨ho5, ho6⟩
    have hri1 := rootN_le hoi1
    have hri2 := rootN_le hoi2
    unfold big at hri1 hri2
    have hrp1 : 1 ≤ rootN h.2.2.1[i].1 := by unfold rootN; omega
    have hrp2 : 1 ≤ rootN h.2.2.1[i].2.1 := by unfold rootN; omega
    refine S.seq <| S.seq <| S.region rfl <| O.q 1 rfl <| O.op (.p rfl) (.fieldAddr F.fld27x2 rfl) <| O.op (.p rfl) (.loadAt F.flat24 rfl (hb2.drop 2) rfl) ?_
    refine O.op (.p rfl) (.len rfl Tryz.underlying24 rfl) <| O.op (.p rfl) (.lss rfl rfl) <| O.sT 41 rfl (by exact decide_eq_true (by omega)) ?_
    refine O.q 3 rfl <| O.op (.g rfl rfl) (.leq rfl rfl) <| O.sT 45 rfl (by exact decide_eq_true q2) ?_
    refine O.q 1 rfl <| O.nil <| S.condT rfl <| S.skip <| S.seq <| S.block <| S.regionD (L := [0, 1, 2, 3, 4, 5, 6, 9, 10, 11, 12, 13, 14, 7, 8, 15, 16, 17]) F.mixed (by kernel_rfl) <| OD.q 1 rfl <| .quiet (.p rfl) rfl (fun _ => .fieldAddr F.fld27x2 rfl) <| .quiet (.p rfl) rfl (fun _ => .loadAt F.flat24 rfl (hb2.drop 2) rfl) ?_
    refine OD.q 1 rfl <| OD.ib (.p rfl) Tryz.underlying24 F.size55 rfl rfl rfl kr2 hg (h := fun p53 cs53 hp53 hrr53 => ?_)
    have hr53 := Rp.rel.mono hrr53 hg
    obtain ⟨ea3_53, ea4_53, ea8_53, ea9_53, ec3_53, ec4_53, ec8_53, ec9_53, rfl, ho0_53, ho1_53, ho2_53, ha3_53, ha4_53, ho5_53, ho6_53, ho7_53, ha8_53, ha9_53⟩ := EvdRp.sh hr53
    refine .quiet (.p rfl) rfl (fun _ => .fieldAddr F.fld55x0 rfl) <| .quiet (.p rfl) rfl (fun _ => .loadAgg (cs := [_, _, _, _, _]) Tryz.isAgg52 (by kernel_rfl) rfl (hp53.take 5)) ?_
    refine .quiet (.p rfl) rfl (fun _ => .fieldAddr F.fld27x2 rfl) <| .quiet (.p rfl) rfl (fun _ => .loadAt F.flat24 rfl (hb2.drop 2) rfl) ?_
    refine OD.q 1 rfl <| OD.ib (.p rfl) Tryz.underlying24 F.size55 rfl rfl rfl kr2 hg (h := fun p61 cs61 hp61 hrr61 => ?_)
    have hr61 := Rp.rel.mono hrr61 hg
    obtain ⟨ea3_61, ea4_61, ea8_61, ea9_61, ec3_61, ec4_61, ec8_61, ec9_61, rfl, ho0_61, ho1_61, ho2_61, ha3_61, ha4_61, ho5_61, ho6_61, ho7_61, ha8_61, ha9_61⟩ := EvdRp.sh hr61
    refine .quiet (.p rfl) rfl (fun _ => .fieldAddr F.fld55x1 rfl) <| .quiet (.p rfl) rfl (fun _ => .loadAgg (cs := [_, _, _, _, _]) Tryz.isAgg52 (by kernel_rfl) rfl ((hp61.drop 5).take 5)) ?_
    refine OD.call0 (.p rfl) (by kernel_rfl) rfl F.ok55 rfl rfl ((rootOf_c (x := h.2.2.1[i].1) (RootRp.mk ho0_53 ho1_53 ho2_53 ha3_53 ha4_53) hoi1)) ?_
    rintro v56 _ ⟨rfl, rfl⟩
    try simp only [zx1, zx2, zx3]
    refine .quiet (.p rfl) rfl (fun _ => .add rfl rfl (IntWalk.i64_in _ (by omega))) <| OD.call0 (.p rfl) (by kernel_rfl) rfl F.ok55 rfl rfl ((rootOf_c (x := h.2.2.1[i].2.1) (RootRp.mk ho5_61 ho6_61 ho7_61 ha8_61 ha9_61) hoi2)) ?_
    rintro v64 _ ⟨rfl, rfl⟩
    try simp only [zx1, zx2, zx3]
    refine .quiet (.p rfl) rfl (fun _ => .add rfl rfl (IntWalk.i64_in _ (by omega))) <| OD.slot 65 (v' := .int .i64 ((n + rootN h.2.2.1[i].1 + rootN h.2.2.1[i].2.1 : Nat) : Int)) rfl (by exact congrArg _ (by omega)) ?_
    refine OD.q 1 rfl <| ODx.nil <| S.inBlock <| S.region rfl <| O.q 1 rfl <| O.op (.p rfl) (.add rfl rfl (IntWalk.i64_in _ (by omega))) <| O.q 1 rfl <| O.nil ?_
    exact S.wk (ih (i + 1) (n + rootN h.2.2.1[i].1 + rootN h.2.2.1[i].2.1) (by exact ⟨by omega, by omega, by omega, by omega, fun q => mem_take_succ hi (fun x hx => by have := hy5 (by omega) x hx; omega) (by omega)⟩) (by omega))
   ·clear ih
    have hy5' : (n : Int) ≤ most → EvdsC n h.2.2.1 := fun q' => by
     have hi : i = h.2.2.1.length := by
      by_cases q3 : i < h.2.2.1.length
      ·exact absurd ⟨q3, q'⟩ q
      ·omega
     have := hy5 q'
     rw [hi, List.take_length] at this
     exact ⟨by omega, this⟩
    clear hy5
    have fin : (n : Int) ≤ most → HeldC n h := fun q' => ⟨(hm3 (by omega)).mono (by omega), (hx5' (by omega)).mono hy3, hy5' q', by omega⟩
    by_cases q1 : i < h.2.2.1.length
    ·
     refine S.seq <| S.seq <| S.region rfl <| O.q 1 rfl <| O.op (.p rfl) (.fieldAddr F.fld27x2 rfl) <| O.op (.p rfl) (.loadAt F.flat24 rfl (hb2.drop 2) rfl) ?_
     refine O.op (.p rfl) (.len rfl Tryz.underlying24 rfl) <| O.op (.p rfl) (.lss rfl rfl) <| O.sT 41 rfl (by exact decide_eq_true (by omega)) ?_
     refine O.q 3 rfl <| O.op (.g rfl rfl) (.leq rfl rfl) <| O.sF 45 rfl (by exact decide_eq_false (fun q2 => q ⟨q1, q2⟩)) ?_
     refine O.q 1 rfl <| O.nil <| S.condF rfl <| S.exit rfl <| S.seq <| S.region rfl <| O.q 2 rfl <| O.nil ?_
     exact S.rt Tryz.results14 rfl hR ⟨n, rfl, fin, rfl⟩
    ·
     refine S.seq <| S.seq <| S.region rfl <| O.q 1 rfl <| O.op (.p rfl) (.fieldAddr F.fld27x2 rfl) <| O.op (.p rfl) (.loadAt F.flat24 rfl (hb2.drop 2) rfl) ?_
     refine O.op (.p rfl) (.len rfl Tryz.underlying24 rfl) <| O.op (.p rfl) (.lss rfl rfl) <| O.sF 41 rfl (by exact decide_eq_false (by omega)) ?_
     refine O.q 5 rfl <| O.nil <| S.condF rfl <| S.exit rfl <| S.seq <| S.region rfl <| O.q 2 rfl <| O.nil ?_
     exact S.rt Tryz.results14 rfl hR ⟨n, rfl, fin, rfl⟩
end Go.Proofs.YtodhbhanmdfdeaaGreat
