/- Texts of this proof, one behind the other. -/
import Derived.Test.YtodhbhanmdfdeaaGreatQFc
import Derived.Test.YtodhbhanmdfdeaaGreatQImg3
import Derived.Test.YtodhbhanmdfdeaaGreatQSpAuto
section
/- Texts of this proof. -/
open Go Go.Sp
set_option maxRecDepth 100000
attribute [local irreducible] obj Own OwnP
namespace Go.Proofs.YtodhbhanmdfdeaaGreat
theorem rowsL_c {r : Fr} {b : Nat} {s : WSt} {va : Value} {l : List LeafT} (ha : Arr LeafRp r va l) (hx : ∀ x ∈ l, x.2.1.length ≤ 3000) (hn : l.length ≤ 3000) (hb : s.out.length ≤ 100000000000000) (hs : s.seen.length ≤ 10000) :
  Con Tryz.prog 145 #[.pointer (some ⟨b, 0, none⟩), va, .func (.func 146) #[.pointer (some ⟨b, 0, none⟩)] #[]] r [WrB b s] (RetP (fun v η => v = .tuple #[] ∧ ∃ s', rowSteps leafStep s l = some s' ∧ η = [WrB b s']) (fun ch η => rowSteps leafStep s l = none ∧ ch = errP 32 4 ∧ η = [])) := by
 have har := ha
 refine Con.of (n := 26) _ rfl Tryz.func145 rfl rfl rfl fun g hg R hR => ?_
 have ha := ha.mono hg
 have hbd := ha.bound
 obtain ⟨a1, c1, rfl⟩ := ha.shape
 have hfl : [be l.length].flatten = be l.length := by simp
 refine S.open (A := WrB b s) (by repeat (first | exact zh | apply zt)) (fun m x => x) fun p => ?_
 simp only [List.cons_append, List.nil_append]
 refine S.seq <| S.regionD (L := [0, 1, 2, 3, 4, 5, 6, 7]) F.mixed (by kernel_rfl) <| OD.q 1 rfl <| .quiet (.p rfl) rfl (fun _ => .nilCheck rfl) <| .quiet (.p rfl) rfl (fun _ => .fieldObj F.fld186x0 rfl) <| OD.q 1 rfl <| .quiet (.p rfl) rfl (fun _ => .len rfl Tryz.underlying22 rfl) <| OD.call0 (.p rfl) (by kernel_rfl) rfl F.ok117 rfl rfl (wNumber_c _) ?_
 rintro v13 _ ⟨a13, c13, rfl, rfl⟩
 try simp only [zx1, zx2, zx3]
 refine OD.litP (T := Rp.val) (ys := [_]) (.p rfl) (by kernel_rfl) Tryz.underlying39 F.elem31 (by decide) rfl rfl ⟨⟨rfl, rfl⟩, trivial⟩ (by decide) (fun a14 c14 => ?_)
 refine OD.callSs (.p rfl) (by kernel_rfl) rfl F.ok236 rfl rfl (by repeat (first | exact zsn | (apply zsc; focus (repeat (first | exact zh | apply zt))))) (Con.lentW (η := [obj b 186 [.slice p.1.1.1 s.out.length p.1.1.2, .string (str s.key), .int .i64 s.rep, .int .i64 s.shard, .int .i64 p.2.1, .slice p.2.2.1.1 p.2.2.1.2.1 p.2.2.1.2.2, .slice p.2.2.2.1 p.2.2.2.2.1 p.2.2.2.2.2, .int .i64 s.last, .slice p.1.2.1 s.seen.length p.1.2.2], OwnP Rp.u8 5 (.slice p.1.1.1 s.out.length p.1.1.2) s.out]) (bs := [OwnP Rp.val 31 (.slice a14 1 c14) [.slice a13 8 c13], OwnP Rp.u8 5 (.slice a13 8 c13) (be l.length)]) (fun m hm hd => bput_c (xss := [be l.length]) ((hm.arr.right hd).rows ⟨hm.tail.arr.right hd, trivial⟩) (by rw [hfl]; simp; omega) rfl)) ?_
 rintro v15 _ ⟨_, ⟨a15, c15, rfl, rfl⟩, rfl⟩
 try simp only [zx1, zx2, zx3]
 rw [hfl]
 refine ODx.nil (S.seq ?_)
 generalize hs0 : ({ s with out := s.out ++ be l.length } : WSt) = s0
 have hs1 : s0.out.length = s.out.length + 8 := by rw [← hs0]; simp
 have hs2 : s0.seen.length = s.seen.length := by rw [← hs0]
 refine S.foldS (A := WrB b s0) (bs := [obj b 186 [.slice a15 (s.out ++ be l.length).length c15, .string (str s.key), .int .i64 s.rep, .int .i64 s.shard, .int .i64 p.2.1, .slice p.2.2.1.1 p.2.2.1.2.1 p.2.2.1.2.2, .slice p.2.2.2.1 p.2.2.2.2.1 p.2.2.2.2.2, .int .i64 s.last, .slice p.1.2.1 s.seen.length p.1.2.2], OwnP Rp.u8 5 (.slice a15 (s.out ++ be l.length).length c15) (s.out ++ be l.length), OwnP Rp.str 9 (.slice p.1.2.1 s.seen.length p.1.2.2) s.seen]) (by repeat (first | exact zsn | (apply zsc; focus (repeat (first | exact zh | apply zt))))) (fun m x => ⟨(((a15, c15), p.1.2), p.2), by rw [← hs0]; exact x⟩) ?_
 refine S.keep [WrB b s0] (by repeat (first | exact zpa | exact zpn | (apply zpc; focus (repeat (first | exact zh | apply zt))) | apply zps)) ?_
 have hle : ∀ i (s' : WSt), (l.take i).foldlM leafStep s0 = some s' → s'.out.length ≤ s0.out.length + 5000000 * (l.take i).length ∧ s'.seen.length ≤ s0.seen.length + (l.take i).length :=
  fun i s' h => steps_le leafStep _ _ _ (fun x hm t t' e => leafStep_le (hx _ (List.mem_of_mem_take hm)) e) h
 have hgo : rowSteps leafStep s l = l.foldlM leafStep s0 := by rw [← hs0]; rfl
 refine S.region rfl <| O.q 1 rfl <| O.op (.p rfl) (.len rfl Tryz.underlying22 rfl) <| O.q 1 rfl <| O.nil <| S.block <| S.loopK2 (ι := Nat) (κ := WSt) (fun i t => i ≤ l.length ∧ (l.take i).foldlM leafStep s0 = some t) (fun i t => [(18, .int .i64 (i : Int))]) [(2, _), (16, _), (17, _)] (fun i t => [WrB b t]) (fun i t => l.length - i) (0) (s0) (by exact ⟨by simp, by simp⟩) (.cons rfl (.nil)) (.cons rfl (.cons rfl (.cons rfl (.nil)))) rfl fun i t hx ih => ?_
 have hm1 := meltRefl (g := g)
 obtain ⟨hx1, hx2⟩ := hx
 have hle1 := hle i t hx2
 have hle2 : (l.take i).length ≤ 3000 := by rw [List.length_take]; omega
 refine S.seq <| S.region rfl <| O.op (.p rfl) (.lss rfl rfl) <| O.nil (S.seq ?_)
 first | refine S.condD rfl (fun h19 => ?_) (fun h19 => ?_) | refine S.condB rfl (fun h19 => ?_) (fun h19 => ?_)
 ·have hi : i < l.length := by omega
  have hnx := foldlM_next leafStep s0 t l i hi hx2
  refine S.skip <| S.seq <| S.block <| S.seq <| S.region rfl <| O.ib (.p rfl) Tryz.underlying22 F.size49 rfl rfl rfl har hg (h := fun p20 cs20 hp20 hrr20 => ?_)
  have hr20 := Rp.rel.mono hrr20 hg
  obtain ⟨la1_20, lc1_20, rfl, ho0_20, ha1_20⟩ := LeafRp.sh hr20
  refine O.op (.p rfl) (.loadAgg Tryz.isAgg49 (by kernel_rfl) rfl hp20) ?_
  refine O.opE (.p rfl) (.alloc (cs := [.string ⟨#[]⟩, .slice none 0 0]) Tryz.zeroValue49 rfl) ?_
  rintro _ _ ⟨b7, rfl, rfl⟩
  refine O.opU rfl (.storeObj (by kernel_rfl) rfl rfl rfl rfl (by repeat (first | exact zh | apply zt)) (by first | (simp; done) | (simp [Value.cells]; done))) ?_
  refine O.nil <| S.region rfl <| O.q 1 rfl <| O.op (.p rfl) (.loA (news := [_, _]) Tryz.isAgg49) ?_
  refine O.callPS (.p rfl) rfl F.ok146 rfl rfl (by repeat (first | exact zh | apply zt)) (leaf_c hr20 (by have := hx _ (List.getElem_mem hi); omega) (by omega)) (fun ch η' w hX hW => by (obtain ⟨hb, rfl, rfl⟩ := hX; exact hR _ _ w ⟨hgo.trans (foldlM_take leafStep s0 l (i + 1) (hnx.trans hb)), rfl, rfl⟩ hW.drop_all)) ?_
  rintro v24 _ ⟨rfl, t24, hst, rfl⟩
  try simp only [zx1, zx2, zx3]
  refine O.nil <| S.inBlock <| S.region rfl <| O.op (.p rfl) (.add rfl rfl (IntWalk.i64_in _ (by omega))) <| O.q 1 rfl <| O.nil ?_
  exact S.pw (ih (i + 1) (t24) (by exact ⟨by omega, hnx.trans hst⟩) (by omega))
 ·clear ih
  have hi : i = l.length := by omega
  subst hi
  rw [List.take_length] at hx2
  refine S.exit rfl <| S.end0 Tryz.results145 fun w hw => Holds.end_ hR hw ?_
  exact pk ⟨rfl, t, hgo.trans hx2, rfl⟩
theorem rowsR_c {r : Fr} {b : Nat} {s : WSt} {va : Value} {l : List RootT} (ha : Arr RootRp r va l)  (hn : l.length ≤ 3000) (hb : s.out.length ≤ 100000000000000) (hs : s.seen.length ≤ 10000) :
  Con Tryz.prog 147 #[.pointer (some ⟨b, 0, none⟩), va, .func (.func 148) #[.pointer (some ⟨b, 0, none⟩)] #[]] r [WrB b s] (RetP (fun v η => v = .tuple #[] ∧ ∃ s', rowSteps rootStep s l = some s' ∧ η = [WrB b s']) (fun ch η => rowSteps rootStep s l = none ∧ ch = errP 32 4 ∧ η = [])) := by
 have har := ha
 refine Con.of (n := 26) _ rfl Tryz.func147 rfl rfl rfl fun g hg R hR => ?_
 have ha := ha.mono hg
 have hbd := ha.bound
 obtain ⟨a1, c1, rfl⟩ := ha.shape
 have hfl : [be l.length].flatten = be l.length := by simp
 refine S.open (A := WrB b s) (by repeat (first | exact zh | apply zt)) (fun m x => x) fun p => ?_
 simp only [List.cons_append, List.nil_append]
 refine S.seq <| S.regionD (L := [0, 1, 2, 3, 4, 5, 6, 7]) F.mixed (by kernel_rfl) <| OD.q 1 rfl <| .quiet (.p rfl) rfl (fun _ => .nilCheck rfl) <| .quiet (.p rfl) rfl (fun _ => .fieldObj F.fld186x0 rfl) <| OD.q 1 rfl <| .quiet (.p rfl) rfl (fun _ => .len rfl Tryz.underlying23 rfl) <| OD.call0 (.p rfl) (by kernel_rfl) rfl F.ok117 rfl rfl (wNumber_c _) ?_
 rintro v13 _ ⟨a13, c13, rfl, rfl⟩
 try simp only [zx1, zx2, zx3]
 refine OD.litP (T := Rp.val) (ys := [_]) (.p rfl) (by kernel_rfl) Tryz.underlying39 F.elem31 (by decide) rfl rfl ⟨⟨rfl, rfl⟩, trivial⟩ (by decide) (fun a14 c14 => ?_)
 refine OD.callSs (.p rfl) (by kernel_rfl) rfl F.ok236 rfl rfl (by repeat (first | exact zsn | (apply zsc; focus (repeat (first | exact zh | apply zt))))) (Con.lentW (η := [obj b 186 [.slice p.1.1.1 s.out.length p.1.1.2, .string (str s.key), .int .i64 s.rep, .int .i64 s.shard, .int .i64 p.2.1, .slice p.2.2.1.1 p.2.2.1.2.1 p.2.2.1.2.2, .slice p.2.2.2.1 p.2.2.2.2.1 p.2.2.2.2.2, .int .i64 s.last, .slice p.1.2.1 s.seen.length p.1.2.2], OwnP Rp.u8 5 (.slice p.1.1.1 s.out.length p.1.1.2) s.out]) (bs := [OwnP Rp.val 31 (.slice a14 1 c14) [.slice a13 8 c13], OwnP Rp.u8 5 (.slice a13 8 c13) (be l.length)]) (fun m hm hd => bput_c (xss := [be l.length]) ((hm.arr.right hd).rows ⟨hm.tail.arr.right hd, trivial⟩) (by rw [hfl]; simp; omega) rfl)) ?_
 rintro v15 _ ⟨_, ⟨a15, c15, rfl, rfl⟩, rfl⟩
 try simp only [zx1, zx2, zx3]
 rw [hfl]
 refine ODx.nil (S.seq ?_)
 generalize hs0 : ({ s with out := s.out ++ be l.length } : WSt) = s0
 have hs1 : s0.out.length = s.out.length + 8 := by rw [← hs0]; simp
 have hs2 : s0.seen.length = s.seen.length := by rw [← hs0]
 refine S.foldS (A := WrB b s0) (bs := [obj b 186 [.slice a15 (s.out ++ be l.length).length c15, .string (str s.key), .int .i64 s.rep, .int .i64 s.shard, .int .i64 p.2.1, .slice p.2.2.1.1 p.2.2.1.2.1 p.2.2.1.2.2, .slice p.2.2.2.1 p.2.2.2.2.1 p.2.2.2.2.2, .int .i64 s.last, .slice p.1.2.1 s.seen.length p.1.2.2], OwnP Rp.u8 5 (.slice a15 (s.out ++ be l.length).length c15) (s.out ++ be l.length), OwnP Rp.str 9 (.slice p.1.2.1 s.seen.length p.1.2.2) s.seen]) (by repeat (first | exact zsn | (apply zsc; focus (repeat (first | exact zh | apply zt))))) (fun m x => ⟨(((a15, c15), p.1.2), p.2), by rw [← hs0]; exact x⟩) ?_
 refine S.keep [WrB b s0] (by repeat (first | exact zpa | exact zpn | (apply zpc; focus (repeat (first | exact zh | apply zt))) | apply zps)) ?_
 have hle : ∀ i (s' : WSt), (l.take i).foldlM rootStep s0 = some s' → s'.out.length ≤ s0.out.length + 5000000 * (l.take i).length ∧ s'.seen.length ≤ s0.seen.length + (l.take i).length :=
  fun i s' h => steps_le rootStep _ _ _ (fun x hm t t' e => rootStep_le e) h
 have hgo : rowSteps rootStep s l = l.foldlM rootStep s0 := by rw [← hs0]; rfl
 refine S.region rfl <| O.q 1 rfl <| O.op (.p rfl) (.len rfl Tryz.underlying23 rfl) <| O.q 1 rfl <| O.nil <| S.block <| S.loopK2 (ι := Nat) (κ := WSt) (fun i t => i ≤ l.length ∧ (l.take i).foldlM rootStep s0 = some t) (fun i t => [(18, .int .i64 (i : Int))]) [(2, _), (16, _), (17, _)] (fun i t => [WrB b t]) (fun i t => l.length - i) (0) (s0) (by exact ⟨by simp, by simp⟩) (.cons rfl (.nil)) (.cons rfl (.cons rfl (.cons rfl (.nil)))) rfl fun i t hx ih => ?_
 have hm1 := meltRefl (g := g)
 obtain ⟨hx1, hx2⟩ := hx
 have hle1 := hle i t hx2
 have hle2 : (l.take i).length ≤ 3000 := by rw [List.length_take]; omega
 refine S.seq <| S.region rfl <| O.op (.p rfl) (.lss rfl rfl) <| O.nil (S.seq ?_)
 first | refine S.condD rfl (fun h19 => ?_) (fun h19 => ?_) | refine S.condB rfl (fun h19 => ?_) (fun h19 => ?_)
 ·have hi : i < l.length := by omega
  have hnx := foldlM_next rootStep s0 t l i hi hx2
  refine S.skip <| S.seq <| S.block <| S.seq <| S.region rfl <| O.ib (.p rfl) Tryz.underlying23 F.size52 rfl rfl rfl har hg (h := fun p20 cs20 hp20 hrr20 => ?_)
  have hr20 := Rp.rel.mono hrr20 hg
  obtain ⟨ta3_20, ta4_20, tc3_20, tc4_20, rfl, ho0_20, ho1_20, ho2_20, ha3_20, ha4_20⟩ := RootRp.sh hr20
  refine O.op (.p rfl) (.loadAgg Tryz.isAgg52 (by kernel_rfl) rfl hp20) ?_
  refine O.opE (.p rfl) (.alloc (cs := [.int .i64 0, .int .i64 0, .int .i64 0, .slice none 0 0, .slice none 0 0]) Tryz.zeroValue52 rfl) ?_
  rintro _ _ ⟨b7, rfl, rfl⟩
  refine O.opU rfl (.storeObj (by kernel_rfl) rfl rfl rfl rfl (by repeat (first | exact zh | apply zt)) (by first | (simp; done) | (simp [Value.cells]; done))) ?_
  refine O.nil <| S.region rfl <| O.q 1 rfl <| O.op (.p rfl) (.loA (news := [_, _, _, _, _]) Tryz.isAgg52) ?_
  refine O.callPS (.p rfl) rfl F.ok148 rfl rfl (by repeat (first | exact zh | apply zt)) (wown_c hr20 (by omega)) (fun ch η' w hX hW => by (obtain ⟨hb, rfl, rfl⟩ := hX; exact hR _ _ w ⟨hgo.trans (foldlM_take rootStep s0 l (i + 1) (hnx.trans hb)), rfl, rfl⟩ hW.drop_all)) ?_
  rintro v24 _ ⟨rfl, t24, hst, rfl⟩
  try simp only [zx1, zx2, zx3]
  refine O.nil <| S.inBlock <| S.region rfl <| O.op (.p rfl) (.add rfl rfl (IntWalk.i64_in _ (by omega))) <| O.q 1 rfl <| O.nil ?_
  exact S.pw (ih (i + 1) (t24) (by exact ⟨by omega, hnx.trans hst⟩) (by omega))
 ·clear ih
  have hi : i = l.length := by omega
  subst hi
  rw [List.take_length] at hx2
  refine S.exit rfl <| S.end0 Tryz.results147 fun w hw => Holds.end_ hR hw ?_
  exact pk ⟨rfl, t, hgo.trans hx2, rfl⟩
theorem rowsE_c {r : Fr} {b : Nat} {s : WSt} {va : Value} {l : List EvdT} (ha : Arr EvdRp r va l)  (hn : l.length ≤ 3000) (hb : s.out.length ≤ 100000000000000) (hs : s.seen.length ≤ 10000) :
  Con Tryz.prog 149 #[.pointer (some ⟨b, 0, none⟩), va, .func (.func 150) #[.pointer (some ⟨b, 0, none⟩)] #[]] r [WrB b s] (RetP (fun v η => v = .tuple #[] ∧ ∃ s', rowSteps evdStep s l = some s' ∧ η = [WrB b s']) (fun ch η => rowSteps evdStep s l = none ∧ ch = errP 32 4 ∧ η = [])) := by
 have har := ha
 refine Con.of (n := 26) _ rfl Tryz.func149 rfl rfl rfl fun g hg R hR => ?_
 have ha := ha.mono hg
 have hbd := ha.bound
 obtain ⟨a1, c1, rfl⟩ := ha.shape
 have hfl : [be l.length].flatten = be l.length := by simp
 refine S.open (A := WrB b s) (by repeat (first | exact zh | apply zt)) (fun m x => x) fun p => ?_
 simp only [List.cons_append, List.nil_append]
 refine S.seq <| S.regionD (L := [0, 1, 2, 3, 4, 5, 6, 7]) F.mixed (by kernel_rfl) <| OD.q 1 rfl <| .quiet (.p rfl) rfl (fun _ => .nilCheck rfl) <| .quiet (.p rfl) rfl (fun _ => .fieldObj F.fld186x0 rfl) <| OD.q 1 rfl <| .quiet (.p rfl) rfl (fun _ => .len rfl Tryz.underlying24 rfl) <| OD.call0 (.p rfl) (by kernel_rfl) rfl F.ok117 rfl rfl (wNumber_c _) ?_
 rintro v13 _ ⟨a13, c13, rfl, rfl⟩
 try simp only [zx1, zx2, zx3]
 refine OD.litP (T := Rp.val) (ys := [_]) (.p rfl) (by kernel_rfl) Tryz.underlying39 F.elem31 (by decide) rfl rfl ⟨⟨rfl, rfl⟩, trivial⟩ (by decide) (fun a14 c14 => ?_)
 refine OD.callSs (.p rfl) (by kernel_rfl) rfl F.ok236 rfl rfl (by repeat (first | exact zsn | (apply zsc; focus (repeat (first | exact zh | apply zt))))) (Con.lentW (η := [obj b 186 [.slice p.1.1.1 s.out.length p.1.1.2, .string (str s.key), .int .i64 s.rep, .int .i64 s.shard, .int .i64 p.2.1, .slice p.2.2.1.1 p.2.2.1.2.1 p.2.2.1.2.2, .slice p.2.2.2.1 p.2.2.2.2.1 p.2.2.2.2.2, .int .i64 s.last, .slice p.1.2.1 s.seen.length p.1.2.2], OwnP Rp.u8 5 (.slice p.1.1.1 s.out.length p.1.1.2) s.out]) (bs := [OwnP Rp.val 31 (.slice a14 1 c14) [.slice a13 8 c13], OwnP Rp.u8 5 (.slice a13 8 c13) (be l.length)]) (fun m hm hd => bput_c (xss := [be l.length]) ((hm.arr.right hd).rows ⟨hm.tail.arr.right hd, trivial⟩) (by rw [hfl]; simp; omega) rfl)) ?_
 rintro v15 _ ⟨_, ⟨a15, c15, rfl, rfl⟩, rfl⟩
 try simp only [zx1, zx2, zx3]
 rw [hfl]
 refine ODx.nil (S.seq ?_)
 generalize hs0 : ({ s with out := s.out ++ be l.length } : WSt) = s0
 have hs1 : s0.out.length = s.out.length + 8 := by rw [← hs0]; simp
 have hs2 : s0.seen.length = s.seen.length := by rw [← hs0]
 refine S.foldS (A := WrB b s0) (bs := [obj b 186 [.slice a15 (s.out ++ be l.length).length c15, .string (str s.key), .int .i64 s.rep, .int .i64 s.shard, .int .i64 p.2.1, .slice p.2.2.1.1 p.2.2.1.2.1 p.2.2.1.2.2, .slice p.2.2.2.1 p.2.2.2.2.1 p.2.2.2.2.2, .int .i64 s.last, .slice p.1.2.1 s.seen.length p.1.2.2], OwnP Rp.u8 5 (.slice a15 (s.out ++ be l.length).length c15) (s.out ++ be l.length), OwnP Rp.str 9 (.slice p.1.2.1 s.seen.length p.1.2.2) s.seen]) (by repeat (first | exact zsn | (apply zsc; focus (repeat (first | exact zh | apply zt))))) (fun m x => ⟨(((a15, c15), p.1.2), p.2), by rw [← hs0]; exact x⟩) ?_
 refine S.keep [WrB b s0] (by repeat (first | exact zpa | exact zpn | (apply zpc; focus (repeat (first | exact zh | apply zt))) | apply zps)) ?_
 have hle : ∀ i (s' : WSt), (l.take i).foldlM evdStep s0 = some s' → s'.out.length ≤ s0.out.length + 5000000 * (l.take i).length ∧ s'.seen.length ≤ s0.seen.length + (l.take i).length :=
  fun i s' h => steps_le evdStep _ _ _ (fun x hm t t' e => evdStep_le e) h
 have hgo : rowSteps evdStep s l = l.foldlM evdStep s0 := by rw [← hs0]; rfl
 refine S.region rfl <| O.q 1 rfl <| O.op (.p rfl) (.len rfl Tryz.underlying24 rfl) <| O.q 1 rfl <| O.nil <| S.block <| S.loopK2 (ι := Nat) (κ := WSt) (fun i t => i ≤ l.length ∧ (l.take i).foldlM evdStep s0 = some t) (fun i t => [(18, .int .i64 (i : Int))]) [(2, _), (16, _), (17, _)] (fun i t => [WrB b t]) (fun i t => l.length - i) (0) (s0) (by exact ⟨by simp, by simp⟩) (.cons rfl (.nil)) (.cons rfl (.cons rfl (.cons rfl (.nil)))) rfl fun i t hx ih => ?_
 have hm1 := meltRefl (g := g)
 obtain ⟨hx1, hx2⟩ := hx
 have hle1 := hle i t hx2
 have hle2 : (l.take i).length ≤ 3000 := by rw [List.length_take]; omega
 refine S.seq <| S.region rfl <| O.op (.p rfl) (.lss rfl rfl) <| O.nil (S.seq ?_)
 first | refine S.condD rfl (fun h19 => ?_) (fun h19 => ?_) | refine S.condB rfl (fun h19 => ?_) (fun h19 => ?_)
 ·have hi : i < l.length := by omega
  have hnx := foldlM_next evdStep s0 t l i hi hx2
  refine S.skip <| S.seq <| S.block <| S.seq <| S.region rfl <| O.ib (.p rfl) Tryz.underlying24 F.size55 rfl rfl rfl har hg (h := fun p20 cs20 hp20 hrr20 => ?_)
  have hr20 := Rp.rel.mono hrr20 hg
  obtain ⟨ea3_20, ea4_20, ea8_20, ea9_20, ec3_20, ec4_20, ec8_20, ec9_20, rfl, ho0_20, ho1_20, ho2_20, ha3_20, ha4_20, ho5_20, ho6_20, ho7_20, ha8_20, ha9_20⟩ := EvdRp.sh hr20
  refine O.op (.p rfl) (.loadAgg Tryz.isAgg55 (by kernel_rfl) rfl hp20) ?_
  refine O.opE (.p rfl) (.alloc (cs := [.int .i64 0, .int .i64 0, .int .i64 0, .slice none 0 0, .slice none 0 0, .int .i64 0, .int .i64 0, .int .i64 0, .slice none 0 0, .slice none 0 0]) Tryz.zeroValue55 rfl) ?_
  rintro _ _ ⟨b7, rfl, rfl⟩
  refine O.opU rfl (.storeObj (by kernel_rfl) rfl rfl rfl rfl (by repeat (first | exact zh | apply zt)) (by first | (simp; done) | (simp [Value.cells]; done))) ?_
  refine O.nil <| S.region rfl <| O.q 1 rfl <| O.op (.p rfl) (.loA (news := [_, _, _, _, _, _, _, _, _, _]) Tryz.isAgg55) ?_
  refine O.callPS (.p rfl) rfl F.ok150 rfl rfl (by repeat (first | exact zh | apply zt)) (wproof_c hr20 (by omega) (by omega)) (fun ch η' w hX hW => by (obtain ⟨hb, rfl, rfl⟩ := hX; exact hR _ _ w ⟨hgo.trans (foldlM_take evdStep s0 l (i + 1) (hnx.trans hb)), rfl, rfl⟩ hW.drop_all)) ?_
  rintro v24 _ ⟨rfl, t24, hst, rfl⟩
  try simp only [zx1, zx2, zx3]
  refine O.nil <| S.inBlock <| S.region rfl <| O.op (.p rfl) (.add rfl rfl (IntWalk.i64_in _ (by omega))) <| O.q 1 rfl <| O.nil ?_
  exact S.pw (ih (i + 1) (t24) (by exact ⟨by omega, hnx.trans hst⟩) (by omega))
 ·clear ih
  have hi : i = l.length := by omega
  subst hi
  rw [List.take_length] at hx2
  refine S.exit rfl <| S.end0 Tryz.results149 fun w hw => Holds.end_ hR hw ?_
  exact pk ⟨rfl, t, hgo.trans hx2, rfl⟩
theorem rowsS_c {r : Fr} {b : Nat} {s : WSt} {va : Value} {l : List Int} (ha : Arr Rp.i64 r va l)  (hn : l.length ≤ 3000) (hb : s.out.length ≤ 100000000000000) (hs : s.seen.length ≤ 10000) :
  Con Tryz.prog 151 #[.pointer (some ⟨b, 0, none⟩), va, .func (.func 152) #[.pointer (some ⟨b, 0, none⟩)] #[]] r [WrB b s] (RetP (fun v η => v = .tuple #[] ∧ ∃ s', rowSteps shutStep s l = some s' ∧ η = [WrB b s']) (fun ch η => rowSteps shutStep s l = none ∧ ch = errP 32 4 ∧ η = [])) := by
 have har := ha
 refine Con.of (n := 26) _ rfl Tryz.func151 rfl rfl rfl fun g hg R hR => ?_
 have ha := ha.mono hg
 have hbd := ha.bound
 obtain ⟨a1, c1, rfl⟩ := ha.shape
 have hfl : [be l.length].flatten = be l.length := by simp
 refine S.open (A := WrB b s) (by repeat (first | exact zh | apply zt)) (fun m x => x) fun p => ?_
 simp only [List.cons_append, List.nil_append]
 refine S.seq <| S.regionD (L := [0, 1, 2, 3, 4, 5, 6, 7]) F.mixed (by kernel_rfl) <| OD.q 1 rfl <| .quiet (.p rfl) rfl (fun _ => .nilCheck rfl) <| .quiet (.p rfl) rfl (fun _ => .fieldObj F.fld186x0 rfl) <| OD.q 1 rfl <| .quiet (.p rfl) rfl (fun _ => .len rfl Tryz.underlying25 rfl) <| OD.call0 (.p rfl) (by kernel_rfl) rfl F.ok117 rfl rfl (wNumber_c _) ?_
 rintro v13 _ ⟨a13, c13, rfl, rfl⟩
 try simp only [zx1, zx2, zx3]
 refine OD.litP (T := Rp.val) (ys := [_]) (.p rfl) (by kernel_rfl) Tryz.underlying39 F.elem31 (by decide) rfl rfl ⟨⟨rfl, rfl⟩, trivial⟩ (by decide) (fun a14 c14 => ?_)
 refine OD.callSs (.p rfl) (by kernel_rfl) rfl F.ok236 rfl rfl (by repeat (first | exact zsn | (apply zsc; focus (repeat (first | exact zh | apply zt))))) (Con.lentW (η := [obj b 186 [.slice p.1.1.1 s.out.length p.1.1.2, .string (str s.key), .int .i64 s.rep, .int .i64 s.shard, .int .i64 p.2.1, .slice p.2.2.1.1 p.2.2.1.2.1 p.2.2.1.2.2, .slice p.2.2.2.1 p.2.2.2.2.1 p.2.2.2.2.2, .int .i64 s.last, .slice p.1.2.1 s.seen.length p.1.2.2], OwnP Rp.u8 5 (.slice p.1.1.1 s.out.length p.1.1.2) s.out]) (bs := [OwnP Rp.val 31 (.slice a14 1 c14) [.slice a13 8 c13], OwnP Rp.u8 5 (.slice a13 8 c13) (be l.length)]) (fun m hm hd => bput_c (xss := [be l.length]) ((hm.arr.right hd).rows ⟨hm.tail.arr.right hd, trivial⟩) (by rw [hfl]; simp; omega) rfl)) ?_
 rintro v15 _ ⟨_, ⟨a15, c15, rfl, rfl⟩, rfl⟩
 try simp only [zx1, zx2, zx3]
 rw [hfl]
 refine ODx.nil (S.seq ?_)
 generalize hs0 : ({ s with out := s.out ++ be l.length } : WSt) = s0
 have hs1 : s0.out.length = s.out.length + 8 := by rw [← hs0]; simp
 have hs2 : s0.seen.length = s.seen.length := by rw [← hs0]
 refine S.foldS (A := WrB b s0) (bs := [obj b 186 [.slice a15 (s.out ++ be l.length).length c15, .string (str s.key), .int .i64 s.rep, .int .i64 s.shard, .int .i64 p.2.1, .slice p.2.2.1.1 p.2.2.1.2.1 p.2.2.1.2.2, .slice p.2.2.2.1 p.2.2.2.2.1 p.2.2.2.2.2, .int .i64 s.last, .slice p.1.2.1 s.seen.length p.1.2.2], OwnP Rp.u8 5 (.slice a15 (s.out ++ be l.length).length c15) (s.out ++ be l.length), OwnP Rp.str 9 (.slice p.1.2.1 s.seen.length p.1.2.2) s.seen]) (by repeat (first | exact zsn | (apply zsc; focus (repeat (first | exact zh | apply zt))))) (fun m x => ⟨(((a15, c15), p.1.2), p.2), by rw [← hs0]; exact x⟩) ?_
 refine S.keep [WrB b s0] (by repeat (first | exact zpa | exact zpn | (apply zpc; focus (repeat (first | exact zh | apply zt))) | apply zps)) ?_
 have hle : ∀ i (s' : WSt), (l.take i).foldlM shutStep s0 = some s' → s'.out.length ≤ s0.out.length + 5000000 * (l.take i).length ∧ s'.seen.length ≤ s0.seen.length + (l.take i).length :=
  fun i s' h => steps_le shutStep _ _ _ (fun x hm t t' e => shutStep_le e) h
 have hgo : rowSteps shutStep s l = l.foldlM shutStep s0 := by rw [← hs0]; rfl
 refine S.region rfl <| O.q 1 rfl <| O.op (.p rfl) (.len rfl Tryz.underlying25 rfl) <| O.q 1 rfl <| O.nil <| S.block <| S.loopK2 (ι := Nat) (κ := WSt) (fun i t => i ≤ l.length ∧ (l.take i).foldlM shutStep s0 = some t) (fun i t => [(18, .int .i64 (i : Int))]) [(2, _), (16, _), (17, _)] (fun i t => [WrB b t]) (fun i t => l.length - i) (0) (s0) (by exact ⟨by simp, by simp⟩) (.cons rfl (.nil)) (.cons rfl (.cons rfl (.cons rfl (.nil)))) rfl fun i t hx ih => ?_
 have hm1 := meltRefl (g := g)
 obtain ⟨hx1, hx2⟩ := hx
 have hle1 := hle i t hx2
 have hle2 : (l.take i).length ≤ 3000 := by rw [List.length_take]; omega
 refine S.seq <| S.region rfl <| O.op (.p rfl) (.lss rfl rfl) <| O.nil (S.seq ?_)
 first | refine S.condD rfl (fun h19 => ?_) (fun h19 => ?_) | refine S.condB rfl (fun h19 => ?_) (fun h19 => ?_)
 ·have hi : i < l.length := by omega
  have hnx := foldlM_next shutStep s0 t l i hi hx2
  refine S.skip <| S.seq <| S.block <| S.seq <| S.region rfl <| O.ia (.p rfl) Tryz.underlying25 F.size3 rfl rfl rfl (ha) (h := fun p20 cs20 hp20 hr20 => ?_)
  obtain ⟨rfl, hz20⟩ := hr20
  refine O.op (.p rfl) (.loadAt F.flat3 rfl hp20 rfl) ?_
  refine O.q 1 rfl <| O.nil <| S.region rfl <| O.q 2 rfl <| O.callPS (.p rfl) rfl F.ok152 rfl rfl (by repeat (first | exact zh | apply zt)) (wshut_c _ (by omega)) (fun ch η' w hX hW => by (obtain ⟨hb, rfl, rfl⟩ := hX; exact hR _ _ w ⟨hgo.trans (foldlM_take shutStep s0 l (i + 1) (hnx.trans hb)), rfl, rfl⟩ hW.drop_all)) ?_
  rintro v24 _ ⟨rfl, t24, hst, rfl⟩
  try simp only [zx1, zx2, zx3]
  refine O.nil <| S.inBlock <| S.region rfl <| O.op (.p rfl) (.add rfl rfl (IntWalk.i64_in _ (by omega))) <| O.q 1 rfl <| O.nil ?_
  exact S.pw (ih (i + 1) (t24) (by exact ⟨by omega, hnx.trans hst⟩) (by omega))
 ·clear ih
  have hi : i = l.length := by omega
  subst hi
  rw [List.take_length] at hx2
  refine S.exit rfl <| S.end0 Tryz.results151 fun w hw => Holds.end_ hR hw ?_
  exact pk ⟨rfl, t, hgo.trans hx2, rfl⟩
end Go.Proofs.YtodhbhanmdfdeaaGreat
end
section
/- Texts of this proof. -/
open Go Go.Sp
set_option maxRecDepth 100000
attribute [local irreducible] obj Own OwnP
namespace Go.Proofs.YtodhbhanmdfdeaaGreat
theorem written_c {r : Fr} {cs : List Value} {h : HeldT} (hr : HeldRp.rel r cs h) (hh : HeldB h) :
  Con Tryz.prog 62 #[.agg cs.toArray] r [] (RetP (fun v η => ∃ out a c, imgW h = some out ∧ v = .slice a out.length c ∧ η = [OwnP Rp.u8 5 (.slice a out.length c) out]) (fun ch η => imgW h = none ∧ ch = errP 32 4 ∧ η = [])) := by
 obtain ⟨xa0, xa1, xa2, xa3, xc0, xc1, xc2, xc3, rfl, k0, k1, k2, k3⟩ := HeldRp.sh hr
 obtain ⟨⟨m0, m0'⟩, m1, m2, m3⟩ := hh
 refine Con.of (n := 35) _ rfl Tryz.func62 rfl rfl rfl fun g hg R hR => ?_
 have k0 := k0.mono hg
 have k1 := k1.mono hg
 have k2 := k2.mono hg
 have k3 := k3.mono hg
 refine S.seq <| S.region rfl <| O.opE (.p rfl) (.box (cs := [_, _, _, _]) rfl rfl) ?_
 rintro _ _ ⟨b1, rfl, rfl⟩
 refine O.q 1 rfl <| O.nil <| S.seq <| S.frzO (by repeat (first | exact zh | apply zt)) fun g hs hm hb1 => ?_
 replace hg := Fr.sub_trans hg hs
 replace hR := melted hR hm
 try replace k0 := k0.mono hs
 try replace k1 := k1.mono hs
 try replace k2 := k2.mono hs
 try replace k3 := k3.mono hs
 clear hs hm
 refine S.region rfl <| O.op (.p rfl) (.build (cs := [_, _, _, _, _, _, _, _, _]) Tryz.underlying186 rfl rfl rfl rfl rfl) <| O.opE (.p rfl) (.box (cs := [_, _, _, _, _, _, _, _, _]) rfl rfl) ?_
 rintro _ _ ⟨b5, rfl, rfl⟩
 refine O.q 1 rfl <| O.nil <| S.seq <| S.foldS (A := WrB b5 WSt.zero) (bs := [obj b5 186 [.slice none 0 0, .string (str []), .int .i64 0, .int .i64 0, .int .i64 0, .slice none 0 0, .slice none 0 0, .int .i64 0, .slice none 0 0]]) (by repeat (first | exact zsn | (apply zsc; focus (repeat (first | exact zh | apply zt))))) (fun m x => let ⟨h1, h2, d, s1, s2, ho, he⟩ := x; ⟨(((none, 0), (none, 0)), (0, (none, 0, 0), (none, 0, 0))), h1, h2, d, s1, s2, ho, Fr.emp, h2, Fr.emp_disj _, Fr.emp_sub _, Fr.sub_refl _, ownP_nil _, Fr.emp, h2, Fr.emp_disj _, Fr.emp_sub _, Fr.sub_refl _, ownP_nil _, he⟩) ?_
 refine S.region rfl <| O.q 1 rfl <| O.op (.p rfl) (.fieldAddr F.fld27x0 rfl) <| O.op (.p rfl) (.loadAt F.flat22 rfl hb1 rfl) ?_
 refine O.q 1 rfl <| O.op (.p rfl) (.mkFunc rfl rfl) <| O.callPS (.p rfl) rfl F.ok145 rfl rfl (by repeat (first | exact zh | apply zt)) (rowsL_c k0 m0' m0 (by simp [WSt.zero]) (by simp [WSt.zero])) (fun ch η' w hX hW => by (obtain ⟨hb, rfl, rfl⟩ := hX; exact hR _ _ w ⟨by simp [imgW, hb], rfl, rfl⟩ hW.drop_all)) ?_
 rintro v11 _ ⟨rfl, s1, e1, rfl⟩
 try simp only [zx1, zx2, zx3]
 have q1 := rowsL_le m0' e1
 simp only [WSt.zero, List.length_nil] at q1
 refine O.nil <| S.seq <| S.region rfl <| O.q 1 rfl <| O.op (.p rfl) (.fieldAddr F.fld27x1 rfl) <| O.op (.p rfl) (.loadAt F.flat23 rfl (hb1.drop 1) rfl) ?_
 refine O.q 1 rfl <| O.op (.p rfl) (.mkFunc rfl rfl) <| O.callPS (.p rfl) rfl F.ok147 rfl rfl (by repeat (first | exact zh | apply zt)) (rowsR_c k1 m1 (by omega) (by omega)) (fun ch η' w hX hW => by (obtain ⟨hb, rfl, rfl⟩ := hX; exact hR _ _ w ⟨by simp [imgW, e1, hb], rfl, rfl⟩ hW.drop_all)) ?_
 rintro v17 _ ⟨rfl, s2, e2, rfl⟩
 try simp only [zx1, zx2, zx3]
 have q2 := rowsR_le e2
 refine O.nil <| S.seq <| S.region rfl <| O.q 1 rfl <| O.op (.p rfl) (.fieldAddr F.fld27x2 rfl) <| O.op (.p rfl) (.loadAt F.flat24 rfl (hb1.drop 2) rfl) ?_
 refine O.q 1 rfl <| O.op (.p rfl) (.mkFunc rfl rfl) <| O.callPS (.p rfl) rfl F.ok149 rfl rfl (by repeat (first | exact zh | apply zt)) (rowsE_c k2 m2 (by omega) (by omega)) (fun ch η' w hX hW => by (obtain ⟨hb, rfl, rfl⟩ := hX; exact hR _ _ w ⟨by simp [imgW, e1, e2, hb], rfl, rfl⟩ hW.drop_all)) ?_
 rintro v23 _ ⟨rfl, s3, e3, rfl⟩
 try simp only [zx1, zx2, zx3]
 have q3 := rowsE_le e3
 refine O.nil <| S.seq <| S.region rfl <| O.q 1 rfl <| O.op (.p rfl) (.fieldAddr F.fld27x3 rfl) <| O.op (.p rfl) (.loadAt F.flat25 rfl (hb1.drop 3) rfl) ?_
 refine O.q 1 rfl <| O.op (.p rfl) (.mkFunc rfl rfl) <| O.callPS (.p rfl) rfl F.ok151 rfl rfl (by repeat (first | exact zh | apply zt)) (rowsS_c k3 m3 (by omega) (by omega)) (fun ch η' w hX hW => by (obtain ⟨hb, rfl, rfl⟩ := hX; exact hR _ _ w ⟨by simp [imgW, e1, e2, e3, hb], rfl, rfl⟩ hW.drop_all)) ?_
 rintro v29 _ ⟨rfl, s, e4, rfl⟩
 try simp only [zx1, zx2, zx3]
 refine O.nil <| S.seq <| S.open (A := WrB b5 s) (by repeat (first | exact zh | apply zt)) (fun m x => x) fun p => ?_
 simp only [List.cons_append, List.nil_append]
 refine S.region rfl <| O.q 1 rfl <| O.op (.p rfl) (.nilCheck rfl) <| O.op (.p rfl) (.fieldObj F.fld186x0 rfl) <| O.op (.p rfl) (.fieldObj F.fld183x0 rfl) <| O.op (.p rfl) (.lo F.flat31) ?_
 refine O.q 1 rfl <| O.nil ?_
 exact S.rt Tryz.results62 rfl hR ⟨s.out, p.1.1.1, p.1.1.2, by simp [imgW, e1, e2, e3, e4], rfl, rfl⟩
theorem iput1_c {r : Fr} {b : Nat} {cs : List Value} {x : HeldT} (hb : At r ⟨b, 0, none⟩ cs) (h : HeldRp.rel r cs x) (hh : HeldB x) :
  Con Tryz.prog 61 (#[] ++ #[] ++ #[.pointer (some ⟨b, 0, none⟩)]) r [] (RetP (fun v η => ∃ out a c, imgW x = some out ∧ v = .slice a out.length c ∧ η = [OwnP Rp.u8 5 (.slice a out.length c) out]) (fun ch η => ∃ z, ch = errP 32 z ∧ (imgW x = none ∧ z = 4) ∧ η = [])) := by
 obtain ⟨xa0, xa1, xa2, xa3, xc0, xc1, xc2, xc3, rfl, k0, k1, k2, k3⟩ := HeldRp.sh h
 refine Con.of (n := 4) [.pointer (some ⟨b, 0, none⟩)] rfl Tryz.func61 rfl rfl rfl fun g hg R hR => ?_
 have hb := hb.mono hg
 have h := h.mono hg
 refine S.seq <| S.region rfl <| O.q 1 rfl <| O.nil <| S.seq <| S.region rfl <| O.op (.p rfl) (.loadAgg Tryz.isAgg27 (by kernel_rfl) rfl hb) ?_
 refine O.callP0 (.p rfl) rfl F.ok62 rfl rfl (written_c h hh) (fun ch η' w hX hW => by (obtain ⟨hb, rfl, rfl⟩ := hX; exact hR _ _ w ⟨4, rfl, ⟨hb, rfl⟩, rfl⟩ hW.drop_all)) ?_
 rintro v3 _ ⟨out, a3, c3, e, rfl, rfl⟩
 try simp only [zx1, zx2, zx3]
 refine O.q 1 rfl <| O.nil ?_
 exact S.rt Tryz.results61 rfl hR ⟨out, a3, c3, e, rfl, rfl⟩
theorem iTried_c {r : Fr} {first cap : Array Value} {x : HeldT} (con : Con Tryz.prog 61 (first ++ #[] ++ cap) r [] (RetP (fun v η => ∃ out a c, imgW x = some out ∧ v = .slice a out.length c ∧ η = [OwnP Rp.u8 5 (.slice a out.length c) out]) (fun ch η => ∃ z, ch = errP 32 z ∧ (imgW x = none ∧ z = 4) ∧ η = []))) (h1 : (Value.func (.func 61) first cap).oneCell' = true := by rfl) :
  Con Tryz.prog 60 #[.func (.func 61) first cap] r [] (Ret fun v η => ∃ a c, v = .tuple #[.slice a (imgOut x).length c, .int .i64 (imgErr x)] ∧ η = [OwnP Rp.u8 5 (.slice a (imgOut x).length c) (imgOut x)]) :=
 (triedIB_c F.ok61 h1 (fun _ _ h => by obtain ⟨_, _, _, _, rfl, _⟩ := h; rfl) con).post fun e η h w g hw => by
  cases e with
  | returned v =>
   rcases h with ⟨u, ⟨out, a, c, hs, rfl, rfl⟩, rfl⟩ | ⟨z, ⟨hs, rfl⟩, rfl, rfl⟩
   ·exact ⟨_, ⟨a, c, by simp [imgOut, imgErr, hs], rfl⟩, by simpa [imgOut, hs] using hw⟩
   ·exact ⟨_, ⟨none, 0, by simp [imgOut, imgErr, hs], rfl⟩, by simp only [imgOut, hs]; exact hw.imp fun m x => ⟨Fr.emp, m, Fr.emp_disj _, Fr.emp_sub _, Fr.sub_refl _, ownP_nil _, x⟩⟩
  | panicked _ => exact h.elim
  | outgrown => exact h.elim
theorem iPut_c {r : Fr} {cs : List Value} {x : HeldT} (h : HeldRp.rel r cs x) (hh : HeldB x) :
  Con Tryz.prog 17 #[.agg cs.toArray] r [] (Ret fun v η => ∃ a c, v = .tuple #[.slice a (imgOut x).length c, .int .i64 (imgErr x)] ∧ η = [OwnP Rp.u8 5 (.slice a (imgOut x).length c) (imgOut x)]) := by
 obtain ⟨xa0, xa1, xa2, xa3, xc0, xc1, xc2, xc3, rfl, k0, k1, k2, k3⟩ := HeldRp.sh h
 refine Con.of (n := 8) _ rfl Tryz.func17 rfl rfl rfl fun g hg R hR => ?_
 have h := h.mono hg
 refine S.seq <| S.region rfl <| O.opE (.p rfl) (.box (cs := [_, _, _, _]) rfl rfl) ?_
 rintro _ _ ⟨b1, rfl, rfl⟩
 refine O.q 2 rfl <| O.nil <| S.seq <| S.frzO (by repeat (first | exact zh | apply zt)) fun g hs hm hb1 => ?_
 replace hg := Fr.sub_trans hg hs
 replace hR := melted hR hm
 try replace h := h.mono hs
 clear hs hm
 refine S.region rfl <| O.op (.p rfl) (.mkFunc rfl rfl) <| O.call0 (.p rfl) rfl F.ok60 rfl rfl ((iTried_c (iput1_c hb1 h hh))) ?_
 rintro v5 _ ⟨a5, c5, rfl, rfl⟩
 try simp only [zx1, zx2, zx3]
 refine O.q 4 rfl <| O.nil <| S.ret2 Tryz.results17 rfl rfl fun w hw => Holds.end_ hR hw ?_
 exact pk ⟨a5, c5, rfl, rfl⟩
theorem iRight_c {r : Fr} {cs : List Value} {x : HeldT} (h : HeldRp.rel r cs x) (hh : HeldB x) :
  Con Tryz.prog 20 #[.agg cs.toArray] r [] (Ret fun v η => v = .bool (imgW x).isSome ∧ η = []) := by
 obtain ⟨xa0, xa1, xa2, xa3, xc0, xc1, xc2, xc3, rfl, k0, k1, k2, k3⟩ := HeldRp.sh h
 refine Con.of (n := 12) _ rfl Tryz.func20 rfl rfl rfl fun g hg R hR => ?_
 have h := h.mono hg
 refine S.seq <| S.region rfl <| O.opE (.p rfl) (.box (cs := [_, _, _, _]) rfl rfl) ?_
 rintro _ _ ⟨b1, rfl, rfl⟩
 refine O.q 1 rfl <| O.nil <| S.seq <| S.region rfl <| O.op (.p rfl) (.loA (news := [_, _, _, _]) Tryz.isAgg27) ?_
 refine O.call0 (.p rfl) rfl F.ok17 rfl rfl ((iPut_c h hh)) ?_
 rintro v7 _ ⟨a7, c7, rfl, rfl⟩
 try simp only [zx1, zx2, zx3]
 refine O.q 5 rfl <| O.nil <| S.seq <| S.region rfl <| O.q 1 rfl <| O.op (.p rfl) (.eql rfl rfl) <| O.q 1 rfl <| O.nil ?_
 exact S.rt Tryz.results20 rfl hR ⟨by cases e : imgW x <;> simp [imgErr, e], rfl⟩
end Go.Proofs.YtodhbhanmdfdeaaGreat
end
