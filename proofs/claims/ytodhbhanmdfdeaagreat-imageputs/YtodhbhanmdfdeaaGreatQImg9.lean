/- Texts of this proof, one behind the other. -/
import Derived.Test.YtodhbhanmdfdeaaGreatQFc
import Derived.Test.YtodhbhanmdfdeaaGreatQLent3
import Derived.Test.YtodhbhanmdfdeaaGreatQSpAuto
import Derived.Test.YtodhbhanmdfdeaaGreatQKit2
import Derived.Test.YtodhbhanmdfdeaaGreatQLent0
section
/- Texts of this proof. -/
open Go Go.Sp
set_option maxRecDepth 100000
attribute [local irreducible] obj Own OwnP
namespace Go.Proofs.YtodhbhanmdfdeaaGreat
theorem markEvidence_c {r : Fr} (k i : Int) (hk : Mk k) (hi : Mk i) : Con Tryz.prog 142 #[.int .i64 k, .int .i64 i] r [] (Ret fun v η => v = .agg #[.int .i64 0, .int .i64 0, .int .i64 (markZ k i), .slice none 0 0, .slice none 0 0, .int .i64 0, .int .i64 0, .int .i64 0, .slice none 0 0, .slice none 0 0] ∧ η = []) := by
 refine Con.of (n := 10) _ rfl Tryz.func142 rfl rfl rfl fun g hg R hR => ?_
 refine S.seq <| S.region rfl <| O.opE (.p rfl) (.alloc (cs := [.int .i64 0, .int .i64 0, .int .i64 0, .slice none 0 0, .slice none 0 0, .int .i64 0, .int .i64 0, .int .i64 0, .slice none 0 0, .slice none 0 0]) Tryz.zeroValue55 rfl) ?_
 rintro _ _ ⟨b4, rfl, rfl⟩
 refine O.nil <| S.seq <| S.region rfl <| O.q 2 rfl <| O.call0 (.p rfl) rfl F.ok143 rfl rfl ((mark_c _ _ hk hi)) ?_
 rintro v7 _ ⟨rfl, rfl⟩
 try simp only [zx1, zx2, zx3]
 refine O.op (.p rfl) (.build (cs := [_, _, _, _, _]) Tryz.underlying52 rfl rfl rfl rfl rfl) <| O.op (.p rfl) (.build (cs := [_, _, _, _, _, _, _, _, _, _]) Tryz.underlying55 rfl rfl rfl rfl rfl) <| O.opU rfl (.storeObj (by kernel_rfl) rfl rfl rfl rfl (by repeat (first | exact zh | apply zt)) (by first | (simp; done) | (simp [Value.cells]; done))) ?_
 refine O.nil <| S.retCellAgg Tryz.results142 Tryz.isAgg55 (by kernel_rfl) rfl (by repeat (first | exact zh | apply zt)) fun w hw => Holds.end_ hR hw ?_
 exact pk ⟨rfl, rfl⟩
theorem markEvidence_rel {h : Fr} {k i : Int} (hk : Mk k) (hi : Mk i) : EvdRp.rel h [.int .i64 0, .int .i64 0, .int .i64 (markZ k i), .slice none 0 0, .slice none 0 0, .int .i64 0, .int .i64 0, .int .i64 0, .slice none 0 0, .slice none 0 0] (markEvd k i) := EvdRp.mk (by constructor <;> decide) (by constructor <;> decide) (markZ64 hk hi) Arr.nil Arr.nil (by constructor <;> decide) (by constructor <;> decide) (by constructor <;> decide) Arr.nil Arr.nil
theorem lentEvidence_c {r : Fr} {cs : List Value} {x : EvdT} (h : EvdRp.rel r cs x) (hb : EvdOk 100000000000 x) :
  Con Tryz.prog 141 #[.agg cs.toArray] r [] (Ret fun v η => ∃ a3 c3 a4 c4 a8 c8 a9 c9, v = .agg #[.int .i64 x.1.1, .int .i64 x.1.2.1, .int .i64 x.1.2.2.1, .slice a3 x.1.2.2.2.1.length c3, .slice a4 x.1.2.2.2.2.1.length c4, .int .i64 x.2.1.1, .int .i64 x.2.1.2.1, .int .i64 x.2.1.2.2.1, .slice a8 x.2.1.2.2.2.1.length c8, .slice a9 x.2.1.2.2.2.2.1.length c9] ∧ η = [(EvdL tys).own [.int .i64 x.1.1, .int .i64 x.1.2.1, .int .i64 x.1.2.2.1, .slice a3 x.1.2.2.2.1.length c3, .slice a4 x.1.2.2.2.2.1.length c4, .int .i64 x.2.1.1, .int .i64 x.2.1.2.1, .int .i64 x.2.1.2.2.1, .slice a8 x.2.1.2.2.2.1.length c8, .slice a9 x.2.1.2.2.2.2.1.length c9] x]) := by
 obtain ⟨xa3, xa4, xa8, xa9, xc3, xc4, xc8, xc9, rfl, k0, k1, k2, k3, k4, k5, k6, k7, k8, k9⟩ := EvdRp.sh h
 obtain ⟨ob3, ob4, ob8, ob9⟩ := hb
 refine Con.of (n := 12) _ rfl Tryz.func141 rfl rfl rfl fun g hg R hR => ?_
 have k3 := k3.mono hg
 have k4 := k4.mono hg
 have k8 := k8.mono hg
 have k9 := k9.mono hg
 refine S.seq <| S.region rfl <| O.opE (.p rfl) (.box (cs := [_, _, _, _, _, _, _, _, _, _]) rfl rfl) ?_
 rintro _ _ ⟨b1, rfl, rfl⟩
 refine O.opE (.p rfl) (.alloc (cs := [.int .i64 0, .int .i64 0, .int .i64 0, .slice none 0 0, .slice none 0 0, .int .i64 0, .int .i64 0, .int .i64 0, .slice none 0 0, .slice none 0 0]) Tryz.zeroValue55 rfl) ?_
 rintro _ _ ⟨b2, rfl, rfl⟩
 refine O.nil <| S.seq <| S.region rfl <| O.op (.p rfl) (.fieldObj F.fld55x0 rfl) <| O.op (.p rfl) (.loA (news := [_, _, _, _, _]) Tryz.isAgg52) ?_
 refine O.call0 (.p rfl) rfl F.ok139 rfl rfl ((lentRoot_c (x := x.1) (RootRp.mk k0 k1 k2 k3 k4) ⟨ob3, ob4⟩)) ?_
 rintro v5 _ ⟨a3, c3, a4, c4, rfl, rfl⟩
 try simp only [zx1, zx2, zx3]
 refine O.op (.p rfl) (.fieldObj F.fld55x0 rfl) <| O.opU rfl (.storeObj (by kernel_rfl) rfl rfl rfl rfl (by repeat (first | exact zh | apply zt)) (by first | (simp; done) | (simp [Value.cells]; done))) ?_
 refine O.nil <| S.seq <| S.region rfl <| O.op (.p rfl) (.fieldObj F.fld55x1 rfl) <| O.op (.p rfl) (.loA (news := [_, _, _, _, _]) Tryz.isAgg52) ?_
 refine O.call0 (.p rfl) rfl F.ok139 rfl rfl ((lentRoot_c (x := x.2.1) (RootRp.mk k5 k6 k7 k8 k9) ⟨ob8, ob9⟩)) ?_
 rintro v9 _ ⟨a8, c8, a9, c9, rfl, rfl⟩
 try simp only [zx1, zx2, zx3]
 refine O.op (.p rfl) (.fieldObj F.fld55x1 rfl) <| O.opU rfl (.storeObj (by kernel_rfl) rfl rfl rfl rfl (by repeat (first | exact zh | apply zt)) (by first | (simp; done) | (simp [Value.cells]; done))) ?_
 refine O.nil <| S.seq <| S.region rfl <| O.op (.p rfl) (.loA (news := [_, _, _, _, _, _, _, _, _, _]) Tryz.isAgg55) ?_
 refine O.opU rfl (.storeObj (by kernel_rfl) rfl rfl rfl rfl (by repeat (first | exact zh | apply zt)) (by first | (simp; done) | (simp [Value.cells]; done))) ?_
 refine O.nil <| S.foldS (A := (EvdL tys).own [.int .i64 x.1.1, .int .i64 x.1.2.1, .int .i64 x.1.2.2.1, .slice a3 x.1.2.2.2.1.length c3, .slice a4 x.1.2.2.2.2.1.length c4, .int .i64 x.2.1.1, .int .i64 x.2.1.2.1, .int .i64 x.2.1.2.2.1, .slice a8 x.2.1.2.2.2.1.length c8, .slice a9 x.2.1.2.2.2.2.1.length c9] x) (bs := [(RootL tys).own [.int .i64 x.1.1, .int .i64 x.1.2.1, .int .i64 x.1.2.2.1, .slice a3 x.1.2.2.2.1.length c3, .slice a4 x.1.2.2.2.2.1.length c4] x.1, (RootL tys).own [.int .i64 x.2.1.1, .int .i64 x.2.1.2.1, .int .i64 x.2.1.2.2.1, .slice a8 x.2.1.2.2.2.1.length c8, .slice a9 x.2.1.2.2.2.2.1.length c9] x.2.1]) (by repeat (first | exact zsn | (apply zsc; focus (repeat (first | exact zh | apply zt))))) (fun m y => Lp.own2 (A := RootL tys) (B := RootL tys) (c := [.int .i64 x.1.1, .int .i64 x.1.2.1, .int .i64 x.1.2.2.1, .slice a3 x.1.2.2.2.1.length c3, .slice a4 x.1.2.2.2.2.1.length c4]) (d := [.int .i64 x.2.1.1, .int .i64 x.2.1.2.1, .int .i64 x.2.1.2.2.1, .slice a8 x.2.1.2.2.2.1.length c8, .slice a9 x.2.1.2.2.2.2.1.length c9]) y) ?_
 refine S.retCellAgg Tryz.results141 Tryz.isAgg55 (by kernel_rfl) rfl (by repeat (first | exact zh | apply zt)) fun w hw => Holds.end_ hR hw ?_
 exact pk ⟨a3, c3, a4, c4, a8, c8, a9, c9, rfl, rfl⟩
theorem keptEvidence_c {r : Fr} {cs ds : List Value} {x : EvdT} (h : (EvdL tys).rd r cs x) (hy : EvdRp.rel r ds x) (hb : EvdOk 100000000000 x) :
  Con Tryz.prog 161 #[.agg cs.toArray, .agg ds.toArray] r [] (Ret fun v η => v = .bool true ∧ η = []) := by
 have hx := (EvdL tys).rel h
 obtain ⟨c1, c2, rfl, r1, r2⟩ := Lp.rd2 (A := RootL tys) (B := RootL tys) h
 have p1 := r1
 have p2 := r2
 obtain ⟨v3, v4, rfl, k0, k1, k2, q3, q4⟩ := RootL.opn r1
 obtain ⟨v8, v9, rfl, k5, k6, k7, q8, q9⟩ := RootL.opn r2
 obtain ⟨ya3, ya4, ya8, ya9, yc3, yc4, yc8, yc9, rfl, yk0, yk1, yk2, yk3, yk4, yk5, yk6, yk7, yk8, yk9⟩ := EvdRp.sh hy
 obtain ⟨ob3, ob4, ob8, ob9⟩ := hb
 refine Con.of (n := 22) _ rfl Tryz.func161 rfl rfl rfl fun g hg R hR => ?_
 have hx := hx.mono hg
 have hy := hy.mono hg
 have yk3 := yk3.mono hg
 have yk4 := yk4.mono hg
 have yk8 := yk8.mono hg
 have yk9 := yk9.mono hg
 replace p1 := (RootL tys).mono hg p1
 replace p2 := (RootL tys).mono hg p2
 refine S.seq <| S.region rfl <| O.opE (.p rfl) (.box (cs := [_, _, _, _, _, _, _, _, _, _]) rfl rfl) ?_
 rintro _ _ ⟨b2, rfl, rfl⟩
 refine O.opE (.p rfl) (.box (cs := [_, _, _, _, _, _, _, _, _, _]) rfl rfl) ?_
 rintro _ _ ⟨b3, rfl, rfl⟩
 refine O.q 1 rfl <| O.nil <| S.seq <| S.region rfl <| O.op (.p rfl) (.loA (news := [_, _, _, _, _, _, _, _, _, _]) Tryz.isAgg55) ?_
 refine O.op (.p rfl) (.loA (news := [_, _, _, _, _, _, _, _, _, _]) Tryz.isAgg55) ?_
 refine O.call0 (.p rfl) rfl F.ok156 rfl rfl ((sameEvidence_c hx hy)) ?_
 rintro v7 _ ⟨rfl, rfl⟩
 try simp only [zx1, zx2, zx3]
 refine O.sT 7 rfl (by simp) ?_
 refine O.q 1 rfl <| O.op (.g rfl rfl) (.fieldObj F.fld55x0 rfl) <| O.op (.g rfl rfl) (.loA (news := [_, _, _, _, _]) Tryz.isAgg52) ?_
 refine O.op (.g rfl rfl) (.fieldObj F.fld55x0 rfl) <| O.op (.g rfl rfl) (.loA (news := [_, _, _, _, _]) Tryz.isAgg52) ?_
 refine O.call0 (.g rfl rfl) rfl F.ok159 rfl rfl ((keptRoot_c (x := x.1) p1 (RootRp.mk yk0 yk1 yk2 yk3 yk4) ⟨ob3, ob4⟩)) ?_
 rintro v13 _ ⟨rfl, rfl⟩
 try simp only [zx1, zx2, zx3]
 refine O.q 2 rfl <| O.op (.g rfl rfl) (.fieldObj F.fld55x1 rfl) <| O.op (.g rfl rfl) (.loA (news := [_, _, _, _, _]) Tryz.isAgg52) ?_
 refine O.op (.g rfl rfl) (.fieldObj F.fld55x1 rfl) <| O.op (.g rfl rfl) (.loA (news := [_, _, _, _, _]) Tryz.isAgg52) ?_
 refine O.call0 (.g rfl rfl) rfl F.ok159 rfl rfl ((keptRoot_c (x := x.2.1) p2 (RootRp.mk yk5 yk6 yk7 yk8 yk9) ⟨ob8, ob9⟩)) ?_
 rintro v20 _ ⟨rfl, rfl⟩
 try simp only [zx1, zx2, zx3]
 refine O.q 2 rfl <| O.nil ?_
 exact S.rt Tryz.results161 rfl hR ⟨rfl, rfl⟩
theorem lentEvidenceRow_c {r : Fr} {va : Value} {es : List EvdT} (ha : Arr EvdRp r va es) (hq : ∀ x ∈ es, EvdOk 100000000000 x) (hl : es.length ≤ 100000000000) :
  Con Tryz.prog 58 #[va] r [] (Ret fun v η => ∃ a c, v = .slice a es.length c ∧ η = [LentL (EvdL tys) tys.evd (markEvd 1) (.slice a es.length c) es]) := by
 have har := ha
 refine Con.of (n := 39) _ rfl Tryz.func58 rfl rfl rfl fun g hg R hR => ?_
 have ha := ha.mono hg
 obtain ⟨a1, c1, rfl⟩ := ha.shape
 refine S.seq <| S.region rfl <| O.q 1 rfl <| O.nil <| S.seq <| S.region rfl <| O.q 1 rfl <| O.op (.p rfl) (.len rfl Tryz.underlying24 rfl) <| O.op (.p rfl) (.add rfl rfl (IntWalk.i64_in _ (by omega))) <| O.opE (.p rfl) (.makeP0 (T := Rp.cells 10) (c := es.length + 12) Tryz.underlying24 F.elem55 rfl rfl rfl rfl (by omega) (by omega)) ?_
 rintro v10 _ ⟨a10, c10, rfl, rfl⟩
 refine O.q 1 rfl <| O.nil <| S.seq <| S.seq <| S.region rfl <| O.q 1 rfl <| O.nil <| S.block <| S.each0 (EvdL tys).own ?_
 refine S.loopK4 (ι := Nat) (κ := Option Addr) (υ := Nat) (τ := List (List Value)) (fun i a c css => i ≤ es.length ∧ css.length = i) (fun i a c css => [(4, .int .i64 (i : Int)), (3, .slice a i c)]) [(0, _)] (fun i a c css => [EachP (EvdL tys).own css (es.take i), OwnP (Rp.cells 10) 55 (.slice a i c) css]) (fun i a c css => es.length - i) (0) (a10) (c10) ([]) (by exact ⟨by simp, rfl⟩) (.cons rfl (.cons rfl (.nil))) (.cons rfl (.nil)) rfl fun i a c css hx ih => ?_
 have hm1 := meltRefl (g := g)
 obtain ⟨hx1, hvs⟩ := hx
 refine S.seq <| S.seq <| S.region rfl <| O.q 2 rfl <| O.op (.p rfl) (.len rfl Tryz.underlying24 rfl) <| O.op (.p rfl) (.lss rfl rfl) <| O.nil ?_
 first | refine S.condD rfl (fun h14 => ?_) (fun h14 => ?_) | refine S.condB rfl (fun h14 => ?_) (fun h14 => ?_)
 ·have hi : i < es.length := by omega
  have hrow := hq es[i] (List.getElem_mem hi)
  refine S.skip <| S.seq <| S.block <| S.seq <| S.region rfl <| O.q 2 rfl <| O.ib (.p rfl) Tryz.underlying24 F.size55 rfl rfl rfl har hg (h := fun p19 cs19 hp19 hrr19 => ?_)
  have hr19 := Rp.rel.mono hrr19 hg
  obtain ⟨ea3_19, ea4_19, ea8_19, ea9_19, ec3_19, ec4_19, ec8_19, ec9_19, rfl, ho0_19, ho1_19, ho2_19, ha3_19, ha4_19, ho5_19, ho6_19, ho7_19, ha8_19, ha9_19⟩ := EvdRp.sh hr19
  refine O.op (.p rfl) (.loadAgg Tryz.isAgg55 (by kernel_rfl) rfl hp19) ?_
  refine O.call0 (.p rfl) rfl F.ok141 rfl rfl ((lentEvidence_c hr19 hrow)) ?_
  rintro v21 _ ⟨a3_21, c3_21, a4_21, c4_21, a8_21, c8_21, a9_21, c9_21, rfl, rfl⟩
  try simp only [zx1, zx2, zx3]
  refine O.opE (.p rfl) (.alloc (cs := [.int .i64 0, .int .i64 0, .int .i64 0, .slice none 0 0, .slice none 0 0, .int .i64 0, .int .i64 0, .int .i64 0, .slice none 0 0, .slice none 0 0]) Tryz.zeroValue55 rfl) ?_
  rintro _ _ ⟨b5, rfl, rfl⟩
  refine O.opU rfl (.storeObj (by kernel_rfl) rfl rfl rfl rfl (by repeat (first | exact zh | apply zt)) (by first | (simp; done) | (simp [Value.cells]; done))) ?_
  refine O.nil <| S.region rfl <| O.q 1 rfl <| O.op (.p rfl) (.loA (news := [_, _, _, _, _, _, _, _, _, _]) Tryz.isAgg55) ?_
  refine O.opE (.p rfl) (.litP (T := (Rp.cells 10)) (ys := [_]) Tryz.underlying24 F.elem55 (by decide) rfl rfl ⟨⟨rfl, rfl, by first | (simp; done) | (intro v hv; simp [Value.cells] at hv; rcases hv with rfl | rfl <;> rfl) | (refine List.forall_mem_cons.2 ⟨rfl, ?_⟩; repeat (first | exact (fun _ h => absurd h List.not_mem_nil) | refine List.forall_mem_cons.2 ⟨rfl, ?_⟩))⟩, trivial⟩ (by decide)) ?_
  rintro _ _ ⟨a24, c24, rfl, rfl⟩
  refine O.opE (.p rfl) (.appendO (T := (Rp.cells 10)) Tryz.underlying24 F.elem55 (by decide) rfl rfl (by repeat (first | exact zh | apply zt)) (by repeat (first | exact zh | apply zt)) (by first | omega | (simp; done) | (simp; omega) | decide) (by first | omega | (simp; done) | (simp; omega) | decide)) ?_
  rintro _ _ ⟨a25, c25, rfl, rfl⟩
  refine O.q 1 rfl <| O.nil <| S.inBlock <| S.region rfl <| O.q 1 rfl <| O.op (.p rfl) (.add rfl rfl (IntWalk.i64_in _ (by omega))) <| O.q 1 rfl <| O.nil ?_
  have hcs : (Value.agg #[.int .i64 es[i].1.1, .int .i64 es[i].1.2.1, .int .i64 es[i].1.2.2.1, .slice a3_21 es[i].1.2.2.2.1.length c3_21, .slice a4_21 es[i].1.2.2.2.2.1.length c4_21, .int .i64 es[i].2.1.1, .int .i64 es[i].2.1.2.1, .int .i64 es[i].2.1.2.2.1, .slice a8_21 es[i].2.1.2.2.2.1.length c8_21, .slice a9_21 es[i].2.1.2.2.2.2.1.length c9_21]).cells.toList = [.int .i64 es[i].1.1, .int .i64 es[i].1.2.1, .int .i64 es[i].1.2.2.1, .slice a3_21 es[i].1.2.2.2.1.length c3_21, .slice a4_21 es[i].1.2.2.2.2.1.length c4_21, .int .i64 es[i].2.1.1, .int .i64 es[i].2.1.2.1, .int .i64 es[i].2.1.2.2.1, .slice a8_21 es[i].2.1.2.2.2.1.length c8_21, .slice a9_21 es[i].2.1.2.2.2.2.1.length c9_21] := by simp [Value.cells]
  simp only [hcs]
  refine S.each (A := (EvdL tys).own) (bs := css) (b := [.int .i64 es[i].1.1, .int .i64 es[i].1.2.1, .int .i64 es[i].1.2.2.1, .slice a3_21 es[i].1.2.2.2.1.length c3_21, .slice a4_21 es[i].1.2.2.2.2.1.length c4_21, .int .i64 es[i].2.1.1, .int .i64 es[i].2.1.2.1, .int .i64 es[i].2.1.2.2.1, .slice a8_21 es[i].2.1.2.2.2.1.length c8_21, .slice a9_21 es[i].2.1.2.2.2.2.1.length c9_21]) (a := es[i]) (by repeat (first | exact zh | apply zt)) (by repeat (first | exact zh | apply zt)) ?_
  rw [← List.take_succ_eq_append_getElem hi, hvs]
  exact S.pw (ih (i + 1) (a25) (c25) (css ++ [[.int .i64 es[i].1.1, .int .i64 es[i].1.2.1, .int .i64 es[i].1.2.2.1, .slice a3_21 es[i].1.2.2.2.1.length c3_21, .slice a4_21 es[i].1.2.2.2.2.1.length c4_21, .int .i64 es[i].2.1.1, .int .i64 es[i].2.1.2.1, .int .i64 es[i].2.1.2.2.1, .slice a8_21 es[i].2.1.2.2.2.1.length c8_21, .slice a9_21 es[i].2.1.2.2.2.2.1.length c9_21]]) (by exact ⟨by omega, by simp; omega⟩) (by omega))
 ·have hi : i = es.length := by omega
  subst hi
  rw [List.take_length]
  refine S.exit rfl <| S.seq <| S.seq <| S.region rfl <| O.q 1 rfl <| O.nil <| S.block <| S.conv (B := OwnP (Rp.cells 10) 55 (.slice a es.length c) css) (C := OwnP (Rp.cells 10) 55 (.slice a es.length c) (css ++ [])) (by repeat (first | exact zh | apply zt)) (fun m x => ⟨m, Fr.sub_refl _, by rw [List.append_nil]; exact x⟩) ?_
  refine S.loopK4 (ι := Nat) (κ := Option Addr) (υ := Nat) (τ := List (List Value)) (fun i a c dss => i ≤ 12 ∧ All2 (EvdRp.rel Fr.emp) dss (mks (markEvd 1) i)) (fun i a c dss => [(6, .int .i64 (i : Int)), (3, .slice a (es.length + i) c)]) [(0, _)] (fun i a c dss => [OwnP (Rp.cells 10) 55 (.slice a (es.length + i) c) (css ++ dss), EachP (EvdL tys).own css es]) (fun i a c dss => 12 - i) (0) (a) (c) ([]) (by exact ⟨by simp, trivial⟩) (.cons rfl (.cons rfl (.nil))) (.cons rfl (.nil)) rfl fun i a c dss hx ih => ?_
  have hm2 := meltRefl (g := g)
  obtain ⟨hx1, hus⟩ := hx
  have hul := hus.len2
  rw [mks_length] at hul
  refine S.seq <| S.seq <| S.region rfl <| O.q 1 rfl <| O.op (.p rfl) (.lss rfl rfl) <| O.nil ?_
  first | refine S.condD rfl (fun h27 => ?_) (fun h27 => ?_) | refine S.condB rfl (fun h27 => ?_) (fun h27 => ?_)
  ·refine S.skip <| S.seq <| S.block <| S.region rfl <| O.q 2 rfl <| O.call0 (.p rfl) rfl F.ok142 rfl rfl (markEvidence_c _ _ (by constructor <;> omega) (by constructor <;> omega)) ?_
   rintro v32 _ ⟨rfl, rfl⟩
   try simp only [zx1, zx2, zx3]
   refine O.opE (.p rfl) (.litP (T := (Rp.cells 10)) (ys := [_]) Tryz.underlying24 F.elem55 (by decide) rfl rfl ⟨⟨rfl, rfl, by first | (simp; done) | (intro v hv; simp [Value.cells] at hv; rcases hv with rfl | rfl <;> rfl) | (refine List.forall_mem_cons.2 ⟨rfl, ?_⟩; repeat (first | exact (fun _ h => absurd h List.not_mem_nil) | refine List.forall_mem_cons.2 ⟨rfl, ?_⟩))⟩, trivial⟩ (by decide)) ?_
   rintro _ _ ⟨a33, c33, rfl, rfl⟩
   refine O.opE (.p rfl) (.appendO (T := (Rp.cells 10)) Tryz.underlying24 F.elem55 (by decide) rfl rfl (by repeat (first | exact zh | apply zt)) (by repeat (first | exact zh | apply zt)) (by first | omega | (simp; done) | (simp; omega) | decide) (by first | omega | (simp; done) | (simp; omega) | decide)) ?_
   rintro _ _ ⟨a34, c34, rfl, rfl⟩
   refine O.q 1 rfl <| O.nil <| S.inBlock <| S.region rfl <| O.q 1 rfl <| O.op (.p rfl) (.add rfl rfl (IntWalk.i64_in _ (by omega))) <| O.q 1 rfl <| O.nil ?_
   have hcs : (Value.agg #[.int .i64 0, .int .i64 0, .int .i64 (markZ 1 (i : Int)), .slice none 0 0, .slice none 0 0, .int .i64 0, .int .i64 0, .int .i64 0, .slice none 0 0, .slice none 0 0]).cells.toList = [.int .i64 0, .int .i64 0, .int .i64 (markZ 1 (i : Int)), .slice none 0 0, .slice none 0 0, .int .i64 0, .int .i64 0, .int .i64 0, .slice none 0 0, .slice none 0 0] := by simp [Value.cells]
   simp only [hcs]
   rw [List.append_assoc]
   simp only [List.length_append, hvs, hul]
   exact S.pw (ih (i + 1) (a34) (c34) ((dss ++ [[.int .i64 0, .int .i64 0, .int .i64 (markZ 1 (i : Int)), .slice none 0 0, .slice none 0 0, .int .i64 0, .int .i64 0, .int .i64 0, .slice none 0 0, .slice none 0 0]])) (by exact ⟨by omega, by rw [← mks_succ]; exact All2.append hus ⟨markEvidence_rel (by constructor <;> omega) (by constructor <;> omega), trivial⟩⟩) (by omega))
  ·have hi : i = 12 := by omega
   subst hi
   refine S.factS (by repeat (first | exact zh | apply zt)) (fun _ x => OwnP.room (T := Rp.cells 10) (e := 55) (xs := css ++ dss) (a := a) (c := c) (m := es.length + 12) x) fun hroom => ?_
   refine S.exit rfl <| S.seq <| S.region rfl <| O.q 2 rfl <| O.op (.p rfl) (.len rfl Tryz.underlying24 rfl) <| O.slice0 (q := es.length) (Rp.cells 10) (.p rfl) Tryz.underlying24 F.size55 rfl rfl rfl (by omega) ?_
   refine O.q 1 rfl <| O.nil <| S.pk (ζ := [OwnP (Rp.cells 10) 55 (.slice a (es.length + 12) c) (css ++ dss), EachP (EvdL tys).own css es]) (by repeat (first | exact zpa | exact zpn | (apply zpc; focus (repeat (first | exact zh | apply zt))) | apply zps)) ?_
   refine S.fold (A := LentL (EvdL tys) tys.evd (markEvd 1) (.slice a es.length c) es) (bs := [OwnP (Rp.cells 10) 55 (.slice a (es.length + 12) c) (css ++ dss), EachP (EvdL tys).own css es]) (fun m x => LentL.fold (L := EvdL tys) hroom.2 hvs hus x) ?_
   exact S.rt Tryz.results58 rfl hR ⟨a, c, rfl, rfl⟩
theorem keptEvidenceRow_c {r : Fr} {va vl : Value} {es : List EvdT} (hz : LentLA (EvdL tys) (markEvd 1) r va es) (hl : Arr EvdRp r vl es) (hq : ∀ x ∈ es, EvdOk 100000000000 x) (hb : es.length ≤ 100000000000) :
  Con Tryz.prog 74 #[va, vl] r [] (Ret fun v η => v = .bool true ∧ η = []) := by
 obtain ⟨a, c, css, dss, rfl, hrm, hin, hv, hu⟩ := hz
 have hlr := hl
 refine Con.of (n := 58) _ rfl Tryz.func74 rfl rfl rfl fun g hg R hR => ?_
 have hin := hin.mono hg
 have hl := hl.mono hg
 replace hv := hv.imp fun _ _ => (EvdL tys).mono hg
 replace hu := hu.imp fun _ _ => EvdRp.mono hg
 have hvl := hv.len2
 have hul := hu.len2
 rw [mks_length] at hul
 obtain ⟨a1, c1, rfl⟩ := hl.shape
 have hal : (css ++ dss).length = es.length + 12 := by simp; omega
 refine S.seq <| S.region rfl <| O.q 1 rfl <| O.nil <| S.seq <| S.seq <| S.region rfl <| O.q 1 rfl <| O.op (.p rfl) (.len rfl Tryz.underlying24 rfl) <| O.q 1 rfl <| O.op (.p rfl) (.len rfl Tryz.underlying24 rfl) <| O.op (.p rfl) (.neq rfl rfl) <| O.nil ?_
 first | refine S.condD rfl (fun h11 => ?_) (fun h11 => ?_) | refine S.condB rfl (fun h11 => ?_) (fun h11 => ?_)
 ·exact absurd rfl (by assumption)
 ·refine S.skip <| S.seq <| S.region rfl <| O.q 2 rfl <| O.op (.p rfl) (.len rfl Tryz.underlying24 rfl) <| O.op (.p rfl) (.add rfl rfl (IntWalk.i64_in _ (by omega))) <| O.slice0 (q := es.length + 12) (Rp.cells 10) (.p rfl) Tryz.underlying24 F.size55 rfl rfl rfl (by omega) ?_
  refine O.q 1 rfl <| O.nil <| S.seq <| S.seq <| S.region rfl <| O.q 1 rfl <| O.nil <| S.block <| S.loopK (ι := Nat) (fun i => i ≤ es.length + 12) (fun i => [(6, .int .i64 (i : Int))]) [(1, _), (5, _)] (fun i => []) (fun i => es.length + 12 - i) (0) (by simp) (.cons rfl (.nil)) (.cons rfl (.cons rfl (.nil))) rfl fun i hx ih => ?_
  have hm1 := meltRefl (g := g)
  refine S.seq <| S.seq <| S.region rfl <| O.q 2 rfl <| O.op (.p rfl) (.len rfl Tryz.underlying24 rfl) <| O.op (.p rfl) (.lss rfl rfl) <| O.nil ?_
  first | refine S.condD rfl (fun h20 => ?_) (fun h20 => ?_) | refine S.condB rfl (fun h20 => ?_) (fun h20 => ?_)
  ·have hi : i < (css ++ dss).length := by omega
   refine S.skip <| S.seq <| S.block <| S.seq <| S.regionD (L := [0, 1, 2, 3, 4, 5, 6, 7, 8, 9, 10, 11, 12, 13, 14, 15, 16, 17, 18, 19, 20, 21, 22, 23, 24, 25, 26, 27, 28, 29, 30, 31, 32, 33, 34]) F.mixed (by kernel_rfl) <| OD.q 2 rfl <| .quiet (.p rfl) rfl (fun _ => .len rfl Tryz.underlying24 rfl) <| .quiet (.p rfl) rfl (fun _ => .lss rfl rfl) <| OD.q 1 rfl ?_
   first | refine OD.caseD 27 rfl (fun h27 => ?_) (fun h27 => ?_) | refine OD.caseB 27 rfl (fun h27 => ?_) (fun h27 => ?_)
   ·have hi2 : i < es.length := by omega
    have hget : (css ++ dss)[i] = css[i] := List.getElem_append_left (by omega)
    have hA := hv.at2 i (by omega) hi2
    have hA2 := (EvdL tys).rel hA
    have hrow := hq es[i] (List.getElem_mem hi2)
    refine OD.q 2 rfl <| OD.ia (.g rfl rfl) Tryz.underlying24 F.size55 rfl rfl rfl (hin) (h := fun p30 cs30 hp30 hr30 => ?_)
    obtain ⟨rfl, _, _⟩ := hr30
    rw [hget] at hp30
    generalize css[i] = cz at hp30 hA hA2
    obtain ⟨za3_30, za4_30, za8_30, za9_30, zc3_30, zc4_30, zc8_30, zc9_30, rfl, zk0_30, zk1_30, zk2_30, zk3_30, zk4_30, zk5_30, zk6_30, zk7_30, zk8_30, zk9_30⟩ := EvdRp.sh hA2
    refine .quiet (.g rfl rfl) rfl (fun _ => .loadAgg Tryz.isAgg55 (by kernel_rfl) rfl hp30) ?_
    refine OD.q 2 rfl <| OD.ib (.g rfl rfl) Tryz.underlying24 F.size55 rfl rfl rfl hlr hg (h := fun p34 cs34 hp34 hrr34 => ?_)
    have hr34 := Rp.rel.mono hrr34 hg
    obtain ⟨ea3_34, ea4_34, ea8_34, ea9_34, ec3_34, ec4_34, ec8_34, ec9_34, rfl, ho0_34, ho1_34, ho2_34, ha3_34, ha4_34, ho5_34, ho6_34, ho7_34, ha8_34, ha9_34⟩ := EvdRp.sh hr34
    refine .quiet (.g rfl rfl) rfl (fun _ => .loadAgg Tryz.isAgg55 (by kernel_rfl) rfl hp34) ?_
    refine OD.call0 (.g rfl rfl) (by kernel_rfl) rfl F.ok161 rfl rfl ((keptEvidence_c hA hr34 hrow)) ?_
    rintro v36 _ ⟨rfl, rfl⟩
    try simp only [zx1, zx2, zx3]
    refine .quiet (.g rfl rfl) rfl (fun _ => .not rfl) <| OD.q 4 rfl <| .quiet (.g rfl rfl) rfl (fun _ => .len rfl Tryz.underlying24 rfl) <| .quiet (.g rfl rfl) rfl (fun _ => .geq rfl rfl) <| OD.sF 43 rfl (by simp; omega) ?_
    refine OD.q 14 rfl <| ODx.nil <| S.condF rfl <| S.skip <| S.inBlock <| S.region rfl <| O.q 1 rfl <| O.op (.p rfl) (.add rfl rfl (IntWalk.i64_in _ (by omega))) <| O.q 1 rfl <| O.nil ?_
    exact S.wk (ih (i + 1) (by omega) (by omega))
   ·have hi2 : es.length ≤ i := by omega
    have hid : i - css.length < dss.length := by omega
    have hget : (css ++ dss)[i] = dss[i - css.length] := List.getElem_append_right (by omega)
    have hA2 := hu.at2 (i - css.length) hid (by simp; omega)
    rw [mks_get] at hA2
    have hmk : Mk ((i : Int) - (es.length : Int)) := by constructor <;> omega
    have hci : ((i - css.length : Nat) : Int) = (i : Int) - (es.length : Int) := by omega
    rw [hci] at hA2
    refine OD.q 14 rfl <| .quiet (.g rfl rfl) rfl (fun _ => .len rfl Tryz.underlying24 rfl) <| .quiet (.g rfl rfl) rfl (fun _ => .geq rfl rfl) <| OD.sT 43 rfl (by simp; omega) ?_
    refine OD.q 3 rfl <| OD.ia (.g rfl rfl) Tryz.underlying24 F.size55 rfl rfl rfl (hin) (h := fun p47 cs47 hp47 hr47 => ?_)
    obtain ⟨rfl, _, _⟩ := hr47
    rw [hget] at hp47
    generalize dss[i - css.length] = cz at hp47 hA2
    obtain ⟨za3_47, za4_47, za8_47, za9_47, zc3_47, zc4_47, zc8_47, zc9_47, rfl, zk0_47, zk1_47, zk2_47, zk3_47, zk4_47, zk5_47, zk6_47, zk7_47, zk8_47, zk9_47⟩ := EvdRp.sh hA2
    refine .quiet (.g rfl rfl) rfl (fun _ => .loadAgg Tryz.isAgg55 (by kernel_rfl) rfl hp47) ?_
    refine OD.q 2 rfl <| .quiet (.g rfl rfl) rfl (fun _ => .len rfl Tryz.underlying24 rfl) <| .quiet (.g rfl rfl) rfl (fun _ => .sub rfl rfl (IntWalk.i64_in _ (by omega))) <| OD.call0 (.g rfl rfl) (by kernel_rfl) rfl F.ok142 rfl rfl ((markEvidence_c _ _ (by constructor <;> omega) hmk)) ?_
    rintro v53 _ ⟨rfl, rfl⟩
    try simp only [zx1, zx2, zx3]
    refine OD.call0 (.g rfl rfl) (by kernel_rfl) rfl F.ok156 rfl rfl ((sameEvidence_c hA2 (markEvidence_rel (by constructor <;> omega) hmk))) ?_
    rintro v54 _ ⟨rfl, rfl⟩
    try simp only [zx1, zx2, zx3]
    refine OD.sT 54 rfl (by simp) ?_
    refine .quiet (.g rfl rfl) rfl (fun _ => .not rfl) <| OD.q 2 rfl <| ODx.nil <| S.condF rfl <| S.skip <| S.inBlock <| S.region rfl <| O.q 1 rfl <| O.op (.p rfl) (.add rfl rfl (IntWalk.i64_in _ (by omega))) <| O.q 1 rfl <| O.nil ?_
    exact S.wk (ih (i + 1) (by omega) (by omega))
  ·refine S.exit rfl <| S.seq <| S.region rfl <| O.q 1 rfl <| O.nil ?_
   exact S.rt Tryz.results74 rfl hR ⟨rfl, rfl⟩
end Go.Proofs.YtodhbhanmdfdeaaGreat
end
section
/- Texts of this proof, one behind the other. -/
section
/- Texts of this proof. -/
open Go Go.Sp
set_option maxRecDepth 100000
attribute [local irreducible] obj Own OwnP
namespace Go.Proofs.YtodhbhanmdfdeaaGreat
theorem lentHeld_c {r : Fr} {cs : List Value} {x : HeldT} (h : HeldRp.rel r cs x) (hb : HeldOk 100000000000 x) :
  Con Tryz.prog 16 #[.agg cs.toArray] r [] (Ret fun v η => ∃ a0 c0 a1 c1 a2 c2 a3 c3, v = .agg #[.slice a0 x.1.length c0, .slice a1 x.2.1.length c1, .slice a2 x.2.2.1.length c2, .slice a3 x.2.2.2.1.length c3] ∧ η = [(HeldL tys).own [.slice a0 x.1.length c0, .slice a1 x.2.1.length c1, .slice a2 x.2.2.1.length c2, .slice a3 x.2.2.2.1.length c3] x]) := by
 obtain ⟨xa0, xa1, xa2, xa3, xc0, xc1, xc2, xc3, rfl, k0, k1, k2, k3⟩ := HeldRp.sh h
 obtain ⟨ob0, ob1, ob2, ob3⟩ := hb
 refine Con.of (n := 20) _ rfl Tryz.func16 rfl rfl rfl fun g hg R hR => ?_
 have k0 := k0.mono hg
 have k1 := k1.mono hg
 have k2 := k2.mono hg
 have k3 := k3.mono hg
 refine S.seq <| S.region rfl <| O.opE (.p rfl) (.box (cs := [_, _, _, _]) rfl rfl) ?_
 rintro _ _ ⟨b1, rfl, rfl⟩
 refine O.opE (.p rfl) (.alloc (cs := [.slice none 0 0, .slice none 0 0, .slice none 0 0, .slice none 0 0]) Tryz.zeroValue27 rfl) ?_
 rintro _ _ ⟨b2, rfl, rfl⟩
 refine O.nil <| S.seq <| S.region rfl <| O.op (.p rfl) (.fieldObj F.fld27x0 rfl) <| O.op (.p rfl) (.lo F.flat22) ?_
 refine O.call0 (.p rfl) rfl F.ok56 rfl rfl ((lentLeaves_c k0 ob0.2 ob0.1)) ?_
 rintro v5 _ ⟨a0, c0, rfl, rfl⟩
 try simp only [zx1, zx2, zx3]
 refine O.op (.p rfl) (.fieldObj F.fld27x0 rfl) <| O.opU rfl (.store1 F.flat22 rfl rfl (by first | rfl | assumption) (by repeat (first | exact zh | apply zt)) (by first | (simp; done) | (simp [Value.cells]; done))) ?_
 refine O.nil <| S.seq <| S.region rfl <| O.op (.p rfl) (.fieldObj F.fld27x1 rfl) <| O.op (.p rfl) (.lo F.flat23) ?_
 refine O.call0 (.p rfl) rfl F.ok57 rfl rfl ((lentRoots_c k1 ob1.2 ob1.1)) ?_
 rintro v9 _ ⟨a1, c1, rfl, rfl⟩
 try simp only [zx1, zx2, zx3]
 refine O.op (.p rfl) (.fieldObj F.fld27x1 rfl) <| O.opU rfl (.store1 F.flat23 rfl rfl (by first | rfl | assumption) (by repeat (first | exact zh | apply zt)) (by first | (simp; done) | (simp [Value.cells]; done))) ?_
 refine O.nil <| S.seq <| S.region rfl <| O.op (.p rfl) (.fieldObj F.fld27x2 rfl) <| O.op (.p rfl) (.lo F.flat24) ?_
 refine O.call0 (.p rfl) rfl F.ok58 rfl rfl ((lentEvidenceRow_c k2 ob2.2 ob2.1)) ?_
 rintro v13 _ ⟨a2, c2, rfl, rfl⟩
 try simp only [zx1, zx2, zx3]
 refine O.op (.p rfl) (.fieldObj F.fld27x2 rfl) <| O.opU rfl (.store1 F.flat24 rfl rfl (by first | rfl | assumption) (by repeat (first | exact zh | apply zt)) (by first | (simp; done) | (simp [Value.cells]; done))) ?_
 refine O.nil <| S.seq <| S.region rfl <| O.op (.p rfl) (.fieldObj F.fld27x3 rfl) <| O.op (.p rfl) (.lo F.flat25) ?_
 refine O.call0 (.p rfl) rfl F.ok59 rfl rfl ((lentInts_c k3 (by omega))) ?_
 rintro v17 _ ⟨a3, c3, rfl, rfl⟩
 try simp only [zx1, zx2, zx3]
 refine O.op (.p rfl) (.fieldObj F.fld27x3 rfl) <| O.opU rfl (.store1 F.flat25 rfl rfl (by first | rfl | assumption) (by repeat (first | exact zh | apply zt)) (by first | (simp; done) | (simp [Value.cells]; done))) ?_
 refine O.nil <| S.seq <| S.region rfl <| O.op (.p rfl) (.loA (news := [_, _, _, _]) Tryz.isAgg27) ?_
 refine O.opU rfl (.storeObj (by kernel_rfl) rfl rfl rfl rfl (by repeat (first | exact zh | apply zt)) (by first | (simp; done) | (simp [Value.cells]; done))) ?_
 refine O.nil <| S.foldS (A := (HeldL tys).own [.slice a0 x.1.length c0, .slice a1 x.2.1.length c1, .slice a2 x.2.2.1.length c2, .slice a3 x.2.2.2.1.length c3] x) (bs := [LentL (LeafL tys) tys.leaf (markLeaf 1) (.slice a0 x.1.length c0) x.1, LentL (RootL tys) tys.root (markRoot 1) (.slice a1 x.2.1.length c1) x.2.1, LentL (EvdL tys) tys.evd (markEvd 1) (.slice a2 x.2.2.1.length c2) x.2.2.1, LentQ Rp.i64 tys.int (markZ 1) (.slice a3 x.2.2.2.1.length c3) x.2.2.2.1]) (by repeat (first | exact zsn | (apply zsc; focus (repeat (first | exact zh | apply zt))))) (fun m y => HeldL.mk  y) ?_
 refine S.retCellAgg Tryz.results16 Tryz.isAgg27 (by kernel_rfl) rfl (by repeat (first | exact zh | apply zt)) fun w hw => Holds.end_ hR hw ?_
 exact pk ⟨a0, c0, a1, c1, a2, c2, a3, c3, rfl, rfl⟩
theorem keptHeld_c {r : Fr} {cs ds : List Value} {x : HeldT} (h : (HeldL tys).rd r cs x) (hy : HeldRp.rel r ds x) (hb : HeldOk 100000000000 x) :
  Con Tryz.prog 22 #[.agg cs.toArray, .agg ds.toArray] r [] (Ret fun v η => v = .bool true ∧ η = []) := by
 have hx := (HeldL tys).rel h
 obtain ⟨v0, v1, v2, v3, rfl, q0, q1, q2, q3⟩ := HeldL.opn h
 obtain ⟨ya0, ya1, ya2, ya3, yc0, yc1, yc2, yc3, rfl, yk0, yk1, yk2, yk3⟩ := HeldRp.sh hy
 obtain ⟨ob0, ob1, ob2, ob3⟩ := hb
 refine Con.of (n := 36) _ rfl Tryz.func22 rfl rfl rfl fun g hg R hR => ?_
 have hx := hx.mono hg
 have hy := hy.mono hg
 have yk0 := yk0.mono hg
 have yk1 := yk1.mono hg
 have yk2 := yk2.mono hg
 have yk3 := yk3.mono hg
 replace q0 := q0.mono hg
 replace q1 := q1.mono hg
 replace q2 := q2.mono hg
 replace q3 := q3.mono hg
 refine S.seq <| S.region rfl <| O.opE (.p rfl) (.box (cs := [_, _, _, _]) rfl rfl) ?_
 rintro _ _ ⟨b2, rfl, rfl⟩
 refine O.opE (.p rfl) (.box (cs := [_, _, _, _]) rfl rfl) ?_
 rintro _ _ ⟨b3, rfl, rfl⟩
 refine O.q 1 rfl <| O.nil <| S.seq <| S.region rfl <| O.op (.p rfl) (.loA (news := [_, _, _, _]) Tryz.isAgg27) ?_
 refine O.op (.p rfl) (.loA (news := [_, _, _, _]) Tryz.isAgg27) ?_
 refine O.call0 (.p rfl) rfl F.ok33 rfl rfl ((sameHeld_c hx hy)) ?_
 rintro v7 _ ⟨rfl, rfl⟩
 try simp only [zx1, zx2, zx3]
 refine O.sT 7 rfl (by simp) ?_
 refine O.q 1 rfl <| O.op (.g rfl rfl) (.fieldObj F.fld27x0 rfl) <| O.op (.g rfl rfl) (.lo F.flat22) ?_
 refine O.op (.g rfl rfl) (.fieldObj F.fld27x0 rfl) <| O.op (.g rfl rfl) (.lo F.flat22) ?_
 refine O.call0 (.g rfl rfl) rfl F.ok72 rfl rfl ((keptLeaves_c q0 yk0 ob0.2 ob0.1)) ?_
 rintro v13 _ ⟨rfl, rfl⟩
 try simp only [zx1, zx2, zx3]
 refine O.q 2 rfl <| O.op (.g rfl rfl) (.fieldObj F.fld27x1 rfl) <| O.op (.g rfl rfl) (.lo F.flat23) ?_
 refine O.op (.g rfl rfl) (.fieldObj F.fld27x1 rfl) <| O.op (.g rfl rfl) (.lo F.flat23) ?_
 refine O.call0 (.g rfl rfl) rfl F.ok73 rfl rfl ((keptRoots_c q1 yk1 ob1.2 ob1.1)) ?_
 rintro v20 _ ⟨rfl, rfl⟩
 try simp only [zx1, zx2, zx3]
 refine O.q 2 rfl <| O.op (.g rfl rfl) (.fieldObj F.fld27x2 rfl) <| O.op (.g rfl rfl) (.lo F.flat24) ?_
 refine O.op (.g rfl rfl) (.fieldObj F.fld27x2 rfl) <| O.op (.g rfl rfl) (.lo F.flat24) ?_
 refine O.call0 (.g rfl rfl) rfl F.ok74 rfl rfl ((keptEvidenceRow_c q2 yk2 ob2.2 ob2.1)) ?_
 rintro v27 _ ⟨rfl, rfl⟩
 try simp only [zx1, zx2, zx3]
 refine O.q 2 rfl <| O.op (.g rfl rfl) (.fieldObj F.fld27x3 rfl) <| O.op (.g rfl rfl) (.lo F.flat25) ?_
 refine O.op (.g rfl rfl) (.fieldObj F.fld27x3 rfl) <| O.op (.g rfl rfl) (.lo F.flat25) ?_
 refine O.call0 (.g rfl rfl) rfl F.ok75 rfl rfl ((keptInts_c q3 yk3 (by omega))) ?_
 rintro v34 _ ⟨rfl, rfl⟩
 try simp only [zx1, zx2, zx3]
 refine O.q 2 rfl <| O.nil ?_
 exact S.rt Tryz.results22 rfl hR ⟨rfl, rfl⟩
end Go.Proofs.YtodhbhanmdfdeaaGreat
end
section
/- Texts of this proof. -/
open Go Go.Sp
set_option maxRecDepth 100000
attribute [local irreducible] obj Own OwnP
namespace Go.Proofs.YtodhbhanmdfdeaaGreat
theorem heldOk_of {n : Nat} {h : HeldT} (hn : n ≤ 3000) (hc : HeldC n h) (ho : HeldOk big h) : HeldOk 100000000000 h := by
 obtain ⟨⟨⟨a1, _⟩, a2⟩, ⟨b1, b2⟩, ⟨c1, c2⟩, d⟩ := hc
 refine ⟨⟨by omega, fun y hy => ?_⟩, ⟨by omega, fun y hy => ?_⟩, ⟨by omega, fun y hy => ?_⟩, by omega⟩
 ·obtain ⟨e1, e2, e3⟩ := a2 y hy
  refine ⟨by omega, by omega, fun z hz => ?_⟩
  have := e3 z hz
  unfold recN at this
  exact ⟨by omega, by omega, by omega, by omega⟩
 ·have := b2 y hy
  unfold rootN at this
  exact ⟨by omega, by omega⟩
 ·have := c2 y hy
  unfold rootN at this
  exact ⟨by omega, by omega, by omega, by omega⟩
theorem imgOut_le {n : Nat} {h : HeldT} (hn : n ≤ 3000) (hc : HeldC n h) : (imgOut h).length ≤ 10000000 := by
 cases e : imgW h with
 | none => simp [imgOut, e]
 | some ob =>
  have e1 : imgOut h = heldB h := by rw [← imgW_out e]; simp [imgOut, e]
  obtain ⟨p0, p1, p2⟩ := imgW_all (h := h) (by rw [e]; rfl)
  obtain ⟨⟨⟨m0, m0'⟩, _⟩, ⟨m1, _⟩, ⟨m2, _⟩, m3⟩ := hc
  have q0 := leafRows_le p0
  have q1 := rowsB_le (fun x => bytesOf (rootB x)) 161 h.2.1 fun x hx => by have := rootB_length (p1 x hx); simp; omega
  have q2 := rowsB_le (fun x => bytesOf (evdB x)) 330 h.2.2.1 fun x hx => by have := evdB_length (p2 x hx); simp; omega
  have q3 := rowsB_le be 8 h.2.2.2.1 fun x _ => by simp
  rw [e1]
  simp only [heldB, List.length_append, be_length]
  omega
theorem rows_first {e : TypeId} {v w : Value} {xs ys : List UInt8} {m : Fr} (h : Sat [RowsP Rp.u8 e [v, w] [xs, ys]] m) : Arr Rp.u8 m v xs := by
 obtain ⟨m1, _, _, s1, _, x, _⟩ := h
 obtain ⟨m2, _, _, s2, _, y, _⟩ := x
 exact y.arr.mono (Fr.sub_trans s2 s1)
theorem imagePuts_c {r : Fr} {cs : List Value} {h : HeldT} (hr : HeldRp.rel r cs h) (ho : HeldOk big h) :
  Con Tryz.prog 3 #[.agg cs.toArray] r [] (Ret fun v η => v = .bool true ∧ η = []) := by
 obtain ⟨xa0, xa1, xa2, xa3, xc0, xc1, xc2, xc3, rfl, k0, k1, k2, k3⟩ := HeldRp.sh hr
 refine Con.of (n := 65) _ rfl Tryz.func3 rfl rfl rfl fun g hg R hR => ?_
 have hr := hr.mono hg
 refine S.seq <| S.region rfl <| O.opE (.p rfl) (.box (cs := [_, _, _, _]) rfl rfl) ?_
 rintro _ _ ⟨b1, rfl, rfl⟩
 refine O.q 1 rfl <| O.nil <| S.seq <| S.seq <| S.frzO (by repeat (first | exact zh | apply zt)) fun g hs hm hb1 => ?_
 replace hg := Fr.sub_trans hg hs
 replace hR := melted hR hm
 try replace hr := hr.mono hs
 clear hs hm
 refine S.region rfl <| O.op (.p rfl) (.loadAgg Tryz.isAgg27 (by kernel_rfl) rfl hb1) ?_
 refine O.call0 (.p rfl) rfl F.ok14 rfl rfl ((heldOf_c hr ho ⟨by decide, by decide⟩)) ?_
 rintro v11 _ ⟨n, rfl, hn, rfl⟩
 try simp only [zx1, zx2, zx3]
 refine O.op (.p rfl) (.gtr rfl rfl) <| O.nil ?_
 first | refine S.condD rfl (fun h12 => ?_) (fun h12 => ?_) | refine S.condB rfl (fun h12 => ?_) (fun h12 => ?_)
 ·refine S.seq <| S.region rfl <| O.call0 (.p rfl) rfl F.ok15 rfl rfl (awake_c) ?_
  rintro v13 _ ⟨rfl, rfl⟩
  try simp only [zx1, zx2, zx3]
  refine O.q 1 rfl <| O.nil ?_
  exact S.rt Tryz.results3 rfl hR ⟨rfl, rfl⟩
 ·have hc := hn (by omega)
  have hB := (hc.mono (by omega : n ≤ 3000)).b
  have hk := heldOk_of (by omega) hc ho
  have hol := imgOut_le (by omega) hc
  refine S.skip <| S.seq <| S.region rfl <| O.op (.p rfl) (.loadAgg Tryz.isAgg27 (by kernel_rfl) rfl hb1) ?_
  refine O.call0 (.p rfl) rfl F.ok16 rfl rfl ((lentHeld_c hr hk)) ?_
  rintro v15 _ ⟨a0, c0, a1, c1, a2, c2, a3, c3, rfl, rfl⟩
  try simp only [zx1, zx2, zx3]
  refine O.opE (.p rfl) (.alloc (cs := [.slice none 0 0, .slice none 0 0, .slice none 0 0, .slice none 0 0]) Tryz.zeroValue27 rfl) ?_
  rintro _ _ ⟨b3, rfl, rfl⟩
  refine O.opU rfl (.storeObj (by kernel_rfl) rfl rfl rfl rfl (by repeat (first | exact zh | apply zt)) (by first | (simp; done) | (simp [Value.cells]; done))) ?_
  refine O.nil <| S.seq <| S.objIs (b := b3) (cs' := [.slice a0 h.1.length c0, .slice a1 h.2.1.length c1, .slice a2 h.2.2.1.length c2, .slice a3 h.2.2.2.1.length c3]) (by repeat (first | exact zh | apply zt)) rfl ?_
  refine S.frzO (by repeat (first | exact zh | apply zt)) fun g hs hm hb3 => ?_
  replace hg := Fr.sub_trans hg hs
  replace hR := melted hR hm
  try replace hr := hr.mono hs
  try replace hb1 := hb1.mono hs
  clear hs hm
  refine S.frz (A := (HeldL tys).own [.slice a0 h.1.length c0, .slice a1 h.2.1.length c1, .slice a2 h.2.2.1.length c2, .slice a3 h.2.2.2.1.length c3] h) (by repeat (first | exact zh | apply zt)) fun g hs hm ⟨_, x', s'⟩ => ?_
  have hL := (fun s x => (HeldL tys).mono s ((HeldL tys).read x)) s' x'
  clear x' s'
  replace hg := Fr.sub_trans hg hs
  replace hR := melted hR hm
  try replace hr := hr.mono hs
  try replace hb1 := hb1.mono hs
  try replace hb3 := hb3.mono hs
  clear hs hm
  have hLr := (HeldL tys).rel hL
  refine S.region rfl <| O.op (.p rfl) (.loadAgg Tryz.isAgg27 (by kernel_rfl) rfl hb3) ?_
  refine O.call0 (.p rfl) rfl F.ok17 rfl rfl ((iPut_c hLr hB)) ?_
  rintro v18 _ ⟨a18, c18, rfl, rfl⟩
  try simp only [zx1, zx2, zx3]
  refine O.q 5 rfl <| O.nil <| S.seq <| S.region rfl <| O.op (.p rfl) (.loadAgg Tryz.isAgg27 (by kernel_rfl) rfl hb3) ?_
  refine O.call0 (.p rfl) rfl F.ok17 rfl rfl ((iPut_c hLr hB)) ?_
  rintro v23 _ ⟨a23, c23, rfl, rfl⟩
  try simp only [zx1, zx2, zx3]
  refine O.q 5 rfl <| O.nil <| S.seq <| S.region rfl <| O.op (.p rfl) (.loadAgg Tryz.isAgg27 (by kernel_rfl) rfl hb1) ?_
  refine O.call0 (.p rfl) rfl F.ok18 rfl rfl ((r20put_c hr hB)) ?_
  rintro v28 _ ⟨a28, c28, rfl, rfl⟩
  try simp only [zx1, zx2, zx3]
  refine O.q 5 rfl <| O.nil <| S.seq <| S.each0 (OwnP Rp.u8 5) ?_
  refine S.each (A := OwnP Rp.u8 5) (b := .slice a18 (imgOut h).length c18) (a := imgOut h) (by repeat (first | exact zh | apply zt)) (by repeat (first | exact zh | apply zt)) ?_
  refine S.each (A := OwnP Rp.u8 5) (b := .slice a23 (imgOut h).length c23) (a := imgOut h) (by repeat (first | exact zh | apply zt)) (by repeat (first | exact zh | apply zt)) ?_
  simp only [List.nil_append, List.cons_append]
  refine S.frzA (by repeat (first | exact zh | apply zt)) fun g hs hm hb => ?_
  replace hg := Fr.sub_trans hg hs
  replace hR := melted hR hm
  try replace hr := hr.mono hs
  try replace hb1 := hb1.mono hs
  try replace hb3 := hb3.mono hs
  try replace hL := hL.mono hs
  try replace hLr := hLr.mono hs
  clear hs hm
  refine S.regionD (L := [0, 1, 2, 3, 4, 5, 6, 7, 8, 9, 11, 10, 12, 13, 14, 15, 16, 17, 18, 19, 20, 21, 22, 23, 24, 25, 26, 27, 28, 29, 30, 31, 32, 33, 34]) F.mixed (by kernel_rfl) ?_
  refine OD.q 2 rfl <| .quiet (.p rfl) rfl (fun _ => .eql rfl rfl) <| OD.sT 33 rfl (by simp) ?_
  refine OD.q 3 rfl <| OD.callB (.g rfl rfl) (by kernel_rfl) rfl F.ok19 rfl rfl (bs := [RowsP Rp.u8 5 [.slice a18 (imgOut h).length c18, .slice a23 (imgOut h).length c23] [imgOut h, imgOut h]]) (by repeat (first | exact zsn | (apply zsc; focus (repeat (first | exact zh | apply zt))))) (fun m hm hd => SameBytes_c ((rows_first hm).right hd) hb.left) ?_
  rintro v37 _ ⟨rfl, rfl⟩
  try simp only [zx1, zx2, zx3]
  refine OD.sT 37 rfl (by simp) ?_
  refine OD.q 2 rfl <| .quiet (.g rfl rfl) rfl (fun _ => .loadAgg Tryz.isAgg27 (by kernel_rfl) rfl hb3) ?_
  refine .quiet (.g rfl rfl) rfl (fun _ => .loadAgg Tryz.isAgg27 (by kernel_rfl) rfl hb1) ?_
  refine OD.call0 (.g rfl rfl) (by kernel_rfl) rfl F.ok20 rfl rfl ((iRight_c hLr hB)) ?_
  rintro v41 _ ⟨rfl, rfl⟩
  try simp only [zx1, zx2, zx3]
  refine OD.call0 (.g rfl rfl) (by kernel_rfl) rfl F.ok21 rfl rfl ((r20right_c hr)) ?_
  rintro v43 _ ⟨rfl, rfl⟩
  try simp only [zx1, zx2, zx3]
  refine .quiet (.g rfl rfl) rfl (fun _ => .eqlB Tryz.underlying4 rfl rfl) <| OD.sT 44 rfl (by simp) ?_
  refine OD.q 2 rfl <| .quiet (.g rfl rfl) rfl (fun _ => .loadAgg Tryz.isAgg27 (by kernel_rfl) rfl hb3) ?_
  refine .quiet (.g rfl rfl) rfl (fun _ => .loadAgg Tryz.isAgg27 (by kernel_rfl) rfl hb1) ?_
  refine OD.call0 (.g rfl rfl) (by kernel_rfl) rfl F.ok22 rfl rfl ((keptHeld_c hL hr hk)) ?_
  rintro v49 _ ⟨rfl, rfl⟩
  try simp only [zx1, zx2, zx3]
  refine OD.q 4 rfl <| OD.litP (T := Rp.val) (ys := [_, _]) (.g rfl rfl) (by kernel_rfl) Tryz.underlying39 F.elem31 (by decide) rfl rfl ⟨⟨rfl, rfl⟩, ⟨rfl, rfl⟩, trivial⟩ (by decide) (fun a54 c54 => ?_)
  refine OD.callSs (.g rfl rfl) (by kernel_rfl) rfl F.ok23 rfl rfl (by repeat (first | exact zsn | (apply zsc; focus (repeat (first | exact zh | apply zt))))) (Con.lentW (η := [RowsP Rp.u8 5 [.slice a18 (imgOut h).length c18, .slice a23 (imgOut h).length c23] [imgOut h, imgOut h]]) (bs := [OwnP Rp.val 31 (.slice a54 2 c54) [.slice a18 (imgOut h).length c18, .slice a23 (imgOut h).length c23]]) (fun m hm hd => ApartBytes_c (hm.arr.right hd) (by simp; omega) (by simp))) ?_
  rintro v55 _ ⟨_, ⟨rfl, rfl⟩, rfl⟩
  try simp only [zx1, zx2, zx3]
  refine OD.q 2 rfl <| .quiet (.g rfl rfl) rfl (fun _ => .loadAgg Tryz.isAgg27 (by kernel_rfl) rfl hb3) ?_
  refine .quiet (.g rfl rfl) rfl (fun _ => .loadAgg Tryz.isAgg27 (by kernel_rfl) rfl hb1) ?_
  refine OD.call0 (.g rfl rfl) (by kernel_rfl) rfl F.ok22 rfl rfl ((keptHeld_c hL hr hk)) ?_
  rintro v60 _ ⟨rfl, rfl⟩
  try simp only [zx1, zx2, zx3]
  refine OD.q 2 rfl <| OD.call0 (.g rfl rfl) (by kernel_rfl) rfl F.ok15 rfl rfl (awake_c) ?_
  rintro v63 _ ⟨rfl, rfl⟩
  try simp only [zx1, zx2, zx3]
  refine OD.q 2 rfl <| ODx.nil ?_
  exact S.rt Tryz.results3 rfl hR ⟨rfl, rfl⟩
end Go.Proofs.YtodhbhanmdfdeaaGreat
end
end
