/- Texts of this proof. -/
import Derived.Test.YtodhbhanmdfdeaaGreatQFc
import Derived.Test.YtodhbhanmdfdeaaGreatQLent0
import Derived.Test.YtodhbhanmdfdeaaGreatQSpAuto
open Go Go.Sp
set_option maxRecDepth 100000
attribute [local irreducible] obj Own OwnP
namespace Go.Proofs.YtodhbhanmdfdeaaGreat
theorem markRecord_c {r : Fr} (k i : Int) (hk : Mk k) (hi : Mk i) : Con Tryz.prog 101 #[.int .i64 k, .int .i64 i] r [] (Ret fun v η => v = .agg #[.string (str []), .int .i64 0, .int .i64 (markZ k i), .slice none 0 0, .bool false, .slice none 0 0, .slice none 0 0] ∧ η = []) := by
 refine Con.of (n := 9) _ rfl Tryz.func101 rfl rfl rfl fun g hg R hR => ?_
 refine S.seq <| S.region rfl <| O.opE (.p rfl) (.alloc (cs := [.string ⟨#[]⟩, .int .i64 0, .int .i64 0, .slice none 0 0, .bool false, .slice none 0 0, .slice none 0 0]) Tryz.zeroValue74 rfl) ?_
 rintro _ _ ⟨b4, rfl, rfl⟩
 refine O.nil <| S.seq <| S.region rfl <| O.q 2 rfl <| O.call0 (.p rfl) rfl F.ok143 rfl rfl ((mark_c _ _ hk hi)) ?_
 rintro v7 _ ⟨rfl, rfl⟩
 try simp only [zx1, zx2, zx3]
 refine O.op (.p rfl) (.build (cs := [_, _, _, _, _, _, _]) Tryz.underlying74 rfl rfl rfl rfl rfl) <| O.opU rfl (.storeObj (by kernel_rfl) rfl rfl rfl rfl (by repeat (first | exact zh | apply zt)) (by first | (simp; done) | (simp [Value.cells]; done))) ?_
 refine O.nil <| S.retCellAgg Tryz.results101 Tryz.isAgg74 (by kernel_rfl) rfl (by repeat (first | exact zh | apply zt)) fun w hw => Holds.end_ hR hw ?_
 exact pk ⟨rfl, rfl⟩
theorem markRecord_rel {h : Fr} {k i : Int} (hk : Mk k) (hi : Mk i) : RecRp.rel h [.string (str []), .int .i64 0, .int .i64 (markZ k i), .slice none 0 0, .bool false, .slice none 0 0, .slice none 0 0] (markRec k i) := RecRp.mk (by simp) (by constructor <;> decide) (markZ64 hk hi) Arr.nil Arr.nil Arr.nil
theorem lentRecord_c {r : Fr} {cs : List Value} {x : RecT} (h : RecRp.rel r cs x) (hb : RecOk 100000000000 x) :
  Con Tryz.prog 100 #[.agg cs.toArray] r [] (Ret fun v η => ∃ a3 c3 a5 c5 a6 c6, v = .agg #[.string (str x.1), .int .i64 x.2.1, .int .i64 x.2.2.1, .slice a3 x.2.2.2.1.length c3, .bool x.2.2.2.2.1, .slice a5 x.2.2.2.2.2.1.length c5, .slice a6 x.2.2.2.2.2.2.1.length c6] ∧ η = [(RecL tys).own [.string (str x.1), .int .i64 x.2.1, .int .i64 x.2.2.1, .slice a3 x.2.2.2.1.length c3, .bool x.2.2.2.2.1, .slice a5 x.2.2.2.2.2.1.length c5, .slice a6 x.2.2.2.2.2.2.1.length c6] x]) := by
 obtain ⟨xa3, xa5, xa6, xc3, xc5, xc6, rfl, k0, k1, k2, k3, k5, k6⟩ := RecRp.sh h
 obtain ⟨ob0, ob3, ob5, ob6⟩ := hb
 refine Con.of (n := 16) _ rfl Tryz.func100 rfl rfl rfl fun g hg R hR => ?_
 have k3 := k3.mono hg
 have k5 := k5.mono hg
 have k6 := k6.mono hg
 refine S.seq <| S.region rfl <| O.opE (.p rfl) (.box (cs := [_, _, _, _, _, _, _]) rfl rfl) ?_
 rintro _ _ ⟨b1, rfl, rfl⟩
 refine O.opE (.p rfl) (.alloc (cs := [.string ⟨#[]⟩, .int .i64 0, .int .i64 0, .slice none 0 0, .bool false, .slice none 0 0, .slice none 0 0]) Tryz.zeroValue74 rfl) ?_
 rintro _ _ ⟨b2, rfl, rfl⟩
 refine O.nil <| S.seq <| S.region rfl <| O.op (.p rfl) (.fieldObj F.fld74x3 rfl) <| O.op (.p rfl) (.lo F.flat72) ?_
 refine O.call0 (.p rfl) rfl F.ok202 rfl rfl ((lentDots_c k3 (by omega))) ?_
 rintro v5 _ ⟨a3, c3, rfl, rfl⟩
 try simp only [zx1, zx2, zx3]
 refine O.op (.p rfl) (.fieldObj F.fld74x3 rfl) <| O.opU rfl (.store1 F.flat72 rfl rfl (by first | rfl | assumption) (by repeat (first | exact zh | apply zt)) (by first | (simp; done) | (simp [Value.cells]; done))) ?_
 refine O.nil <| S.seq <| S.region rfl <| O.op (.p rfl) (.fieldObj F.fld74x5 rfl) <| O.op (.p rfl) (.lo F.flat31) ?_
 refine O.call0 (.p rfl) rfl F.ok24 rfl rfl ((LentBytes_c k5 (by omega))) ?_
 rintro v9 _ ⟨a5, c5, rfl, rfl⟩
 try simp only [zx1, zx2, zx3]
 refine O.op (.p rfl) (.fieldObj F.fld74x5 rfl) <| O.opU rfl (.store1 F.flat31 rfl rfl (by first | rfl | assumption) (by repeat (first | exact zh | apply zt)) (by first | (simp; done) | (simp [Value.cells]; done))) ?_
 refine O.nil <| S.seq <| S.region rfl <| O.op (.p rfl) (.fieldObj F.fld74x6 rfl) <| O.op (.p rfl) (.lo F.flat31) ?_
 refine O.call0 (.p rfl) rfl F.ok24 rfl rfl ((LentBytes_c k6 (by omega))) ?_
 rintro v13 _ ⟨a6, c6, rfl, rfl⟩
 try simp only [zx1, zx2, zx3]
 refine O.op (.p rfl) (.fieldObj F.fld74x6 rfl) <| O.opU rfl (.store1 F.flat31 rfl rfl (by first | rfl | assumption) (by repeat (first | exact zh | apply zt)) (by first | (simp; done) | (simp [Value.cells]; done))) ?_
 refine O.nil <| S.seq <| S.region rfl <| O.op (.p rfl) (.loA (news := [_, _, _, _, _, _, _]) Tryz.isAgg74) ?_
 refine O.opU rfl (.storeObj (by kernel_rfl) rfl rfl rfl rfl (by repeat (first | exact zh | apply zt)) (by first | (simp; done) | (simp [Value.cells]; done))) ?_
 refine O.nil <| S.foldS (A := (RecL tys).own [.string (str x.1), .int .i64 x.2.1, .int .i64 x.2.2.1, .slice a3 x.2.2.2.1.length c3, .bool x.2.2.2.2.1, .slice a5 x.2.2.2.2.2.1.length c5, .slice a6 x.2.2.2.2.2.2.1.length c6] x) (bs := [LentQ DotRp tys.dot (markDot 1) (.slice a3 x.2.2.2.1.length c3) x.2.2.2.1, LentQ Rp.u8 tys.u8 (markB 1) (.slice a5 x.2.2.2.2.2.1.length c5) x.2.2.2.2.2.1, LentQ Rp.u8 tys.u8 (markB 1) (.slice a6 x.2.2.2.2.2.2.1.length c6) x.2.2.2.2.2.2.1]) (by repeat (first | exact zsn | (apply zsc; focus (repeat (first | exact zh | apply zt))))) (fun m y => RecL.mk k0 k1 k2 y) ?_
 refine S.retCellAgg Tryz.results100 Tryz.isAgg74 (by kernel_rfl) rfl (by repeat (first | exact zh | apply zt)) fun w hw => Holds.end_ hR hw ?_
 exact pk ⟨a3, c3, a5, c5, a6, c6, rfl, rfl⟩
theorem keptRecord_c {r : Fr} {cs ds : List Value} {x : RecT} (h : (RecL tys).rd r cs x) (hy : RecRp.rel r ds x) (hb : RecOk 100000000000 x) :
  Con Tryz.prog 112 #[.agg cs.toArray, .agg ds.toArray] r [] (Ret fun v η => v = .bool true ∧ η = []) := by
 have hx := (RecL tys).rel h
 obtain ⟨v3, v5, v6, rfl, k0, k1, k2, q3, q5, q6⟩ := RecL.opn h
 obtain ⟨ya3, ya5, ya6, yc3, yc5, yc6, rfl, yk0, yk1, yk2, yk3, yk5, yk6⟩ := RecRp.sh hy
 obtain ⟨ob0, ob3, ob5, ob6⟩ := hb
 refine Con.of (n := 29) _ rfl Tryz.func112 rfl rfl rfl fun g hg R hR => ?_
 have hx := hx.mono hg
 have hy := hy.mono hg
 have yk3 := yk3.mono hg
 have yk5 := yk5.mono hg
 have yk6 := yk6.mono hg
 replace q3 := q3.mono hg
 replace q5 := q5.mono hg
 replace q6 := q6.mono hg
 refine S.seq <| S.region rfl <| O.opE (.p rfl) (.box (cs := [_, _, _, _, _, _, _]) rfl rfl) ?_
 rintro _ _ ⟨b2, rfl, rfl⟩
 refine O.opE (.p rfl) (.box (cs := [_, _, _, _, _, _, _]) rfl rfl) ?_
 rintro _ _ ⟨b3, rfl, rfl⟩
 refine O.q 1 rfl <| O.nil <| S.seq <| S.region rfl <| O.op (.p rfl) (.loA (news := [_, _, _, _, _, _, _]) Tryz.isAgg74) ?_
 refine O.op (.p rfl) (.loA (news := [_, _, _, _, _, _, _]) Tryz.isAgg74) ?_
 refine O.call0 (.p rfl) rfl F.ok49 rfl rfl ((sameRecord_c hx hy)) ?_
 rintro v7 _ ⟨rfl, rfl⟩
 try simp only [zx1, zx2, zx3]
 refine O.sT 7 rfl (by simp) ?_
 refine O.q 1 rfl <| O.op (.g rfl rfl) (.fieldObj F.fld74x3 rfl) <| O.op (.g rfl rfl) (.lo F.flat72) ?_
 refine O.op (.g rfl rfl) (.fieldObj F.fld74x3 rfl) <| O.op (.g rfl rfl) (.lo F.flat72) ?_
 refine O.call0 (.g rfl rfl) rfl F.ok218 rfl rfl ((keptDots_c q3 yk3 (by omega))) ?_
 rintro v13 _ ⟨rfl, rfl⟩
 try simp only [zx1, zx2, zx3]
 refine O.q 2 rfl <| O.op (.g rfl rfl) (.fieldObj F.fld74x5 rfl) <| O.op (.g rfl rfl) (.lo F.flat31) ?_
 refine O.op (.g rfl rfl) (.fieldObj F.fld74x5 rfl) <| O.op (.g rfl rfl) (.lo F.flat31) ?_
 refine O.call0 (.g rfl rfl) rfl F.ok27 rfl rfl ((keptBytes_l q5 yk5 (by omega))) ?_
 rintro v20 _ ⟨rfl, rfl⟩
 try simp only [zx1, zx2, zx3]
 refine O.q 2 rfl <| O.op (.g rfl rfl) (.fieldObj F.fld74x6 rfl) <| O.op (.g rfl rfl) (.lo F.flat31) ?_
 refine O.op (.g rfl rfl) (.fieldObj F.fld74x6 rfl) <| O.op (.g rfl rfl) (.lo F.flat31) ?_
 refine O.call0 (.g rfl rfl) rfl F.ok27 rfl rfl ((keptBytes_l q6 yk6 (by omega))) ?_
 rintro v27 _ ⟨rfl, rfl⟩
 try simp only [zx1, zx2, zx3]
 refine O.q 2 rfl <| O.nil ?_
 exact S.rt Tryz.results112 rfl hR ⟨rfl, rfl⟩
theorem lentRecords_c {r : Fr} {va : Value} {es : List RecT} (ha : Arr RecRp r va es) (hq : ∀ x ∈ es, RecOk 100000000000 x) (hl : es.length ≤ 100000000000) :
  Con Tryz.prog 37 #[va] r [] (Ret fun v η => ∃ a c, v = .slice a es.length c ∧ η = [LentL (RecL tys) tys.recd (markRec 1) (.slice a es.length c) es]) := by
 have har := ha
 refine Con.of (n := 39) _ rfl Tryz.func37 rfl rfl rfl fun g hg R hR => ?_
 have ha := ha.mono hg
 obtain ⟨a1, c1, rfl⟩ := ha.shape
 refine S.seq <| S.region rfl <| O.q 1 rfl <| O.nil <| S.seq <| S.region rfl <| O.q 1 rfl <| O.op (.p rfl) (.len rfl Tryz.underlying47 rfl) <| O.op (.p rfl) (.add rfl rfl (IntWalk.i64_in _ (by omega))) <| O.opE (.p rfl) (.makeP0 (T := Rp.cells 7) (c := es.length + 12) Tryz.underlying47 F.elem74 rfl rfl rfl rfl (by omega) (by omega)) ?_
 rintro v10 _ ⟨a10, c10, rfl, rfl⟩
 refine O.q 1 rfl <| O.nil <| S.seq <| S.seq <| S.region rfl <| O.q 1 rfl <| O.nil <| S.block <| S.each0 (RecL tys).own ?_
 refine S.loopK4 (ι := Nat) (κ := Option Addr) (υ := Nat) (τ := List (List Value)) (fun i a c css => i ≤ es.length ∧ css.length = i) (fun i a c css => [(4, .int .i64 (i : Int)), (3, .slice a i c)]) [(0, _)] (fun i a c css => [EachP (RecL tys).own css (es.take i), OwnP (Rp.cells 7) 74 (.slice a i c) css]) (fun i a c css => es.length - i) (0) (a10) (c10) ([]) (by exact ⟨by simp, rfl⟩) (.cons rfl (.cons rfl (.nil))) (.cons rfl (.nil)) rfl fun i a c css hx ih => ?_
 have hm1 := meltRefl (g := g)
 obtain ⟨hx1, hvs⟩ := hx
 refine S.seq <| S.seq <| S.region rfl <| O.q 2 rfl <| O.op (.p rfl) (.len rfl Tryz.underlying47 rfl) <| O.op (.p rfl) (.lss rfl rfl) <| O.nil ?_
 first | refine S.condD rfl (fun h14 => ?_) (fun h14 => ?_) | refine S.condB rfl (fun h14 => ?_) (fun h14 => ?_)
 ·have hi : i < es.length := by omega
  have hrow := hq es[i] (List.getElem_mem hi)
  refine S.skip <| S.seq <| S.block <| S.seq <| S.region rfl <| O.q 2 rfl <| O.ib (.p rfl) Tryz.underlying47 F.size74 rfl rfl rfl har hg (h := fun p19 cs19 hp19 hrr19 => ?_)
  have hr19 := Rp.rel.mono hrr19 hg
  obtain ⟨ra3_19, ra5_19, ra6_19, rc3_19, rc5_19, rc6_19, rfl, ho0_19, ho1_19, ho2_19, ha3_19, ha5_19, ha6_19⟩ := RecRp.sh hr19
  refine O.op (.p rfl) (.loadAgg Tryz.isAgg74 (by kernel_rfl) rfl hp19) ?_
  refine O.call0 (.p rfl) rfl F.ok100 rfl rfl ((lentRecord_c hr19 hrow)) ?_
  rintro v21 _ ⟨a3_21, c3_21, a5_21, c5_21, a6_21, c6_21, rfl, rfl⟩
  try simp only [zx1, zx2, zx3]
  refine O.opE (.p rfl) (.alloc (cs := [.string ⟨#[]⟩, .int .i64 0, .int .i64 0, .slice none 0 0, .bool false, .slice none 0 0, .slice none 0 0]) Tryz.zeroValue74 rfl) ?_
  rintro _ _ ⟨b5, rfl, rfl⟩
  refine O.opU rfl (.storeObj (by kernel_rfl) rfl rfl rfl rfl (by repeat (first | exact zh | apply zt)) (by first | (simp; done) | (simp [Value.cells]; done))) ?_
  refine O.nil <| S.region rfl <| O.q 1 rfl <| O.op (.p rfl) (.loA (news := [_, _, _, _, _, _, _]) Tryz.isAgg74) ?_
  refine O.opE (.p rfl) (.litP (T := (Rp.cells 7)) (ys := [_]) Tryz.underlying47 F.elem74 (by decide) rfl rfl ⟨⟨rfl, rfl, by first | (simp; done) | (intro v hv; simp [Value.cells] at hv; rcases hv with rfl | rfl <;> rfl) | (refine List.forall_mem_cons.2 ⟨rfl, ?_⟩; repeat (first | exact (fun _ h => absurd h List.not_mem_nil) | refine List.forall_mem_cons.2 ⟨rfl, ?_⟩))⟩, trivial⟩ (by decide)) ?_
  rintro _ _ ⟨a24, c24, rfl, rfl⟩
  refine O.opE (.p rfl) (.appendO (T := (Rp.cells 7)) Tryz.underlying47 F.elem74 (by decide) rfl rfl (by repeat (first | exact zh | apply zt)) (by repeat (first | exact zh | apply zt)) (by first | omega | (simp; done) | (simp; omega) | decide) (by first | omega | (simp; done) | (simp; omega) | decide)) ?_
  rintro _ _ ⟨a25, c25, rfl, rfl⟩
  refine O.q 1 rfl <| O.nil <| S.inBlock <| S.region rfl <| O.q 1 rfl <| O.op (.p rfl) (.add rfl rfl (IntWalk.i64_in _ (by omega))) <| O.q 1 rfl <| O.nil ?_
  have hcs : (Value.agg #[.string (str es[i].1), .int .i64 es[i].2.1, .int .i64 es[i].2.2.1, .slice a3_21 es[i].2.2.2.1.length c3_21, .bool es[i].2.2.2.2.1, .slice a5_21 es[i].2.2.2.2.2.1.length c5_21, .slice a6_21 es[i].2.2.2.2.2.2.1.length c6_21]).cells.toList = [.string (str es[i].1), .int .i64 es[i].2.1, .int .i64 es[i].2.2.1, .slice a3_21 es[i].2.2.2.1.length c3_21, .bool es[i].2.2.2.2.1, .slice a5_21 es[i].2.2.2.2.2.1.length c5_21, .slice a6_21 es[i].2.2.2.2.2.2.1.length c6_21] := by simp [Value.cells]
  simp only [hcs]
  refine S.each (A := (RecL tys).own) (bs := css) (b := [.string (str es[i].1), .int .i64 es[i].2.1, .int .i64 es[i].2.2.1, .slice a3_21 es[i].2.2.2.1.length c3_21, .bool es[i].2.2.2.2.1, .slice a5_21 es[i].2.2.2.2.2.1.length c5_21, .slice a6_21 es[i].2.2.2.2.2.2.1.length c6_21]) (a := es[i]) (by repeat (first | exact zh | apply zt)) (by repeat (first | exact zh | apply zt)) ?_
  rw [← List.take_succ_eq_append_getElem hi, hvs]
  exact S.pw (ih (i + 1) (a25) (c25) (css ++ [[.string (str es[i].1), .int .i64 es[i].2.1, .int .i64 es[i].2.2.1, .slice a3_21 es[i].2.2.2.1.length c3_21, .bool es[i].2.2.2.2.1, .slice a5_21 es[i].2.2.2.2.2.1.length c5_21, .slice a6_21 es[i].2.2.2.2.2.2.1.length c6_21]]) (by exact ⟨by omega, by simp; omega⟩) (by omega))
 ·have hi : i = es.length := by omega
  subst hi
  rw [List.take_length]
  refine S.exit rfl <| S.seq <| S.seq <| S.region rfl <| O.q 1 rfl <| O.nil <| S.block <| S.conv (B := OwnP (Rp.cells 7) 74 (.slice a es.length c) css) (C := OwnP (Rp.cells 7) 74 (.slice a es.length c) (css ++ [])) (by repeat (first | exact zh | apply zt)) (fun m x => ⟨m, Fr.sub_refl _, by rw [List.append_nil]; exact x⟩) ?_
  refine S.loopK4 (ι := Nat) (κ := Option Addr) (υ := Nat) (τ := List (List Value)) (fun i a c dss => i ≤ 12 ∧ All2 (RecRp.rel Fr.emp) dss (mks (markRec 1) i)) (fun i a c dss => [(6, .int .i64 (i : Int)), (3, .slice a (es.length + i) c)]) [(0, _)] (fun i a c dss => [OwnP (Rp.cells 7) 74 (.slice a (es.length + i) c) (css ++ dss), EachP (RecL tys).own css es]) (fun i a c dss => 12 - i) (0) (a) (c) ([]) (by exact ⟨by simp, trivial⟩) (.cons rfl (.cons rfl (.nil))) (.cons rfl (.nil)) rfl fun i a c dss hx ih => ?_
  have hm2 := meltRefl (g := g)
  obtain ⟨hx1, hus⟩ := hx
  have hul := hus.len2
  rw [mks_length] at hul
  refine S.seq <| S.seq <| S.region rfl <| O.q 1 rfl <| O.op (.p rfl) (.lss rfl rfl) <| O.nil ?_
  first | refine S.condD rfl (fun h27 => ?_) (fun h27 => ?_) | refine S.condB rfl (fun h27 => ?_) (fun h27 => ?_)
  ·refine S.skip <| S.seq <| S.block <| S.region rfl <| O.q 2 rfl <| O.call0 (.p rfl) rfl F.ok101 rfl rfl (markRecord_c _ _ (by constructor <;> omega) (by constructor <;> omega)) ?_
   rintro v32 _ ⟨rfl, rfl⟩
   try simp only [zx1, zx2, zx3]
   refine O.opE (.p rfl) (.litP (T := (Rp.cells 7)) (ys := [_]) Tryz.underlying47 F.elem74 (by decide) rfl rfl ⟨⟨rfl, rfl, by first | (simp; done) | (intro v hv; simp [Value.cells] at hv; rcases hv with rfl | rfl <;> rfl) | (refine List.forall_mem_cons.2 ⟨rfl, ?_⟩; repeat (first | exact (fun _ h => absurd h List.not_mem_nil) | refine List.forall_mem_cons.2 ⟨rfl, ?_⟩))⟩, trivial⟩ (by decide)) ?_
   rintro _ _ ⟨a33, c33, rfl, rfl⟩
   refine O.opE (.p rfl) (.appendO (T := (Rp.cells 7)) Tryz.underlying47 F.elem74 (by decide) rfl rfl (by repeat (first | exact zh | apply zt)) (by repeat (first | exact zh | apply zt)) (by first | omega | (simp; done) | (simp; omega) | decide) (by first | omega | (simp; done) | (simp; omega) | decide)) ?_
   rintro _ _ ⟨a34, c34, rfl, rfl⟩
   refine O.q 1 rfl <| O.nil <| S.inBlock <| S.region rfl <| O.q 1 rfl <| O.op (.p rfl) (.add rfl rfl (IntWalk.i64_in _ (by omega))) <| O.q 1 rfl <| O.nil ?_
   have hcs : (Value.agg #[.string (str []), .int .i64 0, .int .i64 (markZ 1 (i : Int)), .slice none 0 0, .bool false, .slice none 0 0, .slice none 0 0]).cells.toList = [.string (str []), .int .i64 0, .int .i64 (markZ 1 (i : Int)), .slice none 0 0, .bool false, .slice none 0 0, .slice none 0 0] := by simp [Value.cells]
   simp only [hcs]
   rw [List.append_assoc]
   simp only [List.length_append, hvs, hul]
   exact S.pw (ih (i + 1) (a34) (c34) ((dss ++ [[.string (str []), .int .i64 0, .int .i64 (markZ 1 (i : Int)), .slice none 0 0, .bool false, .slice none 0 0, .slice none 0 0]])) (by exact ⟨by omega, by rw [← mks_succ]; exact All2.append hus ⟨markRecord_rel (by constructor <;> omega) (by constructor <;> omega), trivial⟩⟩) (by omega))
  ·have hi : i = 12 := by omega
   subst hi
   refine S.factS (by repeat (first | exact zh | apply zt)) (fun _ x => OwnP.room (T := Rp.cells 7) (e := 74) (xs := css ++ dss) (a := a) (c := c) (m := es.length + 12) x) fun hroom => ?_
   refine S.exit rfl <| S.seq <| S.region rfl <| O.q 2 rfl <| O.op (.p rfl) (.len rfl Tryz.underlying47 rfl) <| O.slice0 (q := es.length) (Rp.cells 7) (.p rfl) Tryz.underlying47 F.size74 rfl rfl rfl (by omega) ?_
   refine O.q 1 rfl <| O.nil <| S.pk (ζ := [OwnP (Rp.cells 7) 74 (.slice a (es.length + 12) c) (css ++ dss), EachP (RecL tys).own css es]) (by repeat (first | exact zpa | exact zpn | (apply zpc; focus (repeat (first | exact zh | apply zt))) | apply zps)) ?_
   refine S.fold (A := LentL (RecL tys) tys.recd (markRec 1) (.slice a es.length c) es) (bs := [OwnP (Rp.cells 7) 74 (.slice a (es.length + 12) c) (css ++ dss), EachP (RecL tys).own css es]) (fun m x => LentL.fold (L := RecL tys) hroom.2 hvs hus x) ?_
   exact S.rt Tryz.results37 rfl hR ⟨a, c, rfl, rfl⟩
theorem keptRecords_c {r : Fr} {va vl : Value} {es : List RecT} (hz : LentLA (RecL tys) (markRec 1) r va es) (hl : Arr RecRp r vl es) (hq : ∀ x ∈ es, RecOk 100000000000 x) (hb : es.length ≤ 100000000000) :
  Con Tryz.prog 41 #[va, vl] r [] (Ret fun v η => v = .bool true ∧ η = []) := by
 obtain ⟨a, c, css, dss, rfl, hrm, hin, hv, hu⟩ := hz
 have hlr := hl
 refine Con.of (n := 58) _ rfl Tryz.func41 rfl rfl rfl fun g hg R hR => ?_
 have hin := hin.mono hg
 have hl := hl.mono hg
 replace hv := hv.imp fun _ _ => (RecL tys).mono hg
 replace hu := hu.imp fun _ _ => RecRp.mono hg
 have hvl := hv.len2
 have hul := hu.len2
 rw [mks_length] at hul
 obtain ⟨a1, c1, rfl⟩ := hl.shape
 have hal : (css ++ dss).length = es.length + 12 := by simp; omega
 refine S.seq <| S.region rfl <| O.q 1 rfl <| O.nil <| S.seq <| S.seq <| S.region rfl <| O.q 1 rfl <| O.op (.p rfl) (.len rfl Tryz.underlying47 rfl) <| O.q 1 rfl <| O.op (.p rfl) (.len rfl Tryz.underlying47 rfl) <| O.op (.p rfl) (.neq rfl rfl) <| O.nil ?_
 first | refine S.condD rfl (fun h11 => ?_) (fun h11 => ?_) | refine S.condB rfl (fun h11 => ?_) (fun h11 => ?_)
 ·exact absurd rfl (by assumption)
 ·refine S.skip <| S.seq <| S.region rfl <| O.q 2 rfl <| O.op (.p rfl) (.len rfl Tryz.underlying47 rfl) <| O.op (.p rfl) (.add rfl rfl (IntWalk.i64_in _ (by omega))) <| O.slice0 (q := es.length + 12) (Rp.cells 7) (.p rfl) Tryz.underlying47 F.size74 rfl rfl rfl (by omega) ?_
  refine O.q 1 rfl <| O.nil <| S.seq <| S.seq <| S.region rfl <| O.q 1 rfl <| O.nil <| S.block <| S.loopK (ι := Nat) (fun i => i ≤ es.length + 12) (fun i => [(6, .int .i64 (i : Int))]) [(1, _), (5, _)] (fun i => []) (fun i => es.length + 12 - i) (0) (by simp) (.cons rfl (.nil)) (.cons rfl (.cons rfl (.nil))) rfl fun i hx ih => ?_
  have hm1 := meltRefl (g := g)
  refine S.seq <| S.seq <| S.region rfl <| O.q 2 rfl <| O.op (.p rfl) (.len rfl Tryz.underlying47 rfl) <| O.op (.p rfl) (.lss rfl rfl) <| O.nil ?_
  first | refine S.condD rfl (fun h20 => ?_) (fun h20 => ?_) | refine S.condB rfl (fun h20 => ?_) (fun h20 => ?_)
  ·have hi : i < (css ++ dss).length := by omega
   refine S.skip <| S.seq <| S.block <| S.seq <| S.regionD (L := [0, 1, 2, 3, 4, 5, 6, 7, 8, 9, 10, 11, 12, 13, 14, 15, 16, 17, 18, 19, 20, 21, 22, 23, 24, 25, 26, 27, 28, 29, 30, 31, 32, 33, 34]) F.mixed (by kernel_rfl) <| OD.q 2 rfl <| .quiet (.p rfl) rfl (fun _ => .len rfl Tryz.underlying47 rfl) <| .quiet (.p rfl) rfl (fun _ => .lss rfl rfl) <| OD.q 1 rfl ?_
   first | refine OD.caseD 27 rfl (fun h27 => ?_) (fun h27 => ?_) | refine OD.caseB 27 rfl (fun h27 => ?_) (fun h27 => ?_)
   ·have hi2 : i < es.length := by omega
    have hget : (css ++ dss)[i] = css[i] := List.getElem_append_left (by omega)
    have hA := hv.at2 i (by omega) hi2
    have hA2 := (RecL tys).rel hA
    have hrow := hq es[i] (List.getElem_mem hi2)
    refine OD.q 2 rfl <| OD.ia (.g rfl rfl) Tryz.underlying47 F.size74 rfl rfl rfl (hin) (h := fun p30 cs30 hp30 hr30 => ?_)
    obtain ⟨rfl, _, _⟩ := hr30
    rw [hget] at hp30
    generalize css[i] = cz at hp30 hA hA2
    obtain ⟨za3_30, za5_30, za6_30, zc3_30, zc5_30, zc6_30, rfl, zk0_30, zk1_30, zk2_30, zk3_30, zk5_30, zk6_30⟩ := RecRp.sh hA2
    refine .quiet (.g rfl rfl) rfl (fun _ => .loadAgg Tryz.isAgg74 (by kernel_rfl) rfl hp30) ?_
    refine OD.q 2 rfl <| OD.ib (.g rfl rfl) Tryz.underlying47 F.size74 rfl rfl rfl hlr hg (h := fun p34 cs34 hp34 hrr34 => ?_)
    have hr34 := Rp.rel.mono hrr34 hg
    obtain ⟨ra3_34, ra5_34, ra6_34, rc3_34, rc5_34, rc6_34, rfl, ho0_34, ho1_34, ho2_34, ha3_34, ha5_34, ha6_34⟩ := RecRp.sh hr34
    refine .quiet (.g rfl rfl) rfl (fun _ => .loadAgg Tryz.isAgg74 (by kernel_rfl) rfl hp34) ?_
    refine OD.call0 (.g rfl rfl) (by kernel_rfl) rfl F.ok112 rfl rfl ((keptRecord_c hA hr34 hrow)) ?_
    rintro v36 _ ⟨rfl, rfl⟩
    try simp only [zx1, zx2, zx3]
    refine .quiet (.g rfl rfl) rfl (fun _ => .not rfl) <| OD.q 4 rfl <| .quiet (.g rfl rfl) rfl (fun _ => .len rfl Tryz.underlying47 rfl) <| .quiet (.g rfl rfl) rfl (fun _ => .geq rfl rfl) <| OD.sF 43 rfl (by simp; omega) ?_
    refine OD.q 14 rfl <| ODx.nil <| S.condF rfl <| S.skip <| S.inBlock <| S.region rfl <| O.q 1 rfl <| O.op (.p rfl) (.add rfl rfl (IntWalk.i64_in _ (by omega))) <| O.q 1 rfl <| O.nil ?_
    exact S.wk (ih (i + 1) (by omega) (by omega))
   ·have hi2 : es.length ≤ i := by omega
    have hid : i - css.length < dss.length := by omega
    have hget : (css ++ dss)[i] = dss[i - css.length] := List.getElem_append_right (by omega)
    have hA2 := hu.at2 (i - css.length) hid (by simp; omega)
    rw [mks_get] at hA2
    have hmk : Mk ((i : Int) - (es.length : Int)) := by constructor <;> omega
    have hci : ((i - css.length : Nat) : Int) = (i : Int) - (es.length : Int) := by omega
    rw [hci] at hA2
    refine OD.q 14 rfl <| .quiet (.g rfl rfl) rfl (fun _ => .len rfl Tryz.underlying47 rfl) <| .quiet (.g rfl rfl) rfl (fun _ => .geq rfl rfl) <| OD.sT 43 rfl (by simp; omega) ?_
    refine OD.q 3 rfl <| OD.ia (.g rfl rfl) Tryz.underlying47 F.size74 rfl rfl rfl (hin) (h := fun p47 cs47 hp47 hr47 => ?_)
    obtain ⟨rfl, _, _⟩ := hr47
    rw [hget] at hp47
    generalize dss[i - css.length] = cz at hp47 hA2
    obtain ⟨za3_47, za5_47, za6_47, zc3_47, zc5_47, zc6_47, rfl, zk0_47, zk1_47, zk2_47, zk3_47, zk5_47, zk6_47⟩ := RecRp.sh hA2
    refine .quiet (.g rfl rfl) rfl (fun _ => .loadAgg Tryz.isAgg74 (by kernel_rfl) rfl hp47) ?_
    refine OD.q 2 rfl <| .quiet (.g rfl rfl) rfl (fun _ => .len rfl Tryz.underlying47 rfl) <| .quiet (.g rfl rfl) rfl (fun _ => .sub rfl rfl (IntWalk.i64_in _ (by omega))) <| OD.call0 (.g rfl rfl) (by kernel_rfl) rfl F.ok101 rfl rfl ((markRecord_c _ _ (by constructor <;> omega) hmk)) ?_
    rintro v53 _ ⟨rfl, rfl⟩
    try simp only [zx1, zx2, zx3]
    refine OD.call0 (.g rfl rfl) (by kernel_rfl) rfl F.ok49 rfl rfl ((sameRecord_c hA2 (markRecord_rel (by constructor <;> omega) hmk))) ?_
    rintro v54 _ ⟨rfl, rfl⟩
    try simp only [zx1, zx2, zx3]
    refine OD.sT 54 rfl (by simp) ?_
    refine .quiet (.g rfl rfl) rfl (fun _ => .not rfl) <| OD.q 2 rfl <| ODx.nil <| S.condF rfl <| S.skip <| S.inBlock <| S.region rfl <| O.q 1 rfl <| O.op (.p rfl) (.add rfl rfl (IntWalk.i64_in _ (by omega))) <| O.q 1 rfl <| O.nil ?_
    exact S.wk (ih (i + 1) (by omega) (by omega))
  ·refine S.exit rfl <| S.seq <| S.region rfl <| O.q 1 rfl <| O.nil ?_
   exact S.rt Tryz.results41 rfl hR ⟨rfl, rfl⟩
theorem markLeaf_c {r : Fr} (k i : Int) (hk : Mk k) (hi : Mk i) : Con Tryz.prog 138 #[.int .i64 k, .int .i64 i] r [] (Ret fun v η => v = .agg #[.string (str (markT k i)), .slice none 0 0] ∧ η = []) := by
 refine Con.of (n := 9) _ rfl Tryz.func138 rfl rfl rfl fun g hg R hR => ?_
 refine S.seq <| S.region rfl <| O.opE (.p rfl) (.alloc (cs := [.string ⟨#[]⟩, .slice none 0 0]) Tryz.zeroValue49 rfl) ?_
 rintro _ _ ⟨b4, rfl, rfl⟩
 refine O.nil <| S.seq <| S.region rfl <| O.q 2 rfl <| O.call0 (.p rfl) rfl F.ok235 rfl rfl ((markText_c _ _)) ?_
 rintro v7 _ ⟨rfl, rfl⟩
 try simp only [zx1, zx2, zx3]
 refine O.op (.p rfl) (.build (cs := [_, _]) Tryz.underlying49 rfl rfl rfl rfl rfl) <| O.opU rfl (.storeObj (by kernel_rfl) rfl rfl rfl rfl (by repeat (first | exact zh | apply zt)) (by first | (simp; done) | (simp [Value.cells]; done))) ?_
 refine O.nil <| S.retCellAgg Tryz.results138 Tryz.isAgg49 (by kernel_rfl) rfl (by repeat (first | exact zh | apply zt)) fun w hw => Holds.end_ hR hw ?_
 exact pk ⟨rfl, rfl⟩
theorem markLeaf_rel {h : Fr} {k i : Int} (hk : Mk k) (hi : Mk i) : LeafRp.rel h [.string (str (markT k i)), .slice none 0 0] (markLeaf k i) := LeafRp.mk (by simp) Arr.nil
theorem lentLeaf_c {r : Fr} {cs : List Value} {x : LeafT} (h : LeafRp.rel r cs x) (hb : LeafOk 100000000000 x) :
  Con Tryz.prog 137 #[.agg cs.toArray] r [] (Ret fun v η => ∃ a1 c1, v = .agg #[.string (str x.1), .slice a1 x.2.1.length c1] ∧ η = [(LeafL tys).own [.string (str x.1), .slice a1 x.2.1.length c1] x]) := by
 obtain ⟨xa1, xc1, rfl, k0, k1⟩ := LeafRp.sh h
 obtain ⟨ob0, ob1⟩ := hb
 refine Con.of (n := 8) _ rfl Tryz.func137 rfl rfl rfl fun g hg R hR => ?_
 have k1 := k1.mono hg
 refine S.seq <| S.region rfl <| O.opE (.p rfl) (.box (cs := [_, _]) rfl rfl) ?_
 rintro _ _ ⟨b1, rfl, rfl⟩
 refine O.opE (.p rfl) (.alloc (cs := [.string ⟨#[]⟩, .slice none 0 0]) Tryz.zeroValue49 rfl) ?_
 rintro _ _ ⟨b2, rfl, rfl⟩
 refine O.nil <| S.seq <| S.region rfl <| O.op (.p rfl) (.fieldObj F.fld49x1 rfl) <| O.op (.p rfl) (.lo F.flat47) ?_
 refine O.call0 (.p rfl) rfl F.ok37 rfl rfl ((lentRecords_c k1 ob1.2 ob1.1)) ?_
 rintro v5 _ ⟨a1, c1, rfl, rfl⟩
 try simp only [zx1, zx2, zx3]
 refine O.op (.p rfl) (.fieldObj F.fld49x1 rfl) <| O.opU rfl (.store1 F.flat47 rfl rfl (by first | rfl | assumption) (by repeat (first | exact zh | apply zt)) (by first | (simp; done) | (simp [Value.cells]; done))) ?_
 refine O.nil <| S.seq <| S.region rfl <| O.op (.p rfl) (.loA (news := [_, _]) Tryz.isAgg49) ?_
 refine O.opU rfl (.storeObj (by kernel_rfl) rfl rfl rfl rfl (by repeat (first | exact zh | apply zt)) (by first | (simp; done) | (simp [Value.cells]; done))) ?_
 refine O.nil <| S.foldS (A := (LeafL tys).own [.string (str x.1), .slice a1 x.2.1.length c1] x) (bs := [LentL (RecL tys) tys.recd (markRec 1) (.slice a1 x.2.1.length c1) x.2.1]) (by repeat (first | exact zsn | (apply zsc; focus (repeat (first | exact zh | apply zt))))) (fun m y => LeafL.mk k0 y) ?_
 refine S.retCellAgg Tryz.results137 Tryz.isAgg49 (by kernel_rfl) rfl (by repeat (first | exact zh | apply zt)) fun w hw => Holds.end_ hR hw ?_
 exact pk ⟨a1, c1, rfl, rfl⟩
theorem keptLeaf_c {r : Fr} {cs ds : List Value} {x : LeafT} (h : (LeafL tys).rd r cs x) (hy : LeafRp.rel r ds x) (hb : LeafOk 100000000000 x) :
  Con Tryz.prog 157 #[.agg cs.toArray, .agg ds.toArray] r [] (Ret fun v η => v = .bool true ∧ η = []) := by
 have hx := (LeafL tys).rel h
 obtain ⟨v1, rfl, k0, q1⟩ := LeafL.opn h
 obtain ⟨ya1, yc1, rfl, yk0, yk1⟩ := LeafRp.sh hy
 obtain ⟨ob0, ob1⟩ := hb
 refine Con.of (n := 15) _ rfl Tryz.func157 rfl rfl rfl fun g hg R hR => ?_
 have hx := hx.mono hg
 have hy := hy.mono hg
 have yk1 := yk1.mono hg
 replace q1 := q1.mono hg
 refine S.seq <| S.region rfl <| O.opE (.p rfl) (.box (cs := [_, _]) rfl rfl) ?_
 rintro _ _ ⟨b2, rfl, rfl⟩
 refine O.opE (.p rfl) (.box (cs := [_, _]) rfl rfl) ?_
 rintro _ _ ⟨b3, rfl, rfl⟩
 refine O.q 1 rfl <| O.nil <| S.seq <| S.region rfl <| O.op (.p rfl) (.loA (news := [_, _]) Tryz.isAgg49) ?_
 refine O.op (.p rfl) (.loA (news := [_, _]) Tryz.isAgg49) ?_
 refine O.call0 (.p rfl) rfl F.ok158 rfl rfl ((sameLeaf_c hx hy)) ?_
 rintro v7 _ ⟨rfl, rfl⟩
 try simp only [zx1, zx2, zx3]
 refine O.sT 7 rfl (by simp) ?_
 refine O.q 1 rfl <| O.op (.g rfl rfl) (.fieldObj F.fld49x1 rfl) <| O.op (.g rfl rfl) (.lo F.flat47) ?_
 refine O.op (.g rfl rfl) (.fieldObj F.fld49x1 rfl) <| O.op (.g rfl rfl) (.lo F.flat47) ?_
 refine O.call0 (.g rfl rfl) rfl F.ok41 rfl rfl ((keptRecords_c q1 yk1 ob1.2 ob1.1)) ?_
 rintro v13 _ ⟨rfl, rfl⟩
 try simp only [zx1, zx2, zx3]
 refine O.q 2 rfl <| O.nil ?_
 exact S.rt Tryz.results157 rfl hR ⟨rfl, rfl⟩
theorem lentLeaves_c {r : Fr} {va : Value} {es : List LeafT} (ha : Arr LeafRp r va es) (hq : ∀ x ∈ es, LeafOk 100000000000 x) (hl : es.length ≤ 100000000000) :
  Con Tryz.prog 56 #[va] r [] (Ret fun v η => ∃ a c, v = .slice a es.length c ∧ η = [LentL (LeafL tys) tys.leaf (markLeaf 1) (.slice a es.length c) es]) := by
 have har := ha
 refine Con.of (n := 39) _ rfl Tryz.func56 rfl rfl rfl fun g hg R hR => ?_
 have ha := ha.mono hg
 obtain ⟨a1, c1, rfl⟩ := ha.shape
 refine S.seq <| S.region rfl <| O.q 1 rfl <| O.nil <| S.seq <| S.region rfl <| O.q 1 rfl <| O.op (.p rfl) (.len rfl Tryz.underlying22 rfl) <| O.op (.p rfl) (.add rfl rfl (IntWalk.i64_in _ (by omega))) <| O.opE (.p rfl) (.makeP0 (T := Rp.cells 2) (c := es.length + 12) Tryz.underlying22 F.elem49 rfl rfl rfl rfl (by omega) (by omega)) ?_
 rintro v10 _ ⟨a10, c10, rfl, rfl⟩
 refine O.q 1 rfl <| O.nil <| S.seq <| S.seq <| S.region rfl <| O.q 1 rfl <| O.nil <| S.block <| S.each0 (LeafL tys).own ?_
 refine S.loopK4 (ι := Nat) (κ := Option Addr) (υ := Nat) (τ := List (List Value)) (fun i a c css => i ≤ es.length ∧ css.length = i) (fun i a c css => [(4, .int .i64 (i : Int)), (3, .slice a i c)]) [(0, _)] (fun i a c css => [EachP (LeafL tys).own css (es.take i), OwnP (Rp.cells 2) 49 (.slice a i c) css]) (fun i a c css => es.length - i) (0) (a10) (c10) ([]) (by exact ⟨by simp, rfl⟩) (.cons rfl (.cons rfl (.nil))) (.cons rfl (.nil)) rfl fun i a c css hx ih => ?_
 have hm1 := meltRefl (g := g)
 obtain ⟨hx1, hvs⟩ := hx
 refine S.seq <| S.seq <| S.region rfl <| O.q 2 rfl <| O.op (.p rfl) (.len rfl Tryz.underlying22 rfl) <| O.op (.p rfl) (.lss rfl rfl) <| O.nil ?_
 first | refine S.condD rfl (fun h14 => ?_) (fun h14 => ?_) | refine S.condB rfl (fun h14 => ?_) (fun h14 => ?_)
 ·have hi : i < es.length := by omega
  have hrow := hq es[i] (List.getElem_mem hi)
  refine S.skip <| S.seq <| S.block <| S.seq <| S.region rfl <| O.q 2 rfl <| O.ib (.p rfl) Tryz.underlying22 F.size49 rfl rfl rfl har hg (h := fun p19 cs19 hp19 hrr19 => ?_)
  have hr19 := Rp.rel.mono hrr19 hg
  obtain ⟨la1_19, lc1_19, rfl, ho0_19, ha1_19⟩ := LeafRp.sh hr19
  refine O.op (.p rfl) (.loadAgg Tryz.isAgg49 (by kernel_rfl) rfl hp19) ?_
  refine O.call0 (.p rfl) rfl F.ok137 rfl rfl ((lentLeaf_c hr19 hrow)) ?_
  rintro v21 _ ⟨a1_21, c1_21, rfl, rfl⟩
  try simp only [zx1, zx2, zx3]
  refine O.opE (.p rfl) (.alloc (cs := [.string ⟨#[]⟩, .slice none 0 0]) Tryz.zeroValue49 rfl) ?_
  rintro _ _ ⟨b5, rfl, rfl⟩
  refine O.opU rfl (.storeObj (by kernel_rfl) rfl rfl rfl rfl (by repeat (first | exact zh | apply zt)) (by first | (simp; done) | (simp [Value.cells]; done))) ?_
  refine O.nil <| S.region rfl <| O.q 1 rfl <| O.op (.p rfl) (.loA (news := [_, _]) Tryz.isAgg49) ?_
  refine O.opE (.p rfl) (.litP (T := (Rp.cells 2)) (ys := [_]) Tryz.underlying22 F.elem49 (by decide) rfl rfl ⟨⟨rfl, rfl, by first | (simp; done) | (intro v hv; simp [Value.cells] at hv; rcases hv with rfl | rfl <;> rfl) | (refine List.forall_mem_cons.2 ⟨rfl, ?_⟩; repeat (first | exact (fun _ h => absurd h List.not_mem_nil) | refine List.forall_mem_cons.2 ⟨rfl, ?_⟩))⟩, trivial⟩ (by decide)) ?_
  rintro _ _ ⟨a24, c24, rfl, rfl⟩
  refine O.opE (.p rfl) (.appendO (T := (Rp.cells 2)) Tryz.underlying22 F.elem49 (by decide) rfl rfl (by repeat (first | exact zh | apply zt)) (by repeat (first | exact zh | apply zt)) (by first | omega | (simp; done) | (simp; omega) | decide) (by first | omega | (simp; done) | (simp; omega) | decide)) ?_
  rintro _ _ ⟨a25, c25, rfl, rfl⟩
  refine O.q 1 rfl <| O.nil <| S.inBlock <| S.region rfl <| O.q 1 rfl <| O.op (.p rfl) (.add rfl rfl (IntWalk.i64_in _ (by omega))) <| O.q 1 rfl <| O.nil ?_
  have hcs : (Value.agg #[.string (str es[i].1), .slice a1_21 es[i].2.1.length c1_21]).cells.toList = [.string (str es[i].1), .slice a1_21 es[i].2.1.length c1_21] := by simp [Value.cells]
  simp only [hcs]
  refine S.each (A := (LeafL tys).own) (bs := css) (b := [.string (str es[i].1), .slice a1_21 es[i].2.1.length c1_21]) (a := es[i]) (by repeat (first | exact zh | apply zt)) (by repeat (first | exact zh | apply zt)) ?_
  rw [← List.take_succ_eq_append_getElem hi, hvs]
  exact S.pw (ih (i + 1) (a25) (c25) (css ++ [[.string (str es[i].1), .slice a1_21 es[i].2.1.length c1_21]]) (by exact ⟨by omega, by simp; omega⟩) (by omega))
 ·have hi : i = es.length := by omega
  subst hi
  rw [List.take_length]
  refine S.exit rfl <| S.seq <| S.seq <| S.region rfl <| O.q 1 rfl <| O.nil <| S.block <| S.conv (B := OwnP (Rp.cells 2) 49 (.slice a es.length c) css) (C := OwnP (Rp.cells 2) 49 (.slice a es.length c) (css ++ [])) (by repeat (first | exact zh | apply zt)) (fun m x => ⟨m, Fr.sub_refl _, by rw [List.append_nil]; exact x⟩) ?_
  refine S.loopK4 (ι := Nat) (κ := Option Addr) (υ := Nat) (τ := List (List Value)) (fun i a c dss => i ≤ 12 ∧ All2 (LeafRp.rel Fr.emp) dss (mks (markLeaf 1) i)) (fun i a c dss => [(6, .int .i64 (i : Int)), (3, .slice a (es.length + i) c)]) [(0, _)] (fun i a c dss => [OwnP (Rp.cells 2) 49 (.slice a (es.length + i) c) (css ++ dss), EachP (LeafL tys).own css es]) (fun i a c dss => 12 - i) (0) (a) (c) ([]) (by exact ⟨by simp, trivial⟩) (.cons rfl (.cons rfl (.nil))) (.cons rfl (.nil)) rfl fun i a c dss hx ih => ?_
  have hm2 := meltRefl (g := g)
  obtain ⟨hx1, hus⟩ := hx
  have hul := hus.len2
  rw [mks_length] at hul
  refine S.seq <| S.seq <| S.region rfl <| O.q 1 rfl <| O.op (.p rfl) (.lss rfl rfl) <| O.nil ?_
  first | refine S.condD rfl (fun h27 => ?_) (fun h27 => ?_) | refine S.condB rfl (fun h27 => ?_) (fun h27 => ?_)
  ·refine S.skip <| S.seq <| S.block <| S.region rfl <| O.q 2 rfl <| O.call0 (.p rfl) rfl F.ok138 rfl rfl (markLeaf_c _ _ (by constructor <;> omega) (by constructor <;> omega)) ?_
   rintro v32 _ ⟨rfl, rfl⟩
   try simp only [zx1, zx2, zx3]
   refine O.opE (.p rfl) (.litP (T := (Rp.cells 2)) (ys := [_]) Tryz.underlying22 F.elem49 (by decide) rfl rfl ⟨⟨rfl, rfl, by first | (simp; done) | (intro v hv; simp [Value.cells] at hv; rcases hv with rfl | rfl <;> rfl) | (refine List.forall_mem_cons.2 ⟨rfl, ?_⟩; repeat (first | exact (fun _ h => absurd h List.not_mem_nil) | refine List.forall_mem_cons.2 ⟨rfl, ?_⟩))⟩, trivial⟩ (by decide)) ?_
   rintro _ _ ⟨a33, c33, rfl, rfl⟩
   refine O.opE (.p rfl) (.appendO (T := (Rp.cells 2)) Tryz.underlying22 F.elem49 (by decide) rfl rfl (by repeat (first | exact zh | apply zt)) (by repeat (first | exact zh | apply zt)) (by first | omega | (simp; done) | (simp; omega) | decide) (by first | omega | (simp; done) | (simp; omega) | decide)) ?_
   rintro _ _ ⟨a34, c34, rfl, rfl⟩
   refine O.q 1 rfl <| O.nil <| S.inBlock <| S.region rfl <| O.q 1 rfl <| O.op (.p rfl) (.add rfl rfl (IntWalk.i64_in _ (by omega))) <| O.q 1 rfl <| O.nil ?_
   have hcs : (Value.agg #[.string (str (markT 1 (i : Int))), .slice none 0 0]).cells.toList = [.string (str (markT 1 (i : Int))), .slice none 0 0] := by simp [Value.cells]
   simp only [hcs]
   rw [List.append_assoc]
   simp only [List.length_append, hvs, hul]
   exact S.pw (ih (i + 1) (a34) (c34) ((dss ++ [[.string (str (markT 1 (i : Int))), .slice none 0 0]])) (by exact ⟨by omega, by rw [← mks_succ]; exact All2.append hus ⟨markLeaf_rel (by constructor <;> omega) (by constructor <;> omega), trivial⟩⟩) (by omega))
  ·have hi : i = 12 := by omega
   subst hi
   refine S.factS (by repeat (first | exact zh | apply zt)) (fun _ x => OwnP.room (T := Rp.cells 2) (e := 49) (xs := css ++ dss) (a := a) (c := c) (m := es.length + 12) x) fun hroom => ?_
   refine S.exit rfl <| S.seq <| S.region rfl <| O.q 2 rfl <| O.op (.p rfl) (.len rfl Tryz.underlying22 rfl) <| O.slice0 (q := es.length) (Rp.cells 2) (.p rfl) Tryz.underlying22 F.size49 rfl rfl rfl (by omega) ?_
   refine O.q 1 rfl <| O.nil <| S.pk (ζ := [OwnP (Rp.cells 2) 49 (.slice a (es.length + 12) c) (css ++ dss), EachP (LeafL tys).own css es]) (by repeat (first | exact zpa | exact zpn | (apply zpc; focus (repeat (first | exact zh | apply zt))) | apply zps)) ?_
   refine S.fold (A := LentL (LeafL tys) tys.leaf (markLeaf 1) (.slice a es.length c) es) (bs := [OwnP (Rp.cells 2) 49 (.slice a (es.length + 12) c) (css ++ dss), EachP (LeafL tys).own css es]) (fun m x => LentL.fold (L := LeafL tys) hroom.2 hvs hus x) ?_
   exact S.rt Tryz.results56 rfl hR ⟨a, c, rfl, rfl⟩
theorem keptLeaves_c {r : Fr} {va vl : Value} {es : List LeafT} (hz : LentLA (LeafL tys) (markLeaf 1) r va es) (hl : Arr LeafRp r vl es) (hq : ∀ x ∈ es, LeafOk 100000000000 x) (hb : es.length ≤ 100000000000) :
  Con Tryz.prog 72 #[va, vl] r [] (Ret fun v η => v = .bool true ∧ η = []) := by
 obtain ⟨a, c, css, dss, rfl, hrm, hin, hv, hu⟩ := hz
 have hlr := hl
 refine Con.of (n := 58) _ rfl Tryz.func72 rfl rfl rfl fun g hg R hR => ?_
 have hin := hin.mono hg
 have hl := hl.mono hg
 replace hv := hv.imp fun _ _ => (LeafL tys).mono hg
 replace hu := hu.imp fun _ _ => LeafRp.mono hg
 have hvl := hv.len2
 have hul := hu.len2
 rw [mks_length] at hul
 obtain ⟨a1, c1, rfl⟩ := hl.shape
 have hal : (css ++ dss).length = es.length + 12 := by simp; omega
 refine S.seq <| S.region rfl <| O.q 1 rfl <| O.nil <| S.seq <| S.seq <| S.region rfl <| O.q 1 rfl <| O.op (.p rfl) (.len rfl Tryz.underlying22 rfl) <| O.q 1 rfl <| O.op (.p rfl) (.len rfl Tryz.underlying22 rfl) <| O.op (.p rfl) (.neq rfl rfl) <| O.nil ?_
 first | refine S.condD rfl (fun h11 => ?_) (fun h11 => ?_) | refine S.condB rfl (fun h11 => ?_) (fun h11 => ?_)
 ·exact absurd rfl (by assumption)
 ·refine S.skip <| S.seq <| S.region rfl <| O.q 2 rfl <| O.op (.p rfl) (.len rfl Tryz.underlying22 rfl) <| O.op (.p rfl) (.add rfl rfl (IntWalk.i64_in _ (by omega))) <| O.slice0 (q := es.length + 12) (Rp.cells 2) (.p rfl) Tryz.underlying22 F.size49 rfl rfl rfl (by omega) ?_
  refine O.q 1 rfl <| O.nil <| S.seq <| S.seq <| S.region rfl <| O.q 1 rfl <| O.nil <| S.block <| S.loopK (ι := Nat) (fun i => i ≤ es.length + 12) (fun i => [(6, .int .i64 (i : Int))]) [(1, _), (5, _)] (fun i => []) (fun i => es.length + 12 - i) (0) (by simp) (.cons rfl (.nil)) (.cons rfl (.cons rfl (.nil))) rfl fun i hx ih => ?_
  have hm1 := meltRefl (g := g)
  refine S.seq <| S.seq <| S.region rfl <| O.q 2 rfl <| O.op (.p rfl) (.len rfl Tryz.underlying22 rfl) <| O.op (.p rfl) (.lss rfl rfl) <| O.nil ?_
  first | refine S.condD rfl (fun h20 => ?_) (fun h20 => ?_) | refine S.condB rfl (fun h20 => ?_) (fun h20 => ?_)
  ·have hi : i < (css ++ dss).length := by omega
   refine S.skip <| S.seq <| S.block <| S.seq <| S.regionD (L := [0, 1, 2, 3, 4, 5, 6, 7, 8, 9, 10, 11, 12, 13, 14, 15, 16, 17, 18, 19, 20, 21, 22, 23, 24, 25, 26, 27, 28, 29, 30, 31, 32, 33, 34]) F.mixed (by kernel_rfl) <| OD.q 2 rfl <| .quiet (.p rfl) rfl (fun _ => .len rfl Tryz.underlying22 rfl) <| .quiet (.p rfl) rfl (fun _ => .lss rfl rfl) <| OD.q 1 rfl ?_
   first | refine OD.caseD 27 rfl (fun h27 => ?_) (fun h27 => ?_) | refine OD.caseB 27 rfl (fun h27 => ?_) (fun h27 => ?_)
   ·have hi2 : i < es.length := by omega
    have hget : (css ++ dss)[i] = css[i] := List.getElem_append_left (by omega)
    have hA := hv.at2 i (by omega) hi2
    have hA2 := (LeafL tys).rel hA
    have hrow := hq es[i] (List.getElem_mem hi2)
    refine OD.q 2 rfl <| OD.ia (.g rfl rfl) Tryz.underlying22 F.size49 rfl rfl rfl (hin) (h := fun p30 cs30 hp30 hr30 => ?_)
    obtain ⟨rfl, _, _⟩ := hr30
    rw [hget] at hp30
    generalize css[i] = cz at hp30 hA hA2
    obtain ⟨za1_30, zc1_30, rfl, zk0_30, zk1_30⟩ := LeafRp.sh hA2
    refine .quiet (.g rfl rfl) rfl (fun _ => .loadAgg Tryz.isAgg49 (by kernel_rfl) rfl hp30) ?_
    refine OD.q 2 rfl <| OD.ib (.g rfl rfl) Tryz.underlying22 F.size49 rfl rfl rfl hlr hg (h := fun p34 cs34 hp34 hrr34 => ?_)
    have hr34 := Rp.rel.mono hrr34 hg
    obtain ⟨la1_34, lc1_34, rfl, ho0_34, ha1_34⟩ := LeafRp.sh hr34
    refine .quiet (.g rfl rfl) rfl (fun _ => .loadAgg Tryz.isAgg49 (by kernel_rfl) rfl hp34) ?_
    refine OD.call0 (.g rfl rfl) (by kernel_rfl) rfl F.ok157 rfl rfl ((keptLeaf_c hA hr34 hrow)) ?_
    rintro v36 _ ⟨rfl, rfl⟩
    try simp only [zx1, zx2, zx3]
    refine .quiet (.g rfl rfl) rfl (fun _ => .not rfl) <| OD.q 4 rfl <| .quiet (.g rfl rfl) rfl (fun _ => .len rfl Tryz.underlying22 rfl) <| .quiet (.g rfl rfl) rfl (fun _ => .geq rfl rfl) <| OD.sF 43 rfl (by simp; omega) ?_
    refine OD.q 14 rfl <| ODx.nil <| S.condF rfl <| S.skip <| S.inBlock <| S.region rfl <| O.q 1 rfl <| O.op (.p rfl) (.add rfl rfl (IntWalk.i64_in _ (by omega))) <| O.q 1 rfl <| O.nil ?_
    exact S.wk (ih (i + 1) (by omega) (by omega))
   ·have hi2 : es.length ≤ i := by omega
    have hid : i - css.length < dss.length := by omega
    have hget : (css ++ dss)[i] = dss[i - css.length] := List.getElem_append_right (by omega)
    have hA2 := hu.at2 (i - css.length) hid (by simp; omega)
    rw [mks_get] at hA2
    have hmk : Mk ((i : Int) - (es.length : Int)) := by constructor <;> omega
    have hci : ((i - css.length : Nat) : Int) = (i : Int) - (es.length : Int) := by omega
    rw [hci] at hA2
    refine OD.q 14 rfl <| .quiet (.g rfl rfl) rfl (fun _ => .len rfl Tryz.underlying22 rfl) <| .quiet (.g rfl rfl) rfl (fun _ => .geq rfl rfl) <| OD.sT 43 rfl (by simp; omega) ?_
    refine OD.q 3 rfl <| OD.ia (.g rfl rfl) Tryz.underlying22 F.size49 rfl rfl rfl (hin) (h := fun p47 cs47 hp47 hr47 => ?_)
    obtain ⟨rfl, _, _⟩ := hr47
    rw [hget] at hp47
    generalize dss[i - css.length] = cz at hp47 hA2
    obtain ⟨za1_47, zc1_47, rfl, zk0_47, zk1_47⟩ := LeafRp.sh hA2
    refine .quiet (.g rfl rfl) rfl (fun _ => .loadAgg Tryz.isAgg49 (by kernel_rfl) rfl hp47) ?_
    refine OD.q 2 rfl <| .quiet (.g rfl rfl) rfl (fun _ => .len rfl Tryz.underlying22 rfl) <| .quiet (.g rfl rfl) rfl (fun _ => .sub rfl rfl (IntWalk.i64_in _ (by omega))) <| OD.call0 (.g rfl rfl) (by kernel_rfl) rfl F.ok138 rfl rfl ((markLeaf_c _ _ (by constructor <;> omega) hmk)) ?_
    rintro v53 _ ⟨rfl, rfl⟩
    try simp only [zx1, zx2, zx3]
    refine OD.call0 (.g rfl rfl) (by kernel_rfl) rfl F.ok158 rfl rfl ((sameLeaf_c hA2 (markLeaf_rel (by constructor <;> omega) hmk))) ?_
    rintro v54 _ ⟨rfl, rfl⟩
    try simp only [zx1, zx2, zx3]
    refine OD.sT 54 rfl (by simp) ?_
    refine .quiet (.g rfl rfl) rfl (fun _ => .not rfl) <| OD.q 2 rfl <| ODx.nil <| S.condF rfl <| S.skip <| S.inBlock <| S.region rfl <| O.q 1 rfl <| O.op (.p rfl) (.add rfl rfl (IntWalk.i64_in _ (by omega))) <| O.q 1 rfl <| O.nil ?_
    exact S.wk (ih (i + 1) (by omega) (by omega))
  ·refine S.exit rfl <| S.seq <| S.region rfl <| O.q 1 rfl <| O.nil ?_
   exact S.rt Tryz.results72 rfl hR ⟨rfl, rfl⟩
end Go.Proofs.YtodhbhanmdfdeaaGreat
