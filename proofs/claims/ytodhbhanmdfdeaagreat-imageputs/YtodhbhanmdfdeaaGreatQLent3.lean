/- Texts of this proof. -/
import Derived.Test.YtodhbhanmdfdeaaGreatQFc
import Derived.Test.YtodhbhanmdfdeaaGreatQLent2
import Derived.Test.YtodhbhanmdfdeaaGreatQSpAuto
open Go Go.Sp
set_option maxRecDepth 100000
attribute [local irreducible] obj Own OwnP
namespace Go.Proofs.YtodhbhanmdfdeaaGreat
theorem markRoot_c {r : Fr} (k i : Int) (hk : Mk k) (hi : Mk i) : Con Tryz.prog 140 #[.int .i64 k, .int .i64 i] r [] (Ret fun v η => v = .agg #[.int .i64 0, .int .i64 0, .int .i64 (markZ k i), .slice none 0 0, .slice none 0 0] ∧ η = []) := by
 refine Con.of (n := 9) _ rfl Tryz.func140 rfl rfl rfl fun g hg R hR => ?_
 refine S.seq <| S.region rfl <| O.opE (.p rfl) (.alloc (cs := [.int .i64 0, .int .i64 0, .int .i64 0, .slice none 0 0, .slice none 0 0]) Tryz.zeroValue52 rfl) ?_
 rintro _ _ ⟨b4, rfl, rfl⟩
 refine O.nil <| S.seq <| S.region rfl <| O.q 2 rfl <| O.call0 (.p rfl) rfl F.ok143 rfl rfl ((mark_c _ _ hk hi)) ?_
 rintro v7 _ ⟨rfl, rfl⟩
 try simp only [zx1, zx2, zx3]
 refine O.op (.p rfl) (.build (cs := [_, _, _, _, _]) Tryz.underlying52 rfl rfl rfl rfl rfl) <| O.opU rfl (.storeObj (by kernel_rfl) rfl rfl rfl rfl (by repeat (first | exact zh | apply zt)) (by first | (simp; done) | (simp [Value.cells]; done))) ?_
 refine O.nil <| S.retCellAgg Tryz.results140 Tryz.isAgg52 (by kernel_rfl) rfl (by repeat (first | exact zh | apply zt)) fun w hw => Holds.end_ hR hw ?_
 exact pk ⟨rfl, rfl⟩
theorem markRoot_rel {h : Fr} {k i : Int} (hk : Mk k) (hi : Mk i) : RootRp.rel h [.int .i64 0, .int .i64 0, .int .i64 (markZ k i), .slice none 0 0, .slice none 0 0] (markRoot k i) := RootRp.mk (by constructor <;> decide) (by constructor <;> decide) (markZ64 hk hi) Arr.nil Arr.nil
theorem lentRoot_c {r : Fr} {cs : List Value} {x : RootT} (h : RootRp.rel r cs x) (hb : RootOk 100000000000 x) :
  Con Tryz.prog 139 #[.agg cs.toArray] r [] (Ret fun v η => ∃ a3 c3 a4 c4, v = .agg #[.int .i64 x.1, .int .i64 x.2.1, .int .i64 x.2.2.1, .slice a3 x.2.2.2.1.length c3, .slice a4 x.2.2.2.2.1.length c4] ∧ η = [(RootL tys).own [.int .i64 x.1, .int .i64 x.2.1, .int .i64 x.2.2.1, .slice a3 x.2.2.2.1.length c3, .slice a4 x.2.2.2.2.1.length c4] x]) := by
 obtain ⟨xa3, xa4, xc3, xc4, rfl, k0, k1, k2, k3, k4⟩ := RootRp.sh h
 obtain ⟨ob3, ob4⟩ := hb
 refine Con.of (n := 12) _ rfl Tryz.func139 rfl rfl rfl fun g hg R hR => ?_
 have k3 := k3.mono hg
 have k4 := k4.mono hg
 refine S.seq <| S.region rfl <| O.opE (.p rfl) (.box (cs := [_, _, _, _, _]) rfl rfl) ?_
 rintro _ _ ⟨b1, rfl, rfl⟩
 refine O.opE (.p rfl) (.alloc (cs := [.int .i64 0, .int .i64 0, .int .i64 0, .slice none 0 0, .slice none 0 0]) Tryz.zeroValue52 rfl) ?_
 rintro _ _ ⟨b2, rfl, rfl⟩
 refine O.nil <| S.seq <| S.region rfl <| O.op (.p rfl) (.fieldObj F.fld52x3 rfl) <| O.op (.p rfl) (.lo F.flat31) ?_
 refine O.call0 (.p rfl) rfl F.ok24 rfl rfl ((LentBytes_c k3 (by omega))) ?_
 rintro v5 _ ⟨a3, c3, rfl, rfl⟩
 try simp only [zx1, zx2, zx3]
 refine O.op (.p rfl) (.fieldObj F.fld52x3 rfl) <| O.opU rfl (.store1 F.flat31 rfl rfl (by first | rfl | assumption) (by repeat (first | exact zh | apply zt)) (by first | (simp; done) | (simp [Value.cells]; done))) ?_
 refine O.nil <| S.seq <| S.region rfl <| O.op (.p rfl) (.fieldObj F.fld52x4 rfl) <| O.op (.p rfl) (.lo F.flat31) ?_
 refine O.call0 (.p rfl) rfl F.ok24 rfl rfl ((LentBytes_c k4 (by omega))) ?_
 rintro v9 _ ⟨a4, c4, rfl, rfl⟩
 try simp only [zx1, zx2, zx3]
 refine O.op (.p rfl) (.fieldObj F.fld52x4 rfl) <| O.opU rfl (.store1 F.flat31 rfl rfl (by first | rfl | assumption) (by repeat (first | exact zh | apply zt)) (by first | (simp; done) | (simp [Value.cells]; done))) ?_
 refine O.nil <| S.seq <| S.region rfl <| O.op (.p rfl) (.loA (news := [_, _, _, _, _]) Tryz.isAgg52) ?_
 refine O.opU rfl (.storeObj (by kernel_rfl) rfl rfl rfl rfl (by repeat (first | exact zh | apply zt)) (by first | (simp; done) | (simp [Value.cells]; done))) ?_
 refine O.nil <| S.foldS (A := (RootL tys).own [.int .i64 x.1, .int .i64 x.2.1, .int .i64 x.2.2.1, .slice a3 x.2.2.2.1.length c3, .slice a4 x.2.2.2.2.1.length c4] x) (bs := [LentQ Rp.u8 tys.u8 (markB 1) (.slice a3 x.2.2.2.1.length c3) x.2.2.2.1, LentQ Rp.u8 tys.u8 (markB 1) (.slice a4 x.2.2.2.2.1.length c4) x.2.2.2.2.1]) (by repeat (first | exact zsn | (apply zsc; focus (repeat (first | exact zh | apply zt))))) (fun m y => RootL.mk k0 k1 k2 y) ?_
 refine S.retCellAgg Tryz.results139 Tryz.isAgg52 (by kernel_rfl) rfl (by repeat (first | exact zh | apply zt)) fun w hw => Holds.end_ hR hw ?_
 exact pk ⟨a3, c3, a4, c4, rfl, rfl⟩
theorem keptRoot_c {r : Fr} {cs ds : List Value} {x : RootT} (h : (RootL tys).rd r cs x) (hy : RootRp.rel r ds x) (hb : RootOk 100000000000 x) :
  Con Tryz.prog 159 #[.agg cs.toArray, .agg ds.toArray] r [] (Ret fun v η => v = .bool true ∧ η = []) := by
 have hx := (RootL tys).rel h
 obtain ⟨v3, v4, rfl, k0, k1, k2, q3, q4⟩ := RootL.opn h
 obtain ⟨ya3, ya4, yc3, yc4, rfl, yk0, yk1, yk2, yk3, yk4⟩ := RootRp.sh hy
 obtain ⟨ob3, ob4⟩ := hb
 refine Con.of (n := 22) _ rfl Tryz.func159 rfl rfl rfl fun g hg R hR => ?_
 have hx := hx.mono hg
 have hy := hy.mono hg
 have yk3 := yk3.mono hg
 have yk4 := yk4.mono hg
 replace q3 := q3.mono hg
 replace q4 := q4.mono hg
 refine S.seq <| S.region rfl <| O.opE (.p rfl) (.box (cs := [_, _, _, _, _]) rfl rfl) ?_
 rintro _ _ ⟨b2, rfl, rfl⟩
 refine O.opE (.p rfl) (.box (cs := [_, _, _, _, _]) rfl rfl) ?_
 rintro _ _ ⟨b3, rfl, rfl⟩
 refine O.q 1 rfl <| O.nil <| S.seq <| S.region rfl <| O.op (.p rfl) (.loA (news := [_, _, _, _, _]) Tryz.isAgg52) ?_
 refine O.op (.p rfl) (.loA (news := [_, _, _, _, _]) Tryz.isAgg52) ?_
 refine O.call0 (.p rfl) rfl F.ok160 rfl rfl ((sameRoot_c hx hy)) ?_
 rintro v7 _ ⟨rfl, rfl⟩
 try simp only [zx1, zx2, zx3]
 refine O.sT 7 rfl (by simp) ?_
 refine O.q 1 rfl <| O.op (.g rfl rfl) (.fieldObj F.fld52x3 rfl) <| O.op (.g rfl rfl) (.lo F.flat31) ?_
 refine O.op (.g rfl rfl) (.fieldObj F.fld52x3 rfl) <| O.op (.g rfl rfl) (.lo F.flat31) ?_
 refine O.call0 (.g rfl rfl) rfl F.ok27 rfl rfl ((keptBytes_l q3 yk3 (by omega))) ?_
 rintro v13 _ ⟨rfl, rfl⟩
 try simp only [zx1, zx2, zx3]
 refine O.q 2 rfl <| O.op (.g rfl rfl) (.fieldObj F.fld52x4 rfl) <| O.op (.g rfl rfl) (.lo F.flat31) ?_
 refine O.op (.g rfl rfl) (.fieldObj F.fld52x4 rfl) <| O.op (.g rfl rfl) (.lo F.flat31) ?_
 refine O.call0 (.g rfl rfl) rfl F.ok27 rfl rfl ((keptBytes_l q4 yk4 (by omega))) ?_
 rintro v20 _ ⟨rfl, rfl⟩
 try simp only [zx1, zx2, zx3]
 refine O.q 2 rfl <| O.nil ?_
 exact S.rt Tryz.results159 rfl hR ⟨rfl, rfl⟩
theorem lentRoots_c {r : Fr} {va : Value} {es : List RootT} (ha : Arr RootRp r va es) (hq : ∀ x ∈ es, RootOk 100000000000 x) (hl : es.length ≤ 100000000000) :
  Con Tryz.prog 57 #[va] r [] (Ret fun v η => ∃ a c, v = .slice a es.length c ∧ η = [LentL (RootL tys) tys.root (markRoot 1) (.slice a es.length c) es]) := by
 have har := ha
 refine Con.of (n := 39) _ rfl Tryz.func57 rfl rfl rfl fun g hg R hR => ?_
 have ha := ha.mono hg
 obtain ⟨a1, c1, rfl⟩ := ha.shape
 refine S.seq <| S.region rfl <| O.q 1 rfl <| O.nil <| S.seq <| S.region rfl <| O.q 1 rfl <| O.op (.p rfl) (.len rfl Tryz.underlying23 rfl) <| O.op (.p rfl) (.add rfl rfl (IntWalk.i64_in _ (by omega))) <| O.opE (.p rfl) (.makeP0 (T := Rp.cells 5) (c := es.length + 12) Tryz.underlying23 F.elem52 rfl rfl rfl rfl (by omega) (by omega)) ?_
 rintro v10 _ ⟨a10, c10, rfl, rfl⟩
 refine O.q 1 rfl <| O.nil <| S.seq <| S.seq <| S.region rfl <| O.q 1 rfl <| O.nil <| S.block <| S.each0 (RootL tys).own ?_
 refine S.loopK4 (ι := Nat) (κ := Option Addr) (υ := Nat) (τ := List (List Value)) (fun i a c css => i ≤ es.length ∧ css.length = i) (fun i a c css => [(4, .int .i64 (i : Int)), (3, .slice a i c)]) [(0, _)] (fun i a c css => [EachP (RootL tys).own css (es.take i), OwnP (Rp.cells 5) 52 (.slice a i c) css]) (fun i a c css => es.length - i) (0) (a10) (c10) ([]) (by exact ⟨by simp, rfl⟩) (.cons rfl (.cons rfl (.nil))) (.cons rfl (.nil)) rfl fun i a c css hx ih => ?_
 have hm1 := meltRefl (g := g)
 obtain ⟨hx1, hvs⟩ := hx
 refine S.seq <| S.seq <| S.region rfl <| O.q 2 rfl <| O.op (.p rfl) (.len rfl Tryz.underlying23 rfl) <| O.op (.p rfl) (.lss rfl rfl) <| O.nil ?_
 first | refine S.condD rfl (fun h14 => ?_) (fun h14 => ?_) | refine S.condB rfl (fun h14 => ?_) (fun h14 => ?_)
 ·have hi : i < es.length := by omega
  have hrow := hq es[i] (List.getElem_mem hi)
  refine S.skip <| S.seq <| S.block <| S.seq <| S.region rfl <| O.q 2 rfl <| O.ib (.p rfl) Tryz.underlying23 F.size52 rfl rfl rfl har hg (h := fun p19 cs19 hp19 hrr19 => ?_)
  have hr19 := Rp.rel.mono hrr19 hg
  obtain ⟨ta3_19, ta4_19, tc3_19, tc4_19, rfl, ho0_19, ho1_19, ho2_19, ha3_19, ha4_19⟩ := RootRp.sh hr19
  refine O.op (.p rfl) (.loadAgg Tryz.isAgg52 (by kernel_rfl) rfl hp19) ?_
  refine O.call0 (.p rfl) rfl F.ok139 rfl rfl ((lentRoot_c hr19 hrow)) ?_
  rintro v21 _ ⟨a3_21, c3_21, a4_21, c4_21, rfl, rfl⟩
  try simp only [zx1, zx2, zx3]
  refine O.opE (.p rfl) (.alloc (cs := [.int .i64 0, .int .i64 0, .int .i64 0, .slice none 0 0, .slice none 0 0]) Tryz.zeroValue52 rfl) ?_
  rintro _ _ ⟨b5, rfl, rfl⟩
  refine O.opU rfl (.storeObj (by kernel_rfl) rfl rfl rfl rfl (by repeat (first | exact zh | apply zt)) (by first | (simp; done) | (simp [Value.cells]; done))) ?_
  refine O.nil <| S.region rfl <| O.q 1 rfl <| O.op (.p rfl) (.loA (news := [_, _, _, _, _]) Tryz.isAgg52) ?_
  refine O.opE (.p rfl) (.litP (T := (Rp.cells 5)) (ys := [_]) Tryz.underlying23 F.elem52 (by decide) rfl rfl ⟨⟨rfl, rfl, by first | (simp; done) | (intro v hv; simp [Value.cells] at hv; rcases hv with rfl | rfl <;> rfl) | (refine List.forall_mem_cons.2 ⟨rfl, ?_⟩; repeat (first | exact (fun _ h => absurd h List.not_mem_nil) | refine List.forall_mem_cons.2 ⟨rfl, ?_⟩))⟩, trivial⟩ (by decide)) ?_
  rintro _ _ ⟨a24, c24, rfl, rfl⟩
  refine O.opE (.p rfl) (.appendO (T := (Rp.cells 5)) Tryz.underlying23 F.elem52 (by decide) rfl rfl (by repeat (first | exact zh | apply zt)) (by repeat (first | exact zh | apply zt)) (by first | omega | (simp; done) | (simp; omega) | decide) (by first | omega | (simp; done) | (simp; omega) | decide)) ?_
  rintro _ _ ⟨a25, c25, rfl, rfl⟩
  refine O.q 1 rfl <| O.nil <| S.inBlock <| S.region rfl <| O.q 1 rfl <| O.op (.p rfl) (.add rfl rfl (IntWalk.i64_in _ (by omega))) <| O.q 1 rfl <| O.nil ?_
  have hcs : (Value.agg #[.int .i64 es[i].1, .int .i64 es[i].2.1, .int .i64 es[i].2.2.1, .slice a3_21 es[i].2.2.2.1.length c3_21, .slice a4_21 es[i].2.2.2.2.1.length c4_21]).cells.toList = [.int .i64 es[i].1, .int .i64 es[i].2.1, .int .i64 es[i].2.2.1, .slice a3_21 es[i].2.2.2.1.length c3_21, .slice a4_21 es[i].2.2.2.2.1.length c4_21] := by simp [Value.cells]
  simp only [hcs]
  refine S.each (A := (RootL tys).own) (bs := css) (b := [.int .i64 es[i].1, .int .i64 es[i].2.1, .int .i64 es[i].2.2.1, .slice a3_21 es[i].2.2.2.1.length c3_21, .slice a4_21 es[i].2.2.2.2.1.length c4_21]) (a := es[i]) (by repeat (first | exact zh | apply zt)) (by repeat (first | exact zh | apply zt)) ?_
  rw [← List.take_succ_eq_append_getElem hi, hvs]
  exact S.pw (ih (i + 1) (a25) (c25) (css ++ [[.int .i64 es[i].1, .int .i64 es[i].2.1, .int .i64 es[i].2.2.1, .slice a3_21 es[i].2.2.2.1.length c3_21, .slice a4_21 es[i].2.2.2.2.1.length c4_21]]) (by exact ⟨by omega, by simp; omega⟩) (by omega))
 ·have hi : i = es.length := by omega
  subst hi
  rw [List.take_length]
  refine S.exit rfl <| S.seq <| S.seq <| S.region rfl <| O.q 1 rfl <| O.nil <| S.block <| S.conv (B := OwnP (Rp.cells 5) 52 (.slice a es.length c) css) (C := OwnP (Rp.cells 5) 52 (.slice a es.length c) (css ++ [])) (by repeat (first | exact zh | apply zt)) (fun m x => ⟨m, Fr.sub_refl _, by rw [List.append_nil]; exact x⟩) ?_
  refine S.loopK4 (ι := Nat) (κ := Option Addr) (υ := Nat) (τ := List (List Value)) (fun i a c dss => i ≤ 12 ∧ All2 (RootRp.rel Fr.emp) dss (mks (markRoot 1) i)) (fun i a c dss => [(6, .int .i64 (i : Int)), (3, .slice a (es.length + i) c)]) [(0, _)] (fun i a c dss => [OwnP (Rp.cells 5) 52 (.slice a (es.length + i) c) (css ++ dss), EachP (RootL tys).own css es]) (fun i a c dss => 12 - i) (0) (a) (c) ([]) (by exact ⟨by simp, trivial⟩) (.cons rfl (.cons rfl (.nil))) (.cons rfl (.nil)) rfl fun i a c dss hx ih => ?_
  have hm2 := meltRefl (g := g)
  obtain ⟨hx1, hus⟩ := hx
  have hul := hus.len2
  rw [mks_length] at hul
  refine S.seq <| S.seq <| S.region rfl <| O.q 1 rfl <| O.op (.p rfl) (.lss rfl rfl) <| O.nil ?_
  first | refine S.condD rfl (fun h27 => ?_) (fun h27 => ?_) | refine S.condB rfl (fun h27 => ?_) (fun h27 => ?_)
  ·refine S.skip <| S.seq <| S.block <| S.region rfl <| O.q 2 rfl <| O.call0 (.p rfl) rfl F.ok140 rfl rfl (markRoot_c _ _ (by constructor <;> omega) (by constructor <;> omega)) ?_
   rintro v32 _ ⟨rfl, rfl⟩
   try simp only [zx1, zx2, zx3]
   refine O.opE (.p rfl) (.litP (T := (Rp.cells 5)) (ys := [_]) Tryz.underlying23 F.elem52 (by decide) rfl rfl ⟨⟨rfl, rfl, by first | (simp; done) | (intro v hv; simp [Value.cells] at hv; rcases hv with rfl | rfl <;> rfl) | (refine List.forall_mem_cons.2 ⟨rfl, ?_⟩; repeat (first | exact (fun _ h => absurd h List.not_mem_nil) | refine List.forall_mem_cons.2 ⟨rfl, ?_⟩))⟩, trivial⟩ (by decide)) ?_
   rintro _ _ ⟨a33, c33, rfl, rfl⟩
   refine O.opE (.p rfl) (.appendO (T := (Rp.cells 5)) Tryz.underlying23 F.elem52 (by decide) rfl rfl (by repeat (first | exact zh | apply zt)) (by repeat (first | exact zh | apply zt)) (by first | omega | (simp; done) | (simp; omega) | decide) (by first | omega | (simp; done) | (simp; omega) | decide)) ?_
   rintro _ _ ⟨a34, c34, rfl, rfl⟩
   refine O.q 1 rfl <| O.nil <| S.inBlock <| S.region rfl <| O.q 1 rfl <| O.op (.p rfl) (.add rfl rfl (IntWalk.i64_in _ (by omega))) <| O.q 1 rfl <| O.nil ?_
   have hcs : (Value.agg #[.int .i64 0, .int .i64 0, .int .i64 (markZ 1 (i : Int)), .slice none 0 0, .slice none 0 0]).cells.toList = [.int .i64 0, .int .i64 0, .int .i64 (markZ 1 (i : Int)), .slice none 0 0, .slice none 0 0] := by simp [Value.cells]
   simp only [hcs]
   rw [List.append_assoc]
   simp only [List.length_append, hvs, hul]
   exact S.pw (ih (i + 1) (a34) (c34) ((dss ++ [[.int .i64 0, .int .i64 0, .int .i64 (markZ 1 (i : Int)), .slice none 0 0, .slice none 0 0]])) (by exact ⟨by omega, by rw [← mks_succ]; exact All2.append hus ⟨markRoot_rel (by constructor <;> omega) (by constructor <;> omega), trivial⟩⟩) (by omega))
  ·have hi : i = 12 := by omega
   subst hi
   refine S.factS (by repeat (first | exact zh | apply zt)) (fun _ x => OwnP.room (T := Rp.cells 5) (e := 52) (xs := css ++ dss) (a := a) (c := c) (m := es.length + 12) x) fun hroom => ?_
   refine S.exit rfl <| S.seq <| S.region rfl <| O.q 2 rfl <| O.op (.p rfl) (.len rfl Tryz.underlying23 rfl) <| O.slice0 (q := es.length) (Rp.cells 5) (.p rfl) Tryz.underlying23 F.size52 rfl rfl rfl (by omega) ?_
   refine O.q 1 rfl <| O.nil <| S.pk (ζ := [OwnP (Rp.cells 5) 52 (.slice a (es.length + 12) c) (css ++ dss), EachP (RootL tys).own css es]) (by repeat (first | exact zpa | exact zpn | (apply zpc; focus (repeat (first | exact zh | apply zt))) | apply zps)) ?_
   refine S.fold (A := LentL (RootL tys) tys.root (markRoot 1) (.slice a es.length c) es) (bs := [OwnP (Rp.cells 5) 52 (.slice a (es.length + 12) c) (css ++ dss), EachP (RootL tys).own css es]) (fun m x => LentL.fold (L := RootL tys) hroom.2 hvs hus x) ?_
   exact S.rt Tryz.results57 rfl hR ⟨a, c, rfl, rfl⟩
theorem keptRoots_c {r : Fr} {va vl : Value} {es : List RootT} (hz : LentLA (RootL tys) (markRoot 1) r va es) (hl : Arr RootRp r vl es) (hq : ∀ x ∈ es, RootOk 100000000000 x) (hb : es.length ≤ 100000000000) :
  Con Tryz.prog 73 #[va, vl] r [] (Ret fun v η => v = .bool true ∧ η = []) := by
 obtain ⟨a, c, css, dss, rfl, hrm, hin, hv, hu⟩ := hz
 have hlr := hl
 refine Con.of (n := 58) _ rfl Tryz.func73 rfl rfl rfl fun g hg R hR => ?_
 have hin := hin.mono hg
 have hl := hl.mono hg
 replace hv := hv.imp fun _ _ => (RootL tys).mono hg
 replace hu := hu.imp fun _ _ => RootRp.mono hg
 have hvl := hv.len2
 have hul := hu.len2
 rw [mks_length] at hul
 obtain ⟨a1, c1, rfl⟩ := hl.shape
 have hal : (css ++ dss).length = es.length + 12 := by simp; omega
 refine S.seq <| S.region rfl <| O.q 1 rfl <| O.nil <| S.seq <| S.seq <| S.region rfl <| O.q 1 rfl <| O.op (.p rfl) (.len rfl Tryz.underlying23 rfl) <| O.q 1 rfl <| O.op (.p rfl) (.len rfl Tryz.underlying23 rfl) <| O.op (.p rfl) (.neq rfl rfl) <| O.nil ?_
 first | refine S.condD rfl (fun h11 => ?_) (fun h11 => ?_) | refine S.condB rfl (fun h11 => ?_) (fun h11 => ?_)
 ·exact absurd rfl (by assumption)
 ·refine S.skip <| S.seq <| S.region rfl <| O.q 2 rfl <| O.op (.p rfl) (.len rfl Tryz.underlying23 rfl) <| O.op (.p rfl) (.add rfl rfl (IntWalk.i64_in _ (by omega))) <| O.slice0 (q := es.length + 12) (Rp.cells 5) (.p rfl) Tryz.underlying23 F.size52 rfl rfl rfl (by omega) ?_
  refine O.q 1 rfl <| O.nil <| S.seq <| S.seq <| S.region rfl <| O.q 1 rfl <| O.nil <| S.block <| S.loopK (ι := Nat) (fun i => i ≤ es.length + 12) (fun i => [(6, .int .i64 (i : Int))]) [(1, _), (5, _)] (fun i => []) (fun i => es.length + 12 - i) (0) (by simp) (.cons rfl (.nil)) (.cons rfl (.cons rfl (.nil))) rfl fun i hx ih => ?_
  have hm1 := meltRefl (g := g)
  refine S.seq <| S.seq <| S.region rfl <| O.q 2 rfl <| O.op (.p rfl) (.len rfl Tryz.underlying23 rfl) <| O.op (.p rfl) (.lss rfl rfl) <| O.nil ?_
  first | refine S.condD rfl (fun h20 => ?_) (fun h20 => ?_) | refine S.condB rfl (fun h20 => ?_) (fun h20 => ?_)
  ·have hi : i < (css ++ dss).length := by omega
   refine S.skip <| S.seq <| S.block <| S.seq <| S.regionD (L := [0, 1, 2, 3, 4, 5, 6, 7, 8, 9, 10, 11, 12, 13, 14, 15, 16, 17, 18, 19, 20, 21, 22, 23, 24, 25, 26, 27, 28, 29, 30, 31, 32, 33, 34]) F.mixed (by kernel_rfl) <| OD.q 2 rfl <| .quiet (.p rfl) rfl (fun _ => .len rfl Tryz.underlying23 rfl) <| .quiet (.p rfl) rfl (fun _ => .lss rfl rfl) <| OD.q 1 rfl ?_
   first | refine OD.caseD 27 rfl (fun h27 => ?_) (fun h27 => ?_) | refine OD.caseB 27 rfl (fun h27 => ?_) (fun h27 => ?_)
   ·have hi2 : i < es.length := by omega
    have hget : (css ++ dss)[i] = css[i] := List.getElem_append_left (by omega)
    have hA := hv.at2 i (by omega) hi2
    have hA2 := (RootL tys).rel hA
    have hrow := hq es[i] (List.getElem_mem hi2)
    refine OD.q 2 rfl <| OD.ia (.g rfl rfl) Tryz.underlying23 F.size52 rfl rfl rfl (hin) (h := fun p30 cs30 hp30 hr30 => ?_)
    obtain ⟨rfl, _, _⟩ := hr30
    rw [hget] at hp30
    generalize css[i] = cz at hp30 hA hA2
    obtain ⟨za3_30, za4_30, zc3_30, zc4_30, rfl, zk0_30, zk1_30, zk2_30, zk3_30, zk4_30⟩ := RootRp.sh hA2
    refine .quiet (.g rfl rfl) rfl (fun _ => .loadAgg Tryz.isAgg52 (by kernel_rfl) rfl hp30) ?_
    refine OD.q 2 rfl <| OD.ib (.g rfl rfl) Tryz.underlying23 F.size52 rfl rfl rfl hlr hg (h := fun p34 cs34 hp34 hrr34 => ?_)
    have hr34 := Rp.rel.mono hrr34 hg
    obtain ⟨ta3_34, ta4_34, tc3_34, tc4_34, rfl, ho0_34, ho1_34, ho2_34, ha3_34, ha4_34⟩ := RootRp.sh hr34
    refine .quiet (.g rfl rfl) rfl (fun _ => .loadAgg Tryz.isAgg52 (by kernel_rfl) rfl hp34) ?_
    refine OD.call0 (.g rfl rfl) (by kernel_rfl) rfl F.ok159 rfl rfl ((keptRoot_c hA hr34 hrow)) ?_
    rintro v36 _ ⟨rfl, rfl⟩
    try simp only [zx1, zx2, zx3]
    refine .quiet (.g rfl rfl) rfl (fun _ => .not rfl) <| OD.q 4 rfl <| .quiet (.g rfl rfl) rfl (fun _ => .len rfl Tryz.underlying23 rfl) <| .quiet (.g rfl rfl) rfl (fun _ => .geq rfl rfl) <| OD.sF 43 rfl (by simp; omega) ?_
    refine OD.q 14 rfl <| ODx.nil <| S.condF rfl <| S.skip <| S.inBlock <| S.region rfl <| O.q 1 rfl <| O.op (.p rfl) (.add rfl rfl (IntWalk.i64_in _ (by omega))) <| O.q 1 rfl <| O.nil ?_
    exact S.wk (ih (i + 1) (by omega) (by omega))
   ·have hi2 : es.length ≤ i := by omega
    have hid : i - css.length < dss.length := by omega
    have hget : (css ++ dss)[i] = dss[i - css.length] := List.getElem_append_right (by omega)
    have hA2 := hu.at2 (i - css.length) hid (by simp; omega)
    rw [mks_get] at hA2
    have hmk : Mk ((i : Int) - (es.length : Int)) := by constructor <;> omega
    have hci : ((i - css.length : Nat) : Int) = (i : Int) - (es.length : Int) := by omega
    rw [hci] at hA2
    refine OD.q 14 rfl <| .quiet (.g rfl rfl) rfl (fun _ => .len rfl Tryz.underlying23 rfl) <| .quiet (.g rfl rfl) rfl (fun _ => .geq rfl rfl) <| OD.sT 43 rfl (by simp; omega) ?_
    refine OD.q 3 rfl <| OD.ia (.g rfl rfl) Tryz.underlying23 F.size52 rfl rfl rfl (hin) (h := fun p47 cs47 hp47 hr47 => ?_)
    obtain ⟨rfl, _, _⟩ := hr47
    rw [hget] at hp47
    generalize dss[i - css.length] = cz at hp47 hA2
    obtain ⟨za3_47, za4_47, zc3_47, zc4_47, rfl, zk0_47, zk1_47, zk2_47, zk3_47, zk4_47⟩ := RootRp.sh hA2
    refine .quiet (.g rfl rfl) rfl (fun _ => .loadAgg Tryz.isAgg52 (by kernel_rfl) rfl hp47) ?_
    refine OD.q 2 rfl <| .quiet (.g rfl rfl) rfl (fun _ => .len rfl Tryz.underlying23 rfl) <| .quiet (.g rfl rfl) rfl (fun _ => .sub rfl rfl (IntWalk.i64_in _ (by omega))) <| OD.call0 (.g rfl rfl) (by kernel_rfl) rfl F.ok140 rfl rfl ((markRoot_c _ _ (by constructor <;> omega) hmk)) ?_
    rintro v53 _ ⟨rfl, rfl⟩
    try simp only [zx1, zx2, zx3]
    refine OD.call0 (.g rfl rfl) (by kernel_rfl) rfl F.ok160 rfl rfl ((sameRoot_c hA2 (markRoot_rel (by constructor <;> omega) hmk))) ?_
    rintro v54 _ ⟨rfl, rfl⟩
    try simp only [zx1, zx2, zx3]
    refine OD.sT 54 rfl (by simp) ?_
    refine .quiet (.g rfl rfl) rfl (fun _ => .not rfl) <| OD.q 2 rfl <| ODx.nil <| S.condF rfl <| S.skip <| S.inBlock <| S.region rfl <| O.q 1 rfl <| O.op (.p rfl) (.add rfl rfl (IntWalk.i64_in _ (by omega))) <| O.q 1 rfl <| O.nil ?_
    exact S.wk (ih (i + 1) (by omega) (by omega))
  ·refine S.exit rfl <| S.seq <| S.region rfl <| O.q 1 rfl <| O.nil ?_
   exact S.rt Tryz.results73 rfl hR ⟨rfl, rfl⟩
end Go.Proofs.YtodhbhanmdfdeaaGreat
