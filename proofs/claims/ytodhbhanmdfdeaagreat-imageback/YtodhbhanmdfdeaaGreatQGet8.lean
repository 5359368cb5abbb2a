/- Texts of this proof. -/
import Derived.Test.YtodhbhanmdfdeaaGreatQFc
import Derived.Test.YtodhbhanmdfdeaaGreatQGet7
import Derived.Test.YtodhbhanmdfdeaaGreatQSpAuto
open Go Go.Sp
set_option maxRecDepth 100000
attribute [local irreducible] obj Own OwnP
namespace Go.Proofs.YtodhbhanmdfdeaaGreat
theorem someL_c {r : Fr} {b : Nat} {s : RS} (hl : s.rest.length ≤ 1000000000) :
  Con Tryz.prog 82 #[.agg #[.pointer (some ⟨b, 0, none⟩)], .func (.func 83) #[.agg #[.pointer (some ⟨b, 0, none⟩)]] #[]] r [RdP 226 b s] (RetP (fun v η => ∃ p a c, rowP leafP s = some p ∧ v = .slice a p.1.length c ∧ η = [ListP (LeafG tys) 49 (.slice a p.1.length c) p.1, RdP 226 b p.2]) (fun ch η => rowP leafP s = none ∧ ch = errP 32 4 ∧ η = [])) := by
 refine Con.of (n := 22) _ rfl Tryz.func82 rfl rfl rfl fun g hg R hR => ?_
 obtain ⟨c, hc⟩ : ∃ c, s.count 1073741824 = c := ⟨_, rfl⟩
 have lc : c.2.rest.length ≤ 1000000000 := by rw [← hc]; exact Nat.le_trans (RS.count_len _ _) hl
 obtain ⟨n0, n8⟩ : 0 ≤ c.1 ∧ c.1 ≤ 1073741824 := by rw [← hc]; exact RS.count_bd _ _ (by omega)
 have hrow : rowP leafP s = someP leafP c.1.toNat c.2 := by unfold rowP; rw [hc]
 refine S.seq <| S.region rfl <| O.opE (.p rfl) (.box (cs := [_]) rfl rfl) ?_
 rintro _ _ ⟨b2, rfl, rfl⟩
 refine O.q 1 rfl <| O.nil <| S.seq <| S.frzO (by repeat (first | exact zh | apply zt)) fun g hs hm hb2 => ?_
 replace hg := Fr.sub_trans hg hs
 replace hR := melted hR hm
 clear hs hm
 refine S.listNil (LeafG tys) 49 ?_
 refine S.region rfl <| O.q 1 rfl <| O.nil <| S.seq <| S.seq <| S.region rfl <| O.op (.p rfl) (.fieldAddr F.fld129x0 rfl) <| O.op (.p rfl) (.loadAt F.flat126 rfl hb2 rfl) ?_
 refine O.callS (.p rfl) rfl F.ok127 rfl rfl (by repeat (first | exact zh | apply zt)) (rdCount_c _) ?_
 rintro v8 _ ⟨rfl, rfl⟩
 try simp only [zx1, zx2, zx3]
 refine O.q 1 rfl <| O.nil (S.block ?_)
 rw [hc]
 refine S.loopK3 (ι := Nat) (κ := List LeafT × RS) (υ := Option Addr × Nat) (fun i x a => i ≤ c.1.toNat ∧ someP leafP i c.2 = some x) (fun i x a => [(9, .int .i64 (i : Int)), (5, .slice a.1 x.1.length a.2)]) [(1, _), (2, _), (8, _)] (fun i x a => [RdP 226 b x.2, ListP (LeafG tys) 49 (.slice a.1 x.1.length a.2) x.1]) (fun i x a => c.1.toNat - i) (0) (([], c.2)) ((none, 0)) (by exact ⟨by omega, rfl⟩) (.cons rfl (.cons rfl (.nil))) (.cons rfl (.cons rfl (.cons rfl (.nil)))) rfl fun i x a hx ih => ?_
 have hm1 := meltRefl (g := g)
 obtain ⟨hx1, hx2⟩ := hx
 have hxl := someP_count hx2
 have hxr := someP_len leafP_len hx2
 refine S.seq <| S.region rfl <| O.op (.p rfl) (.lss rfl rfl) <| O.nil (S.seq ?_)
 first | refine S.condD rfl (fun h10 => ?_) (fun h10 => ?_) | refine S.condB rfl (fun h10 => ?_) (fun h10 => ?_)
 ·have hi : i < c.1.toNat := by omega
  cases eg : x.2.good with
  | false =>
   have hno : rowP leafP s = none := hrow.trans (someP_none (someP_bad hx2 eg) (by omega))
   refine S.skip <| S.seq <| S.block <| S.seq <| S.region rfl <| O.op (.p rfl) (.fieldAddr F.fld129x0 rfl) <| O.op (.p rfl) (.loadAt F.flat126 rfl hb2 rfl) ?_
   refine O.callS (.p rfl) rfl F.ok188 rfl rfl (by repeat (first | exact zh | apply zt)) rdGood_c ?_
   rintro v13 _ ⟨rfl, rfl⟩
   try simp only [zx1, zx2, zx3]
   refine O.sF 13 rfl (by exact eg) ?_
   refine O.callP0 (.p rfl) rfl F.ok90 rfl rfl (imust_c _) (fun ch η' w hX hW => by (obtain ⟨hb, rfl, rfl⟩ := hX; exact hR _ _ w ⟨hno, rfl, rfl⟩ hW.drop_all)) ?_
   rintro v14 _ ⟨hb14, rfl, rfl⟩
   try simp only [zx1, zx2, zx3]
   exact absurd hb14 (by decide)
  | true =>
   refine S.skip <| S.seq <| S.block <| S.seq <| S.region rfl <| O.op (.p rfl) (.fieldAddr F.fld129x0 rfl) <| O.op (.p rfl) (.loadAt F.flat126 rfl hb2 rfl) ?_
   refine O.callS (.p rfl) rfl F.ok188 rfl rfl (by repeat (first | exact zh | apply zt)) rdGood_c ?_
   rintro v13 _ ⟨rfl, rfl⟩
   try simp only [zx1, zx2, zx3]
   refine O.sT 13 rfl (by exact eg) ?_
   refine O.callP0 (.p rfl) rfl F.ok90 rfl rfl (imust_c _) (fun ch η' w hX hW => by (exact absurd hX.1 (by decide))) ?_
   rintro v14 _ ⟨hb14, rfl, rfl⟩
   try simp only [zx1, zx2, zx3]
   refine O.nil <| S.listOpen (k' := 2) rfl (by repeat (first | exact zh | apply zt)) fun css hcl => ?_
   rw [← hcl]
   refine S.region rfl <| O.q 2 rfl <| O.callPS (.p rfl) rfl F.ok83 rfl rfl (by repeat (first | exact zh | apply zt)) (gleaf_c (by omega)) (fun ch η' w hX hW => by (obtain ⟨hb, rfl, rfl⟩ := hX; exact hR _ _ w ⟨hrow.trans (someP_none (someP_stop hx2 hb) (by omega)), rfl, rfl⟩ hW.drop_all)) ?_
   rintro v17 _ ⟨q, a17, c17, hq, rfl, rfl⟩
   try simp only [zx1, zx2, zx3]
   refine O.opE (.p rfl) (.litP (T := (Rp.cells 2)) (ys := [_]) Tryz.underlying22 F.elem49 (by decide) rfl rfl ⟨⟨rfl, rfl, by first | (simp; done) | (intro v hv; simp [Value.cells] at hv; rcases hv with rfl | rfl <;> rfl) | (refine List.forall_mem_cons.2 ⟨rfl, ?_⟩; repeat (first | exact (fun _ h => absurd h List.not_mem_nil) | refine List.forall_mem_cons.2 ⟨rfl, ?_⟩))⟩, trivial⟩ (by decide)) ?_
   rintro _ _ ⟨a18, c18, rfl, rfl⟩
   refine O.opE (.p rfl) (.appendO (T := (Rp.cells 2)) Tryz.underlying22 F.elem49 (by decide) rfl rfl (by repeat (first | exact zh | apply zt)) (by repeat (first | exact zh | apply zt)) (by first | omega | (simp; done) | (simp; omega) | decide) (by first | omega | (simp; done) | (simp; omega) | decide)) ?_
   rintro _ _ ⟨a19, c19, rfl, rfl⟩
   refine O.q 1 rfl <| O.nil <| S.inBlock <| S.region rfl <| O.op (.p rfl) (.add rfl rfl (IntWalk.i64_in _ (by omega))) <| O.q 1 rfl <| O.nil <| S.listPut (G := LeafG tys) (k' := 2) rfl (by repeat (first | exact zh | apply zt)) (by repeat (first | exact zh | apply zt)) (by repeat (first | exact zh | apply zt)) ?_
   simp only [List.length_singleton]
   rw [show css.length + 1 = (x.1 ++ [q.1]).length from by simp [hcl]]
   exact S.pw (ih (i + 1) ((x.1 ++ [q.1], q.2)) ((a19, c19)) (by exact ⟨by omega, someP_next hx2 eg hq⟩) (by omega))
 ·clear ih
  have hi : i = c.1.toNat := by omega
  subst hi
  refine S.exit rfl <| S.seq <| S.region rfl <| O.q 2 rfl <| O.nil ?_
  exact S.rt Tryz.results82 rfl hR ⟨x, a.1, a.2, hrow.trans hx2, rfl, rfl⟩
theorem someR_c {r : Fr} {b : Nat} {s : RS} (hl : s.rest.length ≤ 1000000000) :
  Con Tryz.prog 84 #[.agg #[.pointer (some ⟨b, 0, none⟩)], .func (.func 85) #[.agg #[.pointer (some ⟨b, 0, none⟩)]] #[]] r [RdP 226 b s] (RetP (fun v η => ∃ p a c, rowP ownP s = some p ∧ v = .slice a p.1.length c ∧ η = [ListP (RootG tys) 52 (.slice a p.1.length c) p.1, RdP 226 b p.2]) (fun ch η => rowP ownP s = none ∧ ch = errP 32 4 ∧ η = [])) := by
 refine Con.of (n := 22) _ rfl Tryz.func84 rfl rfl rfl fun g hg R hR => ?_
 obtain ⟨c, hc⟩ : ∃ c, s.count 1073741824 = c := ⟨_, rfl⟩
 have lc : c.2.rest.length ≤ 1000000000 := by rw [← hc]; exact Nat.le_trans (RS.count_len _ _) hl
 obtain ⟨n0, n8⟩ : 0 ≤ c.1 ∧ c.1 ≤ 1073741824 := by rw [← hc]; exact RS.count_bd _ _ (by omega)
 have hrow : rowP ownP s = someP ownP c.1.toNat c.2 := by unfold rowP; rw [hc]
 refine S.seq <| S.region rfl <| O.opE (.p rfl) (.box (cs := [_]) rfl rfl) ?_
 rintro _ _ ⟨b2, rfl, rfl⟩
 refine O.q 1 rfl <| O.nil <| S.seq <| S.frzO (by repeat (first | exact zh | apply zt)) fun g hs hm hb2 => ?_
 replace hg := Fr.sub_trans hg hs
 replace hR := melted hR hm
 clear hs hm
 refine S.listNil (RootG tys) 52 ?_
 refine S.region rfl <| O.q 1 rfl <| O.nil <| S.seq <| S.seq <| S.region rfl <| O.op (.p rfl) (.fieldAddr F.fld129x0 rfl) <| O.op (.p rfl) (.loadAt F.flat126 rfl hb2 rfl) ?_
 refine O.callS (.p rfl) rfl F.ok127 rfl rfl (by repeat (first | exact zh | apply zt)) (rdCount_c _) ?_
 rintro v8 _ ⟨rfl, rfl⟩
 try simp only [zx1, zx2, zx3]
 refine O.q 1 rfl <| O.nil (S.block ?_)
 rw [hc]
 refine S.loopK3 (ι := Nat) (κ := List RootT × RS) (υ := Option Addr × Nat) (fun i x a => i ≤ c.1.toNat ∧ someP ownP i c.2 = some x) (fun i x a => [(9, .int .i64 (i : Int)), (5, .slice a.1 x.1.length a.2)]) [(1, _), (2, _), (8, _)] (fun i x a => [RdP 226 b x.2, ListP (RootG tys) 52 (.slice a.1 x.1.length a.2) x.1]) (fun i x a => c.1.toNat - i) (0) (([], c.2)) ((none, 0)) (by exact ⟨by omega, rfl⟩) (.cons rfl (.cons rfl (.nil))) (.cons rfl (.cons rfl (.cons rfl (.nil)))) rfl fun i x a hx ih => ?_
 have hm1 := meltRefl (g := g)
 obtain ⟨hx1, hx2⟩ := hx
 have hxl := someP_count hx2
 have hxr := someP_len ownP_len hx2
 refine S.seq <| S.region rfl <| O.op (.p rfl) (.lss rfl rfl) <| O.nil (S.seq ?_)
 first | refine S.condD rfl (fun h10 => ?_) (fun h10 => ?_) | refine S.condB rfl (fun h10 => ?_) (fun h10 => ?_)
 ·have hi : i < c.1.toNat := by omega
  cases eg : x.2.good with
  | false =>
   have hno : rowP ownP s = none := hrow.trans (someP_none (someP_bad hx2 eg) (by omega))
   refine S.skip <| S.seq <| S.block <| S.seq <| S.region rfl <| O.op (.p rfl) (.fieldAddr F.fld129x0 rfl) <| O.op (.p rfl) (.loadAt F.flat126 rfl hb2 rfl) ?_
   refine O.callS (.p rfl) rfl F.ok188 rfl rfl (by repeat (first | exact zh | apply zt)) rdGood_c ?_
   rintro v13 _ ⟨rfl, rfl⟩
   try simp only [zx1, zx2, zx3]
   refine O.sF 13 rfl (by exact eg) ?_
   refine O.callP0 (.p rfl) rfl F.ok90 rfl rfl (imust_c _) (fun ch η' w hX hW => by (obtain ⟨hb, rfl, rfl⟩ := hX; exact hR _ _ w ⟨hno, rfl, rfl⟩ hW.drop_all)) ?_
   rintro v14 _ ⟨hb14, rfl, rfl⟩
   try simp only [zx1, zx2, zx3]
   exact absurd hb14 (by decide)
  | true =>
   refine S.skip <| S.seq <| S.block <| S.seq <| S.region rfl <| O.op (.p rfl) (.fieldAddr F.fld129x0 rfl) <| O.op (.p rfl) (.loadAt F.flat126 rfl hb2 rfl) ?_
   refine O.callS (.p rfl) rfl F.ok188 rfl rfl (by repeat (first | exact zh | apply zt)) rdGood_c ?_
   rintro v13 _ ⟨rfl, rfl⟩
   try simp only [zx1, zx2, zx3]
   refine O.sT 13 rfl (by exact eg) ?_
   refine O.callP0 (.p rfl) rfl F.ok90 rfl rfl (imust_c _) (fun ch η' w hX hW => by (exact absurd hX.1 (by decide))) ?_
   rintro v14 _ ⟨hb14, rfl, rfl⟩
   try simp only [zx1, zx2, zx3]
   refine O.nil <| S.listOpen (k' := 5) rfl (by repeat (first | exact zh | apply zt)) fun css hcl => ?_
   rw [← hcl]
   refine S.region rfl <| O.q 2 rfl <| O.callPS (.p rfl) rfl F.ok85 rfl rfl (by repeat (first | exact zh | apply zt)) (gown_c (by omega)) (fun ch η' w hX hW => by (obtain ⟨hb, rfl, rfl⟩ := hX; exact hR _ _ w ⟨hrow.trans (someP_none (someP_stop hx2 hb) (by omega)), rfl, rfl⟩ hW.drop_all)) ?_
   rintro v17 _ ⟨q, a3, c3, a4, c4, hq, rfl, rfl⟩
   try simp only [zx1, zx2, zx3]
   refine O.opE (.p rfl) (.litP (T := (Rp.cells 5)) (ys := [_]) Tryz.underlying23 F.elem52 (by decide) rfl rfl ⟨⟨rfl, rfl, by first | (simp; done) | (intro v hv; simp [Value.cells] at hv; rcases hv with rfl | rfl <;> rfl) | (refine List.forall_mem_cons.2 ⟨rfl, ?_⟩; repeat (first | exact (fun _ h => absurd h List.not_mem_nil) | refine List.forall_mem_cons.2 ⟨rfl, ?_⟩))⟩, trivial⟩ (by decide)) ?_
   rintro _ _ ⟨a18, c18, rfl, rfl⟩
   refine O.opE (.p rfl) (.appendO (T := (Rp.cells 5)) Tryz.underlying23 F.elem52 (by decide) rfl rfl (by repeat (first | exact zh | apply zt)) (by repeat (first | exact zh | apply zt)) (by first | omega | (simp; done) | (simp; omega) | decide) (by first | omega | (simp; done) | (simp; omega) | decide)) ?_
   rintro _ _ ⟨a19, c19, rfl, rfl⟩
   refine O.q 1 rfl <| O.nil <| S.inBlock <| S.region rfl <| O.op (.p rfl) (.add rfl rfl (IntWalk.i64_in _ (by omega))) <| O.q 1 rfl <| O.nil <| S.listPut (G := RootG tys) (k' := 5) rfl (by repeat (first | exact zh | apply zt)) (by repeat (first | exact zh | apply zt)) (by repeat (first | exact zh | apply zt)) ?_
   simp only [List.length_singleton]
   rw [show css.length + 1 = (x.1 ++ [q.1]).length from by simp [hcl]]
   exact S.pw (ih (i + 1) ((x.1 ++ [q.1], q.2)) ((a19, c19)) (by exact ⟨by omega, someP_next hx2 eg hq⟩) (by omega))
 ·clear ih
  have hi : i = c.1.toNat := by omega
  subst hi
  refine S.exit rfl <| S.seq <| S.region rfl <| O.q 2 rfl <| O.nil ?_
  exact S.rt Tryz.results84 rfl hR ⟨x, a.1, a.2, hrow.trans hx2, rfl, rfl⟩
theorem someE_c {r : Fr} {b : Nat} {s : RS} (hl : s.rest.length ≤ 1000000000) :
  Con Tryz.prog 86 #[.agg #[.pointer (some ⟨b, 0, none⟩)], .func (.func 87) #[.agg #[.pointer (some ⟨b, 0, none⟩)]] #[]] r [RdP 226 b s] (RetP (fun v η => ∃ p a c, rowP proofP s = some p ∧ v = .slice a p.1.length c ∧ η = [ListP (EvdG tys) 55 (.slice a p.1.length c) p.1, RdP 226 b p.2]) (fun ch η => rowP proofP s = none ∧ ch = errP 32 4 ∧ η = [])) := by
 refine Con.of (n := 22) _ rfl Tryz.func86 rfl rfl rfl fun g hg R hR => ?_
 obtain ⟨c, hc⟩ : ∃ c, s.count 1073741824 = c := ⟨_, rfl⟩
 have lc : c.2.rest.length ≤ 1000000000 := by rw [← hc]; exact Nat.le_trans (RS.count_len _ _) hl
 obtain ⟨n0, n8⟩ : 0 ≤ c.1 ∧ c.1 ≤ 1073741824 := by rw [← hc]; exact RS.count_bd _ _ (by omega)
 have hrow : rowP proofP s = someP proofP c.1.toNat c.2 := by unfold rowP; rw [hc]
 refine S.seq <| S.region rfl <| O.opE (.p rfl) (.box (cs := [_]) rfl rfl) ?_
 rintro _ _ ⟨b2, rfl, rfl⟩
 refine O.q 1 rfl <| O.nil <| S.seq <| S.frzO (by repeat (first | exact zh | apply zt)) fun g hs hm hb2 => ?_
 replace hg := Fr.sub_trans hg hs
 replace hR := melted hR hm
 clear hs hm
 refine S.listNil (EvdG tys) 55 ?_
 refine S.region rfl <| O.q 1 rfl <| O.nil <| S.seq <| S.seq <| S.region rfl <| O.op (.p rfl) (.fieldAddr F.fld129x0 rfl) <| O.op (.p rfl) (.loadAt F.flat126 rfl hb2 rfl) ?_
 refine O.callS (.p rfl) rfl F.ok127 rfl rfl (by repeat (first | exact zh | apply zt)) (rdCount_c _) ?_
 rintro v8 _ ⟨rfl, rfl⟩
 try simp only [zx1, zx2, zx3]
 refine O.q 1 rfl <| O.nil (S.block ?_)
 rw [hc]
 refine S.loopK3 (ι := Nat) (κ := List EvdT × RS) (υ := Option Addr × Nat) (fun i x a => i ≤ c.1.toNat ∧ someP proofP i c.2 = some x) (fun i x a => [(9, .int .i64 (i : Int)), (5, .slice a.1 x.1.length a.2)]) [(1, _), (2, _), (8, _)] (fun i x a => [RdP 226 b x.2, ListP (EvdG tys) 55 (.slice a.1 x.1.length a.2) x.1]) (fun i x a => c.1.toNat - i) (0) (([], c.2)) ((none, 0)) (by exact ⟨by omega, rfl⟩) (.cons rfl (.cons rfl (.nil))) (.cons rfl (.cons rfl (.cons rfl (.nil)))) rfl fun i x a hx ih => ?_
 have hm1 := meltRefl (g := g)
 obtain ⟨hx1, hx2⟩ := hx
 have hxl := someP_count hx2
 have hxr := someP_len proofP_len hx2
 refine S.seq <| S.region rfl <| O.op (.p rfl) (.lss rfl rfl) <| O.nil (S.seq ?_)
 first | refine S.condD rfl (fun h10 => ?_) (fun h10 => ?_) | refine S.condB rfl (fun h10 => ?_) (fun h10 => ?_)
 ·have hi : i < c.1.toNat := by omega
  cases eg : x.2.good with
  | false =>
   have hno : rowP proofP s = none := hrow.trans (someP_none (someP_bad hx2 eg) (by omega))
   refine S.skip <| S.seq <| S.block <| S.seq <| S.region rfl <| O.op (.p rfl) (.fieldAddr F.fld129x0 rfl) <| O.op (.p rfl) (.loadAt F.flat126 rfl hb2 rfl) ?_
   refine O.callS (.p rfl) rfl F.ok188 rfl rfl (by repeat (first | exact zh | apply zt)) rdGood_c ?_
   rintro v13 _ ⟨rfl, rfl⟩
   try simp only [zx1, zx2, zx3]
   refine O.sF 13 rfl (by exact eg) ?_
   refine O.callP0 (.p rfl) rfl F.ok90 rfl rfl (imust_c _) (fun ch η' w hX hW => by (obtain ⟨hb, rfl, rfl⟩ := hX; exact hR _ _ w ⟨hno, rfl, rfl⟩ hW.drop_all)) ?_
   rintro v14 _ ⟨hb14, rfl, rfl⟩
   try simp only [zx1, zx2, zx3]
   exact absurd hb14 (by decide)
  | true =>
   refine S.skip <| S.seq <| S.block <| S.seq <| S.region rfl <| O.op (.p rfl) (.fieldAddr F.fld129x0 rfl) <| O.op (.p rfl) (.loadAt F.flat126 rfl hb2 rfl) ?_
   refine O.callS (.p rfl) rfl F.ok188 rfl rfl (by repeat (first | exact zh | apply zt)) rdGood_c ?_
   rintro v13 _ ⟨rfl, rfl⟩
   try simp only [zx1, zx2, zx3]
   refine O.sT 13 rfl (by exact eg) ?_
   refine O.callP0 (.p rfl) rfl F.ok90 rfl rfl (imust_c _) (fun ch η' w hX hW => by (exact absurd hX.1 (by decide))) ?_
   rintro v14 _ ⟨hb14, rfl, rfl⟩
   try simp only [zx1, zx2, zx3]
   refine O.nil <| S.listOpen (k' := 10) rfl (by repeat (first | exact zh | apply zt)) fun css hcl => ?_
   rw [← hcl]
   refine S.region rfl <| O.q 2 rfl <| O.callPS (.p rfl) rfl F.ok87 rfl rfl (by repeat (first | exact zh | apply zt)) (gproof_c (by omega)) (fun ch η' w hX hW => by (obtain ⟨hb, rfl, rfl⟩ := hX; exact hR _ _ w ⟨hrow.trans (someP_none (someP_stop hx2 hb) (by omega)), rfl, rfl⟩ hW.drop_all)) ?_
   rintro v17 _ ⟨q, a3, c3, a4, c4, a8, c8, a9, c9, hq, rfl, rfl⟩
   try simp only [zx1, zx2, zx3]
   refine O.opE (.p rfl) (.litP (T := (Rp.cells 10)) (ys := [_]) Tryz.underlying24 F.elem55 (by decide) rfl rfl ⟨⟨rfl, rfl, by first | (simp; done) | (intro v hv; simp [Value.cells] at hv; rcases hv with rfl | rfl <;> rfl) | (refine List.forall_mem_cons.2 ⟨rfl, ?_⟩; repeat (first | exact (fun _ h => absurd h List.not_mem_nil) | refine List.forall_mem_cons.2 ⟨rfl, ?_⟩))⟩, trivial⟩ (by decide)) ?_
   rintro _ _ ⟨a18, c18, rfl, rfl⟩
   refine O.opE (.p rfl) (.appendO (T := (Rp.cells 10)) Tryz.underlying24 F.elem55 (by decide) rfl rfl (by repeat (first | exact zh | apply zt)) (by repeat (first | exact zh | apply zt)) (by first | omega | (simp; done) | (simp; omega) | decide) (by first | omega | (simp; done) | (simp; omega) | decide)) ?_
   rintro _ _ ⟨a19, c19, rfl, rfl⟩
   refine O.q 1 rfl <| O.nil <| S.inBlock <| S.region rfl <| O.op (.p rfl) (.add rfl rfl (IntWalk.i64_in _ (by omega))) <| O.q 1 rfl <| O.nil <| S.listPut (G := EvdG tys) (k' := 10) rfl (by repeat (first | exact zh | apply zt)) (by repeat (first | exact zh | apply zt)) (by repeat (first | exact zh | apply zt)) ?_
   simp only [List.length_singleton]
   rw [show css.length + 1 = (x.1 ++ [q.1]).length from by simp [hcl]]
   exact S.pw (ih (i + 1) ((x.1 ++ [q.1], q.2)) ((a19, c19)) (by exact ⟨by omega, someP_next hx2 eg hq⟩) (by omega))
 ·clear ih
  have hi : i = c.1.toNat := by omega
  subst hi
  refine S.exit rfl <| S.seq <| S.region rfl <| O.q 2 rfl <| O.nil ?_
  exact S.rt Tryz.results86 rfl hR ⟨x, a.1, a.2, hrow.trans hx2, rfl, rfl⟩
theorem someN_c {r : Fr} {b : Nat} {s : RS} (hl : s.rest.length ≤ 1000000000) :
  Con Tryz.prog 88 #[.agg #[.pointer (some ⟨b, 0, none⟩)], .func (.func 89) #[.pointer (some ⟨b, 0, none⟩)] #[]] r [RdP 226 b s] (RetP (fun v η => ∃ p a c, rowP numP s = some p ∧ v = .slice a p.1.length c ∧ η = [OwnP Rp.i64 3 (.slice a p.1.length c) p.1, RdP 226 b p.2]) (fun ch η => rowP numP s = none ∧ ch = errP 32 4 ∧ η = [])) := by
 refine Con.of (n := 22) _ rfl Tryz.func88 rfl rfl rfl fun g hg R hR => ?_
 obtain ⟨c, hc⟩ : ∃ c, s.count 1073741824 = c := ⟨_, rfl⟩
 have lc : c.2.rest.length ≤ 1000000000 := by rw [← hc]; exact Nat.le_trans (RS.count_len _ _) hl
 obtain ⟨n0, n8⟩ : 0 ≤ c.1 ∧ c.1 ≤ 1073741824 := by rw [← hc]; exact RS.count_bd _ _ (by omega)
 have hrow : rowP numP s = someP numP c.1.toNat c.2 := by unfold rowP; rw [hc]
 refine S.seq <| S.region rfl <| O.opE (.p rfl) (.box (cs := [_]) rfl rfl) ?_
 rintro _ _ ⟨b2, rfl, rfl⟩
 refine O.q 1 rfl <| O.nil <| S.seq <| S.frzO (by repeat (first | exact zh | apply zt)) fun g hs hm hb2 => ?_
 replace hg := Fr.sub_trans hg hs
 replace hR := melted hR hm
 clear hs hm
 refine S.addNil (T := Rp.i64) (e := 3) ?_
 refine S.region rfl <| O.q 1 rfl <| O.nil <| S.seq <| S.seq <| S.region rfl <| O.op (.p rfl) (.fieldAddr F.fld129x0 rfl) <| O.op (.p rfl) (.loadAt F.flat126 rfl hb2 rfl) ?_
 refine O.callS (.p rfl) rfl F.ok127 rfl rfl (by repeat (first | exact zh | apply zt)) (rdCount_c _) ?_
 rintro v8 _ ⟨rfl, rfl⟩
 try simp only [zx1, zx2, zx3]
 refine O.q 1 rfl <| O.nil (S.block ?_)
 rw [hc]
 refine S.loopK3 (ι := Nat) (κ := List Int × RS) (υ := Option Addr × Nat) (fun i x a => i ≤ c.1.toNat ∧ someP numP i c.2 = some x) (fun i x a => [(9, .int .i64 (i : Int)), (5, .slice a.1 x.1.length a.2)]) [(1, _), (2, _), (8, _)] (fun i x a => [RdP 226 b x.2, OwnP Rp.i64 3 (.slice a.1 x.1.length a.2) x.1]) (fun i x a => c.1.toNat - i) (0) (([], c.2)) ((none, 0)) (by exact ⟨by omega, rfl⟩) (.cons rfl (.cons rfl (.nil))) (.cons rfl (.cons rfl (.cons rfl (.nil)))) rfl fun i x a hx ih => ?_
 have hm1 := meltRefl (g := g)
 obtain ⟨hx1, hx2⟩ := hx
 have hxl := someP_count hx2
 have hxr := someP_len numP_len hx2
 obtain ⟨hn1, hn2⟩ := RS.num_in x.2
 refine S.seq <| S.region rfl <| O.op (.p rfl) (.lss rfl rfl) <| O.nil (S.seq ?_)
 first | refine S.condD rfl (fun h10 => ?_) (fun h10 => ?_) | refine S.condB rfl (fun h10 => ?_) (fun h10 => ?_)
 ·have hi : i < c.1.toNat := by omega
  cases eg : x.2.good with
  | false =>
   have hno : rowP numP s = none := hrow.trans (someP_none (someP_bad hx2 eg) (by omega))
   refine S.skip <| S.seq <| S.block <| S.seq <| S.region rfl <| O.op (.p rfl) (.fieldAddr F.fld129x0 rfl) <| O.op (.p rfl) (.loadAt F.flat126 rfl hb2 rfl) ?_
   refine O.callS (.p rfl) rfl F.ok188 rfl rfl (by repeat (first | exact zh | apply zt)) rdGood_c ?_
   rintro v13 _ ⟨rfl, rfl⟩
   try simp only [zx1, zx2, zx3]
   refine O.sF 13 rfl (by exact eg) ?_
   refine O.callP0 (.p rfl) rfl F.ok90 rfl rfl (imust_c _) (fun ch η' w hX hW => by (obtain ⟨hb, rfl, rfl⟩ := hX; exact hR _ _ w ⟨hno, rfl, rfl⟩ hW.drop_all)) ?_
   rintro v14 _ ⟨hb14, rfl, rfl⟩
   try simp only [zx1, zx2, zx3]
   exact absurd hb14 (by decide)
  | true =>
   refine S.skip <| S.seq <| S.block <| S.seq <| S.region rfl <| O.op (.p rfl) (.fieldAddr F.fld129x0 rfl) <| O.op (.p rfl) (.loadAt F.flat126 rfl hb2 rfl) ?_
   refine O.callS (.p rfl) rfl F.ok188 rfl rfl (by repeat (first | exact zh | apply zt)) rdGood_c ?_
   rintro v13 _ ⟨rfl, rfl⟩
   try simp only [zx1, zx2, zx3]
   refine O.sT 13 rfl (by exact eg) ?_
   refine O.callP0 (.p rfl) rfl F.ok90 rfl rfl (imust_c _) (fun ch η' w hX hW => by (exact absurd hX.1 (by decide))) ?_
   rintro v14 _ ⟨hb14, rfl, rfl⟩
   try simp only [zx1, zx2, zx3]
   refine O.nil <| S.region rfl <| O.q 2 rfl <| O.callS (.p rfl) rfl F.ok89 rfl rfl (by repeat (first | exact zh | apply zt)) rdNumber_c ?_
   rintro v17 _ ⟨rfl, rfl⟩
   try simp only [zx1, zx2, zx3]
   refine O.opE (.p rfl) (.litP (T := Rp.i64) (ys := [_]) Tryz.underlying25 F.elem3 (by decide) rfl rfl ⟨⟨rfl, by first | assumption | (constructor <;> omega)⟩, trivial⟩ (by decide)) ?_
   rintro _ _ ⟨a18, c18, rfl, rfl⟩
   refine O.opE (.p rfl) (.appendO (T := Rp.i64) Tryz.underlying25 F.elem3 (by decide) rfl rfl (by repeat (first | exact zh | apply zt)) (by repeat (first | exact zh | apply zt)) (by first | omega | (simp; done) | (simp; omega) | decide) (by first | omega | (simp; done) | (simp; omega) | decide)) ?_
   rintro _ _ ⟨a19, c19, rfl, rfl⟩
   refine O.q 1 rfl <| O.nil <| S.inBlock <| S.region rfl <| O.op (.p rfl) (.add rfl rfl (IntWalk.i64_in _ (by omega))) <| O.q 1 rfl <| O.nil ?_
   rw [show x.1.length + [x.2.num.1].length = (x.1 ++ [x.2.num.1]).length from by simp]
   exact S.pw (ih (i + 1) ((x.1 ++ [x.2.num.1], x.2.num.2)) ((a19, c19)) (by exact ⟨by omega, someP_next hx2 eg rfl⟩) (by omega))
 ·clear ih
  have hi : i = c.1.toNat := by omega
  subst hi
  refine S.exit rfl <| S.seq <| S.region rfl <| O.q 2 rfl <| O.nil ?_
  exact S.rt Tryz.results88 rfl hR ⟨x, a.1, a.2, hrow.trans hx2, rfl, rfl⟩
end Go.Proofs.YtodhbhanmdfdeaaGreat
