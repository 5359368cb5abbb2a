/- Texts of this proof, one behind the other. -/
import Derived.Test.YtodhbhanmdfdeaaGreatQFc
import Derived.Test.YtodhbhanmdfdeaaGreatQGet5
import Derived.Test.YtodhbhanmdfdeaaGreatQLent1
import Derived.Test.YtodhbhanmdfdeaaGreatQSpAuto
import Derived.Test.YtodhbhanmdfdeaaGreatQSpRs3
section
/- Texts of this proof. -/
open Go Go.Sp
set_option maxRecDepth 100000
attribute [local irreducible] obj Own OwnP
namespace Go.Proofs.YtodhbhanmdfdeaaGreat
def SetK (b : List UInt8) (v : Value) (η : List SProp) : Prop := ∃ l a c, sGet b = some l ∧ v = .slice a l.length c ∧ η = [ListP (RecG tys) 74 (.slice a l.length c) l]
theorem recG_sat {x : RecT} {v3 v5 v6 : Value} {m : Fr} (h : recOk x = true) (hs : Sat (recWs x v3 v5 v6) m) : (RecG tys).own (recV x v3 v5 v6) x m := by
 have h1 := shaped_iff.1 (recOk_iff.1 h).1
 have hd := dotOk_iff.1 h1.2.2.1
 simp only [rDot] at hd
 exact RecG.mk (by omega) ⟨by omega, by omega⟩ ⟨by omega, by omega⟩ hs
theorem sget1_c {r : Fr} {p : Nat} {va : Value} {b : List UInt8} (hp : At r ⟨p, 0, none⟩ [va]) (ha : Arr Rp.u8 r va b) (hl : b.length ≤ 1000000000) :
  Con Tryz.prog 126 (#[] ++ #[] ++ #[.pointer (some ⟨p, 0, none⟩)]) r [] (RetP (fun v η => SetK b v η) (fun ch η => ∃ z, ch = errP 32 z ∧ (sGet b = none ∧ z = 4) ∧ η = [])) := by
 refine Con.of (n := 37) [.pointer (some ⟨p, 0, none⟩)] rfl Tryz.func126 rfl rfl rfl fun g hg R hR => ?_
 have hp := hp.mono hg
 have ha := ha.mono hg
 have hbd := ha.bound
 obtain ⟨a1, c1, rfl⟩ := ha.shape
 refine S.seq <| S.region rfl <| O.q 1 rfl <| O.nil <| S.seq <| S.region rfl <| O.op (.p rfl) (.loadAt F.flat31 rfl hp rfl) ?_
 refine O.call0 (.p rfl) rfl F.ok81 rfl rfl (rdNew_c (by first | assumption | exact Arr.mono hg (by assumption) | exact Arr.left (by assumption) | exact Arr.left (Arr.mono hg (by assumption))) (by first | omega | (simp; done) | (simp; omega) | decide)) ?_
 rintro v7 _ ⟨b7, rfl, rfl⟩
 try simp only [zx1, zx2, zx3]
 refine O.q 1 rfl <| O.nil <| S.seq <| S.region rfl <| O.q 1 rfl <| O.nil <| S.seq <| S.seq <| S.region rfl <| O.q 1 rfl <| O.op (.p rfl) (.loadAt F.flat31 rfl hp rfl) ?_
 refine O.op (.p rfl) (.len rfl Tryz.underlying31 rfl) <| O.op (.p rfl) (.quo rfl rfl (by omega)) <| O.slot 11 (v' := .int .i64 ((b.length / 8 : Nat) : Int)) rfl (by rw [Int.tdiv_eq_ediv_of_nonneg (by omega), IntWalk.i64_in _ (by omega)]; rfl) ?_
 refine O.callS (.p rfl) rfl F.ok127 rfl rfl (by repeat (first | exact zh | apply zt)) (rdCount_c _) ?_
 rintro v12 _ ⟨rfl, rfl⟩
 try simp only [zx1, zx2, zx3]
 refine O.q 1 rfl <| O.nil (S.block ?_)
 obtain ⟨c, hc⟩ : ∃ c, (RS.mk true b).count ((b.length / 8 : Nat) : Int) = c := ⟨_, rfl⟩
 rw [hc]
 have lc : c.2.rest.length ≤ 1000000000 := by rw [← hc]; exact Nat.le_trans (RS.count_len _ _) hl
 obtain ⟨n0, n8⟩ : 0 ≤ c.1 ∧ c.1 ≤ ((b.length / 8 : Nat) : Int) := by rw [← hc]; exact RS.count_bd _ _ (by omega)
 refine S.listNil (RecG tys) 74 ?_
 refine S.loopK3 (ι := Nat) (κ := List RecT × RS) (υ := Option Addr × Nat) (fun i x a => i ≤ c.1.toNat ∧ setP b.length i c.2 = some x) (fun i x a => [(13, .int .i64 (i : Int)), (3, .slice a.1 x.1.length a.2)]) [(0, _), (2, _), (12, _)] (fun i x a => [ListP (RecG tys) 74 (.slice a.1 x.1.length a.2) x.1, RdP 226 b7 x.2]) (fun i x a => c.1.toNat - i) (0) (([], c.2)) ((none, 0)) (by exact ⟨by omega, rfl⟩) (.cons rfl (.cons rfl (.nil))) (.cons rfl (.cons rfl (.cons rfl (.nil)))) rfl fun i x a hx ih => ?_
 have hm1 := meltRefl (g := g)
 obtain ⟨hx1, hx2⟩ := hx
 have hxl := (setP_bad hx2).2
 have hxr := setP_len hx2
 refine S.seq <| S.region rfl <| O.op (.p rfl) (.lss rfl rfl) <| O.nil (S.seq ?_)
 first | refine S.condD rfl (fun h14 => ?_) (fun h14 => ?_) | refine S.condB rfl (fun h14 => ?_) (fun h14 => ?_)
 ·have hi : i < c.1.toNat := by omega
  have hout := RS.bytes_out (b.length : Int) x.2
  cases e : recGet (x.2.bytes b.length).1 with
  | none =>
   have hno : sGet b = none := sGet_none hc (k := i + 1) (by omega) (setP_stop hx2 e)
   refine S.skip <| S.seq <| S.block <| S.seq <| S.region rfl <| O.q 1 rfl <| O.op (.p rfl) (.loadAt F.flat31 rfl hp rfl) ?_
   refine O.op (.p rfl) (.len rfl Tryz.underlying31 rfl) <| O.callS (.p rfl) rfl F.ok129 rfl rfl (by repeat (first | exact zh | apply zt)) (rdBytes_c _ (by first | omega | (simp; done) | (simp; omega) | decide)) ?_
   rintro v19 _ ⟨a19, c19, rfl, rfl⟩
   try simp only [zx1, zx2, zx3]
   refine O.frzA (by repeat (first | exact zh | apply zt)) fun g hs hm ha19 => ?_
   replace hg := Fr.sub_trans hg hs
   replace hR := melted hR hm
   try replace hp := hp.mono hs
   try replace ha := ha.mono hs
   replace hm1 := meltTrans hm1 hm
   clear hs hm
   refine O.call0 (.p rfl) rfl F.ok128 rfl rfl ((rGetN_c e ha19 (by omega))) ?_
   rintro v20 _ ⟨rfl, rfl⟩
   try simp only [zx1, zx2, zx3]
   refine O.q 3 rfl <| O.opE (.p rfl) (.alloc (cs := [.string ⟨#[]⟩, .int .i64 0, .int .i64 0, .slice none 0 0, .bool false, .slice none 0 0, .slice none 0 0]) Tryz.zeroValue74 rfl) ?_
   rintro _ _ ⟨b4, rfl, rfl⟩
   refine O.opU rfl (.storeObj (by kernel_rfl) rfl rfl rfl rfl (by repeat (first | exact zh | apply zt)) (by first | (simp; done) | (simp [Value.cells]; done))) ?_
   refine O.q 1 rfl <| O.nil <| S.seq <| S.region rfl <| O.q 1 rfl <| O.op (.p rfl) (.eql rfl rfl) <| O.sF 24 rfl (by decide) ?_
   refine O.callP0 (.p rfl) rfl F.ok130 rfl rfl (smust_c _) (fun ch η' w hX hW => by (obtain ⟨_, rfl, rfl⟩ := hX; exact hR _ _ w ⟨4, rfl, ⟨hno, rfl⟩, rfl⟩ hW.drop_all)) ?_
   rintro v25 _ ⟨hb25, rfl, rfl⟩
   try simp only [zx1, zx2, zx3]
   exact absurd hb25 (by simp)
  | some z =>
   have hok := (recGet_iff.1 e).1
   refine S.skip <| S.seq <| S.block <| S.seq <| S.region rfl <| O.q 1 rfl <| O.op (.p rfl) (.loadAt F.flat31 rfl hp rfl) ?_
   refine O.op (.p rfl) (.len rfl Tryz.underlying31 rfl) <| O.callS (.p rfl) rfl F.ok129 rfl rfl (by repeat (first | exact zh | apply zt)) (rdBytes_c _ (by first | omega | (simp; done) | (simp; omega) | decide)) ?_
   rintro v19 _ ⟨a19, c19, rfl, rfl⟩
   try simp only [zx1, zx2, zx3]
   refine O.frzA (by repeat (first | exact zh | apply zt)) fun g hs hm ha19 => ?_
   replace hg := Fr.sub_trans hg hs
   replace hR := melted hR hm
   try replace hp := hp.mono hs
   try replace ha := ha.mono hs
   replace hm1 := meltTrans hm1 hm
   clear hs hm
   refine O.call0 (.p rfl) rfl F.ok128 rfl rfl ((rGetY_c e ha19 (by omega))) ?_
   rintro v20 _ ⟨a3, c3, a5, c5, a6, c6, rfl, rfl⟩
   try simp only [zx1, zx2, zx3]
   refine O.q 3 rfl <| O.opE (.p rfl) (.alloc (cs := [.string ⟨#[]⟩, .int .i64 0, .int .i64 0, .slice none 0 0, .bool false, .slice none 0 0, .slice none 0 0]) Tryz.zeroValue74 rfl) ?_
   rintro _ _ ⟨b4, rfl, rfl⟩
   refine O.opU rfl (.storeObj (by kernel_rfl) rfl rfl rfl rfl (by repeat (first | exact zh | apply zt)) (by first | (simp; done) | (simp [Value.cells]; done))) ?_
   refine O.q 1 rfl <| O.nil <| S.seq <| S.region rfl <| O.q 1 rfl <| O.op (.p rfl) (.eql rfl rfl) <| O.sT 24 rfl (by decide) ?_
   refine O.callP0 (.p rfl) rfl F.ok130 rfl rfl (smust_c _) (fun ch η' w hX hW => by (exact absurd hX.1 (by simp))) ?_
   rintro v25 _ ⟨hb25, rfl, rfl⟩
   try simp only [zx1, zx2, zx3]
   refine O.nil <| S.listOpen (k' := 7) rfl (by repeat (first | exact zh | apply zt)) fun css hcl => ?_
   rw [← hcl]
   refine S.region rfl <| O.q 1 rfl <| O.op (.p rfl) (.loA (news := [_, _, _, _, _, _, _]) Tryz.isAgg74) ?_
   refine O.opE (.p rfl) (.litP (T := (Rp.cells 7)) (ys := [_]) Tryz.underlying47 F.elem74 (by decide) rfl rfl ⟨⟨rfl, rfl, by first | (simp; done) | (intro v hv; simp [Value.cells] at hv; rcases hv with rfl | rfl <;> rfl) | (refine List.forall_mem_cons.2 ⟨rfl, ?_⟩; repeat (first | exact (fun _ h => absurd h List.not_mem_nil) | refine List.forall_mem_cons.2 ⟨rfl, ?_⟩))⟩, trivial⟩ (by decide)) ?_
   rintro _ _ ⟨a28, c28, rfl, rfl⟩
   refine O.opE (.p rfl) (.appendO (T := (Rp.cells 7)) Tryz.underlying47 F.elem74 (by decide) rfl rfl (by repeat (first | exact zh | apply zt)) (by repeat (first | exact zh | apply zt)) (by first | omega | (simp; done) | (simp; omega) | decide) (by first | omega | (simp; done) | (simp; omega) | decide)) ?_
   rintro _ _ ⟨a29, c29, rfl, rfl⟩
   refine O.q 1 rfl <| O.nil <| S.inBlock <| S.region rfl <| O.op (.p rfl) (.add rfl rfl (IntWalk.i64_in _ (by omega))) <| O.q 1 rfl <| O.nil <| S.foldS (A := (RecG tys).own (recV z (.slice a3 z.2.2.2.1.length c3) (.slice a5 z.2.2.2.2.2.1.length c5) (.slice a6 z.2.2.2.2.2.2.1.length c6)) z) (bs := recWs z (.slice a3 z.2.2.2.1.length c3) (.slice a5 z.2.2.2.2.2.1.length c5) (.slice a6 z.2.2.2.2.2.2.1.length c6)) (by repeat (first | exact zsn | (apply zsc; focus (repeat (first | exact zh | apply zt))))) (fun m h => recG_sat hok h) ?_
   refine S.listPut (G := RecG tys) (k' := 7) rfl (by repeat (first | exact zh | apply zt)) (by repeat (first | exact zh | apply zt)) (by repeat (first | exact zh | apply zt)) ?_
   simp only [List.length_singleton]
   rw [show css.length + 1 = (x.1 ++ [z]).length from by simp [hcl]]
   exact S.melt hm1 (S.pw (ih (i + 1) ((x.1 ++ [z], (x.2.bytes b.length).2)) ((a29, c29)) (by exact ⟨by omega, setP_next hx2 e⟩) (by omega)))
 ·clear ih
  have hi : i = c.1.toNat := by omega
  subst hi
  have hgt := sGet_eq hc hx2
  obtain ⟨l, s⟩ := x
  cases e1 : s.done with
  | false =>
   have hno : sGet b = none := by rw [hgt, if_neg (fun q => by rw [e1] at q; exact absurd q.1 (by decide))]
   refine S.exit rfl <| S.seq <| S.region rfl <| O.q 1 rfl <| O.callS (.p rfl) rfl F.ok91 rfl rfl (by repeat (first | exact zh | apply zt)) rdDone_c ?_
   rintro v32 _ ⟨rfl, rfl⟩
   try simp only [zx1, zx2, zx3]
   refine O.sF 32 rfl (by exact e1) ?_
   refine O.callP0 (.p rfl) rfl F.ok130 rfl rfl (smust_c _) (fun ch η' w hX hW => by (obtain ⟨_, rfl, rfl⟩ := hX; exact hR _ _ w ⟨4, rfl, ⟨hno, rfl⟩, rfl⟩ hW.drop_all)) ?_
   rintro v33 _ ⟨hb33, rfl, rfl⟩
   try simp only [zx1, zx2, zx3]
   exact absurd hb33 (by simp)
  | true =>
   refine S.exit rfl <| S.seq <| S.region rfl <| O.q 1 rfl <| O.callS (.p rfl) rfl F.ok91 rfl rfl (by repeat (first | exact zh | apply zt)) rdDone_c ?_
   rintro v32 _ ⟨rfl, rfl⟩
   try simp only [zx1, zx2, zx3]
   refine O.sT 32 rfl (by exact e1) ?_
   refine O.callP0 (.p rfl) rfl F.ok130 rfl rfl (smust_c _) (fun ch η' w hX hW => by (exact absurd hX.1 (by simp))) ?_
   rintro v33 _ ⟨hb33, rfl, rfl⟩
   try simp only [zx1, zx2, zx3]
   refine O.nil (S.seq ?_)
   have hg_q := hg
   have hR_q := hR
   try have hp_q := hp
   try have ha_q := ha
   refine S.frzH (B := ListP (RecG tys) 74 (.slice a.1 l.length a.2) l) (by repeat (first | exact zh | apply zt)) fun gq hsq ⟨mq, hmq, hsmq⟩ hbq => ?_
   replace hg := Fr.sub_trans hg hsq
   replace hR := backR hR hbq
   try replace hp := hp.mono hsq
   try replace ha := ha.mono hsq
   have hlr : Arr RecRp gq.h (.slice a.1 l.length a.2) l := (ListP.arr hmq).mono hsmq
   refine S.region rfl <| O.q 1 rfl <| O.callP0 (.p rfl) rfl F.ok116 rfl rfl ((rowOf_c hlr (by simp only at hxl; omega))) (fun ch η' w hX hW => by (obtain ⟨hb, rfl, rfl⟩ := hX; exact hR _ _ w ⟨4, rfl, ⟨by rw [hgt, if_neg (fun q => hb q.2)], rfl⟩, rfl⟩ hW.drop_all)) ?_
   rintro v35 _ ⟨hright, b35, rfl, rfl⟩
   try simp only [zx1, zx2, zx3]
   refine O.nil <| S.seq <| S.back hbq ?_
   replace hg := hg_q
   replace hR := hR_q
   try replace hp := hp_q
   try replace ha := ha_q
   clear hg_q hR_q
   have hyes : sGet b = some l := by rw [hgt, if_pos ⟨e1, hright⟩]
   refine S.region rfl <| O.q 2 rfl <| O.nil ?_
   exact S.rt Tryz.results126 rfl hR ⟨l, a.1, a.2, hyes, rfl, rfl⟩
def set_t (b : List UInt8) (v : Value) (η : List SProp) : Prop := (∃ u, SetK b u η ∧ v = .tuple #[u, .int .i64 0]) ∨ (sGet b = none ∧ v = .tuple #[.slice none 0 0, .int .i64 4] ∧ η = [])
theorem sTriedG_c {r : Fr} {first cap : Array Value} {b : List UInt8} (con : Con Tryz.prog 126 (first ++ #[] ++ cap) r [] (RetP (fun v η => SetK b v η) (fun ch η => ∃ z, ch = errP 32 z ∧ (sGet b = none ∧ z = 4) ∧ η = []))) (h1 : (Value.func (.func 126) first cap).oneCell' = true := by rfl) :
  Con Tryz.prog 102 #[.func (.func 126) first cap] r [] (Ret fun v η => set_t b v η) :=
 (triedSS_c F.ok126 h1 (fun _ _ h => by obtain ⟨l, a, c, _, rfl, _⟩ := h; rfl) con).mono (Ret.imp fun v η h => by
  rcases h with ⟨u, h2, h3⟩ | ⟨z, ⟨h2, rfl⟩, h3, h4⟩
  ·exact .inl ⟨u, h2, h3⟩
  ·exact .inr ⟨h2, h4, h3⟩)
theorem set_tY {b : List UInt8} {l : List RecT} {v : Value} {η : List SProp} (e : sGet b = some l) (h : set_t b v η) : ∃ a c, v = .tuple #[.slice a l.length c, .int .i64 0] ∧ η = [ListP (RecG tys) 74 (.slice a l.length c) l] := by
 rcases h with ⟨_, ⟨y, a, c, h1, rfl, rfl⟩, rfl⟩ | ⟨h1, _⟩
 ·rw [e] at h1; obtain rfl := Option.some.inj h1; exact ⟨a, c, rfl, rfl⟩
 ·rw [e] at h1; cases h1
theorem set_tN {b : List UInt8} {v : Value} {η : List SProp} (e : sGet b = none) (h : set_t b v η) : v = .tuple #[.slice none 0 0, .int .i64 4] ∧ η = [] := by
 rcases h with ⟨_, ⟨y, a, c, h1, _⟩, _⟩ | ⟨_, h1, h2⟩
 ·rw [e] at h1; cases h1
 ·exact ⟨h1, h2⟩
theorem sGet_c {r : Fr} {va : Value} {b : List UInt8} (ha : Arr Rp.u8 r va b) (hl : b.length ≤ 1000000000) : Con Tryz.prog 50 #[va] r [] (Ret fun v η => set_t b v η) := by
 refine Con.of (n := 8) _ rfl Tryz.func50 rfl rfl rfl fun g hg R hR => ?_
 have ha := ha.mono hg
 obtain ⟨a1, c1, rfl⟩ := ha.shape
 cases e : sGet b with
 | some x =>
  refine S.seq <| S.region rfl <| O.opE (.p rfl) (.box (cs := [_]) rfl rfl) ?_
  rintro _ _ ⟨b1, rfl, rfl⟩
  refine O.frzO (by repeat (first | exact zh | apply zt)) fun g hs hm hb1 => ?_
  replace hg := Fr.sub_trans hg hs
  replace hR := melted hR hm
  try replace ha := ha.mono hs
  clear hs hm
  refine O.q 2 rfl <| O.nil <| S.seq <| S.region rfl <| O.op (.p rfl) (.mkFunc rfl rfl) <| O.call0 (.p rfl) rfl F.ok102 rfl rfl (((sTriedG_c (sget1_c hb1 ha hl)).mono (Ret.imp fun _ _ h => set_tY e h))) ?_
  rintro v5 _ ⟨a5, c5, rfl, rfl⟩
  try simp only [zx1, zx2, zx3]
  refine O.q 4 rfl <| O.nil <| S.ret2 Tryz.results50 rfl rfl fun w hw => Holds.end_ hR hw ?_
  exact pk (.inl ⟨_, ⟨x, a5, c5, e, rfl, rfl⟩, rfl⟩)
 | none =>
  refine S.seq <| S.region rfl <| O.opE (.p rfl) (.box (cs := [_]) rfl rfl) ?_
  rintro _ _ ⟨b1, rfl, rfl⟩
  refine O.frzO (by repeat (first | exact zh | apply zt)) fun g hs hm hb1 => ?_
  replace hg := Fr.sub_trans hg hs
  replace hR := melted hR hm
  try replace ha := ha.mono hs
  clear hs hm
  refine O.q 2 rfl <| O.nil <| S.seq <| S.region rfl <| O.op (.p rfl) (.mkFunc rfl rfl) <| O.call0 (.p rfl) rfl F.ok102 rfl rfl (((sTriedG_c (sget1_c hb1 ha hl)).mono (Ret.imp fun _ _ h => set_tN e h))) ?_
  rintro v5 _ ⟨rfl, rfl⟩
  try simp only [zx1, zx2, zx3]
  refine O.q 4 rfl <| O.nil <| S.ret2 Tryz.results50 rfl rfl fun w hw => Holds.end_ hR hw ?_
  exact pk (.inr ⟨e, rfl, rfl⟩)
end Go.Proofs.YtodhbhanmdfdeaaGreat
end
section
/- Texts of this proof. -/
open Go Go.Sp
set_option maxRecDepth 100000
attribute [local irreducible] obj Own OwnP
namespace Go.Proofs.YtodhbhanmdfdeaaGreat
theorem rootG_sat {x : RootT} {v3 v4 : Value} {m : Fr} (h : rootOk x = true) (hs : Sat (rootWs x v3 v4) m) : (RootG tys).own (rootV x v3 v4) x m := by
 obtain ⟨h1, _⟩ := rootOk_iff.1 h
 have h2 := rootShape_iff.1 h1
 exact RootG.mk ⟨by omega, by omega⟩ ⟨by omega, by omega⟩ ⟨by omega, by omega⟩ hs
theorem evdG_sat {x : EvdT} {v3 v4 v8 v9 : Value} {m : Fr} (h : evdOk x = true) (hs : Sat (evdWs x v3 v4 v8 v9) m) : (EvdG tys).own (evdV x v3 v4 v8 v9) x m := by
 obtain ⟨h1, h2, _⟩ := evdOk_iff.1 h
 have h3 := rootShape_iff.1 (rootOk_iff.1 h1).1
 have h4 := rootShape_iff.1 (rootOk_iff.1 h2).1
 exact EvdG.mk ⟨by omega, by omega⟩ ⟨by omega, by omega⟩ ⟨by omega, by omega⟩ ⟨by omega, by omega⟩ ⟨by omega, by omega⟩ ⟨by omega, by omega⟩ hs
theorem toldSS_c {r : Fr} {a : Option Addr} {n c : Nat} {z : Int} : Con Tryz.prog 190 #[.slice a n c, .int .i64 z] r [] (RetP (fun v η => z = 0 ∧ v = .slice a n c ∧ η = []) (fun ch η => z ≠ 0 ∧ ch = errP 32 4 ∧ η = [])) := by
 refine Con.of (n := 9) _ rfl Tryz.func190 rfl rfl rfl fun g hg R hR => ?_
 refine S.seq <| S.region rfl <| O.q 1 rfl <| O.nil <| S.seq <| S.region rfl <| O.q 1 rfl <| O.op (.p rfl) (.eql rfl rfl) <| O.callP0 (.p rfl) rfl F.ok90 rfl rfl (imust_c _) (fun ch η' w hX hW => by (obtain ⟨hb, rfl, rfl⟩ := hX; exact hR _ _ w ⟨of_decide_eq_false hb, rfl, rfl⟩ hW.drop_all)) ?_
 rintro v7 _ ⟨hb7, rfl, rfl⟩
 try simp only [zx1, zx2, zx3]
 refine O.nil <| S.seq <| S.region rfl <| O.q 2 rfl <| O.nil ?_
 exact S.rt Tryz.results190 rfl hR ⟨of_decide_eq_true hb7, rfl, rfl⟩
theorem toldR_c {r : Fr} {z0 z1 z2 : Int} {a3 a4 : Option Addr} {n3 c3 n4 c4 : Nat} {z : Int} : Con Tryz.prog 191 #[.agg #[.int .i64 z0, .int .i64 z1, .int .i64 z2, .slice a3 n3 c3, .slice a4 n4 c4], .int .i64 z] r [] (RetP (fun v η => z = 0 ∧ v = .agg #[.int .i64 z0, .int .i64 z1, .int .i64 z2, .slice a3 n3 c3, .slice a4 n4 c4] ∧ η = []) (fun ch η => z ≠ 0 ∧ ch = errP 32 4 ∧ η = [])) := by
 refine Con.of (n := 9) _ rfl Tryz.func191 rfl rfl rfl fun g hg R hR => ?_
 refine S.seq <| S.region rfl <| O.opE (.p rfl) (.box (cs := [_, _, _, _, _]) rfl rfl) ?_
 rintro _ _ ⟨b2, rfl, rfl⟩
 refine O.opE (.p rfl) (.alloc (cs := [.int .i64 0, .int .i64 0, .int .i64 0, .slice none 0 0, .slice none 0 0]) Tryz.zeroValue52 rfl) ?_
 rintro _ _ ⟨b4, rfl, rfl⟩
 refine O.nil <| S.seq <| S.region rfl <| O.q 1 rfl <| O.op (.p rfl) (.eql rfl rfl) <| O.callP0 (.p rfl) rfl F.ok90 rfl rfl (imust_c _) (fun ch η' w hX hW => by (obtain ⟨hb, rfl, rfl⟩ := hX; exact hR _ _ w ⟨of_decide_eq_false hb, rfl, rfl⟩ hW.drop_all)) ?_
 rintro v7 _ ⟨hb7, rfl, rfl⟩
 try simp only [zx1, zx2, zx3]
 refine O.nil <| S.seq <| S.region rfl <| O.op (.p rfl) (.loA (news := [_, _, _, _, _]) Tryz.isAgg52) ?_
 refine O.opU rfl (.storeObj (by kernel_rfl) rfl rfl rfl rfl (by repeat (first | exact zh | apply zt)) (by first | (simp; done) | (simp [Value.cells]; done))) ?_
 refine O.nil <| S.retCellAgg Tryz.results191 Tryz.isAgg52 (by kernel_rfl) rfl (by repeat (first | exact zh | apply zt)) fun w hw => Holds.end_ hR hw ?_
 exact pk ⟨of_decide_eq_true hb7, rfl, rfl⟩
theorem toldE_c {r : Fr} {z0 z1 z2 z5 z6 z7 : Int} {a3 a4 a8 a9 : Option Addr} {n3 c3 n4 c4 n8 c8 n9 c9 : Nat} {z : Int} : Con Tryz.prog 193 #[.agg #[.int .i64 z0, .int .i64 z1, .int .i64 z2, .slice a3 n3 c3, .slice a4 n4 c4, .int .i64 z5, .int .i64 z6, .int .i64 z7, .slice a8 n8 c8, .slice a9 n9 c9], .int .i64 z] r [] (RetP (fun v η => z = 0 ∧ v = .agg #[.int .i64 z0, .int .i64 z1, .int .i64 z2, .slice a3 n3 c3, .slice a4 n4 c4, .int .i64 z5, .int .i64 z6, .int .i64 z7, .slice a8 n8 c8, .slice a9 n9 c9] ∧ η = []) (fun ch η => z ≠ 0 ∧ ch = errP 32 4 ∧ η = [])) := by
 refine Con.of (n := 9) _ rfl Tryz.func193 rfl rfl rfl fun g hg R hR => ?_
 refine S.seq <| S.region rfl <| O.opE (.p rfl) (.box (cs := [_, _, _, _, _, _, _, _, _, _]) rfl rfl) ?_
 rintro _ _ ⟨b2, rfl, rfl⟩
 refine O.opE (.p rfl) (.alloc (cs := [.int .i64 0, .int .i64 0, .int .i64 0, .slice none 0 0, .slice none 0 0, .int .i64 0, .int .i64 0, .int .i64 0, .slice none 0 0, .slice none 0 0]) Tryz.zeroValue55 rfl) ?_
 rintro _ _ ⟨b4, rfl, rfl⟩
 refine O.nil <| S.seq <| S.region rfl <| O.q 1 rfl <| O.op (.p rfl) (.eql rfl rfl) <| O.callP0 (.p rfl) rfl F.ok90 rfl rfl (imust_c _) (fun ch η' w hX hW => by (obtain ⟨hb, rfl, rfl⟩ := hX; exact hR _ _ w ⟨of_decide_eq_false hb, rfl, rfl⟩ hW.drop_all)) ?_
 rintro v7 _ ⟨hb7, rfl, rfl⟩
 try simp only [zx1, zx2, zx3]
 refine O.nil <| S.seq <| S.region rfl <| O.op (.p rfl) (.loA (news := [_, _, _, _, _, _, _, _, _, _]) Tryz.isAgg55) ?_
 refine O.opU rfl (.storeObj (by kernel_rfl) rfl rfl rfl rfl (by repeat (first | exact zh | apply zt)) (by first | (simp; done) | (simp [Value.cells]; done))) ?_
 refine O.nil <| S.retCellAgg Tryz.results193 Tryz.isAgg55 (by kernel_rfl) rfl (by repeat (first | exact zh | apply zt)) fun w hw => Holds.end_ hR hw ?_
 exact pk ⟨of_decide_eq_true hb7, rfl, rfl⟩
theorem rall_c {r : Fr} {b : Nat} {s : RS} (hl : s.rest.length ≤ 1000000000) : Con Tryz.prog 189 #[.agg #[.pointer (some ⟨b, 0, none⟩)]] r [RdP 226 b s] (Ret fun u η => ∃ a c, u = .slice a (s.bytes top64).1.length c ∧ η = [RdP 226 b (s.bytes top64).2, OwnP Rp.u8 5 (.slice a (s.bytes top64).1.length c) (s.bytes top64).1]) := by
 refine Con.of (n := 6) _ rfl Tryz.func189 rfl rfl rfl fun g hg R hR => ?_
 refine S.seq <| S.region rfl <| O.opE (.p rfl) (.box (cs := [_]) rfl rfl) ?_
 rintro _ _ ⟨b1, rfl, rfl⟩
 refine O.q 1 rfl <| O.nil <| S.seq <| S.region rfl <| O.op (.p rfl) (.fieldObj F.fld129x0 rfl) <| O.op (.p rfl) (.lo F.flat126) ?_
 refine O.callS (.p rfl) rfl F.ok129 rfl rfl (by repeat (first | exact zh | apply zt)) (rdBytes_c _ (by first | omega | (simp; done) | (simp; omega) | decide)) ?_
 rintro v5 _ ⟨a5, c5, rfl, rfl⟩
 try simp only [zx1, zx2, zx3]
 refine O.q 1 rfl <| O.nil ?_
 exact S.rt Tryz.results189 rfl hR ⟨a5, c5, rfl, rfl⟩
theorem gleaf_c {r : Fr} {b : Nat} {s : RS} (hl : s.rest.length ≤ 1000000000) : Con Tryz.prog 83 #[.agg #[.pointer (some ⟨b, 0, none⟩)]] r [RdP 226 b s] (RetP (fun v η => ∃ p a c, leafP s = some p ∧ v = .agg #[.string (str p.1.1), .slice a p.1.2.1.length c] ∧ η = [(LeafG tys).own [.string (str p.1.1), .slice a p.1.2.1.length c] p.1, RdP 226 b p.2]) (fun ch η => leafP s = none ∧ ch = errP 32 4 ∧ η = [])) := by
 refine Con.of (n := 15) _ rfl Tryz.func83 rfl rfl rfl fun g hg R hR => ?_
 have hk1 := RS.bytes_out top64 s
 have hk2 := RS.bytes_len top64 s
 have hk3 := RS.bytes_out top64 (s.bytes top64).2
 cases e : sGet ((s.bytes top64).2.bytes top64).1 with
 | none =>
  have hno : leafP s = none := by unfold leafP; rw [e]; rfl
  refine S.seq <| S.region rfl <| O.opE (.p rfl) (.box (cs := [_]) rfl rfl) ?_
  rintro _ _ ⟨b1, rfl, rfl⟩
  refine O.opE (.p rfl) (.alloc (cs := [.string ⟨#[]⟩, .slice none 0 0]) Tryz.zeroValue49 rfl) ?_
  rintro _ _ ⟨b2, rfl, rfl⟩
  refine O.nil <| S.seq <| S.region rfl <| O.op (.p rfl) (.loA (news := [_]) Tryz.isAgg129) ?_
  refine O.callS (.p rfl) rfl F.ok189 rfl rfl (by repeat (first | exact zh | apply zt)) (rall_c (by first | omega | (simp; done) | (simp; omega) | decide)) ?_
  rintro v5 _ ⟨a5, c5, rfl, rfl⟩
  try simp only [zx1, zx2, zx3]
  refine O.toStrO (.p rfl) Tryz.underlying31 Tryz.underlying5 Tryz.underlying9 rfl (by repeat (first | exact zh | apply zt)) ?_
  refine O.q 1 rfl <| O.nil <| S.seq <| S.region rfl <| O.q 1 rfl <| O.op (.p rfl) (.loA (news := [_]) Tryz.isAgg129) ?_
  refine O.callS (.p rfl) rfl F.ok189 rfl rfl (by repeat (first | exact zh | apply zt)) (rall_c (by first | omega | (simp; done) | (simp; omega) | decide)) ?_
  rintro v9 _ ⟨a9, c9, rfl, rfl⟩
  try simp only [zx1, zx2, zx3]
  refine O.frzA (by repeat (first | exact zh | apply zt)) fun g hs hm ha9 => ?_
  replace hg := Fr.sub_trans hg hs
  replace hR := melted hR hm
  clear hs hm
  refine O.call0 (.p rfl) rfl F.ok50 rfl rfl (((sGet_c ha9 (by omega)).mono (Ret.imp fun _ _ h => set_tN e h))) ?_
  rintro v10 _ ⟨rfl, rfl⟩
  try simp only [zx1, zx2, zx3]
  refine O.q 2 rfl <| O.callP0 (.p rfl) rfl F.ok190 rfl rfl (toldSS_c) (fun ch η' w hX hW => by (obtain ⟨hb, rfl, rfl⟩ := hX; exact hR _ _ w ⟨hno, rfl, rfl⟩ hW.drop_all)) ?_
  rintro v13 _ ⟨hb13, rfl, rfl⟩
  try simp only [zx1, zx2, zx3]
  exact absurd hb13 (by decide)
 | some l =>
  have hyes : leafP s = some (((s.bytes top64).1, l, ()), ((s.bytes top64).2.bytes top64).2) := by unfold leafP; rw [e]; rfl
  refine S.seq <| S.region rfl <| O.opE (.p rfl) (.box (cs := [_]) rfl rfl) ?_
  rintro _ _ ⟨b1, rfl, rfl⟩
  refine O.opE (.p rfl) (.alloc (cs := [.string ⟨#[]⟩, .slice none 0 0]) Tryz.zeroValue49 rfl) ?_
  rintro _ _ ⟨b2, rfl, rfl⟩
  refine O.nil <| S.seq <| S.region rfl <| O.op (.p rfl) (.loA (news := [_]) Tryz.isAgg129) ?_
  refine O.callS (.p rfl) rfl F.ok189 rfl rfl (by repeat (first | exact zh | apply zt)) (rall_c (by first | omega | (simp; done) | (simp; omega) | decide)) ?_
  rintro v5 _ ⟨a5, c5, rfl, rfl⟩
  try simp only [zx1, zx2, zx3]
  refine O.toStrO (.p rfl) Tryz.underlying31 Tryz.underlying5 Tryz.underlying9 rfl (by repeat (first | exact zh | apply zt)) ?_
  refine O.q 1 rfl <| O.nil <| S.seq <| S.region rfl <| O.q 1 rfl <| O.op (.p rfl) (.loA (news := [_]) Tryz.isAgg129) ?_
  refine O.callS (.p rfl) rfl F.ok189 rfl rfl (by repeat (first | exact zh | apply zt)) (rall_c (by first | omega | (simp; done) | (simp; omega) | decide)) ?_
  rintro v9 _ ⟨a9, c9, rfl, rfl⟩
  try simp only [zx1, zx2, zx3]
  refine O.frzA (by repeat (first | exact zh | apply zt)) fun g hs hm ha9 => ?_
  replace hg := Fr.sub_trans hg hs
  replace hR := melted hR hm
  clear hs hm
  refine O.call0 (.p rfl) rfl F.ok50 rfl rfl (((sGet_c ha9 (by omega)).mono (Ret.imp fun _ _ h => set_tY e h))) ?_
  rintro v10 _ ⟨a10, c10, rfl, rfl⟩
  try simp only [zx1, zx2, zx3]
  refine O.q 2 rfl <| O.callP0 (.p rfl) rfl F.ok190 rfl rfl (toldSS_c) (fun ch η' w hX hW => by (exact absurd rfl hX.1)) ?_
  rintro v13 _ ⟨hb13, rfl, rfl⟩
  try simp only [zx1, zx2, zx3]
  refine O.op (.p rfl) (.build (cs := [_, _]) Tryz.underlying49 rfl rfl rfl rfl rfl) <| O.opU rfl (.storeObj (by kernel_rfl) rfl rfl rfl rfl (by repeat (first | exact zh | apply zt)) (by first | (simp; done) | (simp [Value.cells]; done))) ?_
  refine O.nil <| S.foldS (A := (LeafG tys).own [.string (str (s.bytes top64).1), .slice a10 l.length c10] ((s.bytes top64).1, l, ())) (bs := [ListP (RecG tys) 74 (.slice a10 l.length c10) l]) (by repeat (first | exact zsn | (apply zsc; focus (repeat (first | exact zh | apply zt))))) (fun m h => LeafG.mk (by omega) h) ?_
  refine S.retCellAgg Tryz.results83 Tryz.isAgg49 (by kernel_rfl) rfl (by repeat (first | exact zh | apply zt)) fun w hw => Holds.end_ hR hw ?_
  exact pk ⟨_, a10, c10, hyes, rfl, rfl⟩
theorem gown_c {r : Fr} {b : Nat} {s : RS} (hl : s.rest.length ≤ 1000000000) : Con Tryz.prog 85 #[.agg #[.pointer (some ⟨b, 0, none⟩)]] r [RdP 226 b s] (RetP (fun v η => ∃ p a3 c3 a4 c4, ownP s = some p ∧ v = .agg (rootV p.1 (.slice a3 p.1.2.2.2.1.length c3) (.slice a4 p.1.2.2.2.2.1.length c4)).toArray ∧ η = [(RootG tys).own (rootV p.1 (.slice a3 p.1.2.2.2.1.length c3) (.slice a4 p.1.2.2.2.2.1.length c4)) p.1, RdP 226 b p.2]) (fun ch η => ownP s = none ∧ ch = errP 32 4 ∧ η = [])) := by
 refine Con.of (n := 9) _ rfl Tryz.func85 rfl rfl rfl fun g hg R hR => ?_
 have hk1 := RS.bytes_out top64 s
 cases e : rootGet (s.bytes top64).1 with
 | none =>
  have hno : ownP s = none := by unfold ownP; rw [e]; rfl
  refine S.seq <| S.region rfl <| O.opE (.p rfl) (.box (cs := [_]) rfl rfl) ?_
  rintro _ _ ⟨b1, rfl, rfl⟩
  refine O.opE (.p rfl) (.alloc (cs := [.int .i64 0, .int .i64 0, .int .i64 0, .slice none 0 0, .slice none 0 0]) Tryz.zeroValue52 rfl) ?_
  rintro _ _ ⟨b2, rfl, rfl⟩
  refine O.nil <| S.seq <| S.region rfl <| O.op (.p rfl) (.loA (news := [_]) Tryz.isAgg129) ?_
  refine O.callS (.p rfl) rfl F.ok189 rfl rfl (by repeat (first | exact zh | apply zt)) (rall_c (by first | omega | (simp; done) | (simp; omega) | decide)) ?_
  rintro v4 _ ⟨a4, c4, rfl, rfl⟩
  try simp only [zx1, zx2, zx3]
  refine O.frzA (by repeat (first | exact zh | apply zt)) fun g hs hm ha4 => ?_
  replace hg := Fr.sub_trans hg hs
  replace hR := melted hR hm
  clear hs hm
  refine O.call0 (.p rfl) rfl F.ok192 rfl rfl ((tGetN_c e ha4 (by omega))) ?_
  rintro v5 _ ⟨rfl, rfl⟩
  try simp only [zx1, zx2, zx3]
  refine O.q 2 rfl <| O.callP0 (.p rfl) rfl F.ok191 rfl rfl (toldR_c) (fun ch η' w hX hW => by (obtain ⟨hb, rfl, rfl⟩ := hX; exact hR _ _ w ⟨hno, rfl, rfl⟩ hW.drop_all)) ?_
  rintro v8 _ ⟨hb8, rfl, rfl⟩
  try simp only [zx1, zx2, zx3]
  exact absurd hb8 (by decide)
 | some x =>
  have hok := (rootGet_iff.1 e).1
  have hyes : ownP s = some (x, (s.bytes top64).2) := by unfold ownP; rw [e]; rfl
  refine S.seq <| S.region rfl <| O.opE (.p rfl) (.box (cs := [_]) rfl rfl) ?_
  rintro _ _ ⟨b1, rfl, rfl⟩
  refine O.opE (.p rfl) (.alloc (cs := [.int .i64 0, .int .i64 0, .int .i64 0, .slice none 0 0, .slice none 0 0]) Tryz.zeroValue52 rfl) ?_
  rintro _ _ ⟨b2, rfl, rfl⟩
  refine O.nil <| S.seq <| S.region rfl <| O.op (.p rfl) (.loA (news := [_]) Tryz.isAgg129) ?_
  refine O.callS (.p rfl) rfl F.ok189 rfl rfl (by repeat (first | exact zh | apply zt)) (rall_c (by first | omega | (simp; done) | (simp; omega) | decide)) ?_
  rintro v4 _ ⟨a4, c4, rfl, rfl⟩
  try simp only [zx1, zx2, zx3]
  refine O.frzA (by repeat (first | exact zh | apply zt)) fun g hs hm ha4 => ?_
  replace hg := Fr.sub_trans hg hs
  replace hR := melted hR hm
  clear hs hm
  refine O.call0 (.p rfl) rfl F.ok192 rfl rfl ((tGetY_c e ha4 (by omega))) ?_
  rintro v5 _ ⟨a3, c3, a4, c4, rfl, rfl⟩
  try simp only [zx1, zx2, zx3]
  refine O.q 2 rfl <| O.callP0 (.p rfl) rfl F.ok191 rfl rfl (toldR_c) (fun ch η' w hX hW => by (exact absurd rfl hX.1)) ?_
  rintro v8 _ ⟨hb8, rfl, rfl⟩
  try simp only [zx1, zx2, zx3]
  refine O.opU rfl (.storeObj (by kernel_rfl) rfl rfl rfl rfl (by repeat (first | exact zh | apply zt)) (by first | (simp; done) | (simp [Value.cells]; done))) ?_
  refine O.nil <| S.foldS (A := (RootG tys).own (rootV x (.slice a3 x.2.2.2.1.length c3) (.slice a4 x.2.2.2.2.1.length c4)) x) (bs := rootWs x (.slice a3 x.2.2.2.1.length c3) (.slice a4 x.2.2.2.2.1.length c4)) (by repeat (first | exact zsn | (apply zsc; focus (repeat (first | exact zh | apply zt))))) (fun m h => rootG_sat hok h) ?_
  refine S.retCellAgg Tryz.results85 Tryz.isAgg52 (by kernel_rfl) rfl (by repeat (first | exact zh | apply zt)) fun w hw => Holds.end_ hR hw ?_
  exact pk ⟨_, a3, c3, a4, c4, hyes, rfl, rfl⟩
theorem gproof_c {r : Fr} {b : Nat} {s : RS} (hl : s.rest.length ≤ 1000000000) : Con Tryz.prog 87 #[.agg #[.pointer (some ⟨b, 0, none⟩)]] r [RdP 226 b s] (RetP (fun v η => ∃ p a3 c3 a4 c4 a8 c8 a9 c9, proofP s = some p ∧ v = .agg (evdV p.1 (.slice a3 p.1.1.2.2.2.1.length c3) (.slice a4 p.1.1.2.2.2.2.1.length c4) (.slice a8 p.1.2.1.2.2.2.1.length c8) (.slice a9 p.1.2.1.2.2.2.2.1.length c9)).toArray ∧ η = [(EvdG tys).own (evdV p.1 (.slice a3 p.1.1.2.2.2.1.length c3) (.slice a4 p.1.1.2.2.2.2.1.length c4) (.slice a8 p.1.2.1.2.2.2.1.length c8) (.slice a9 p.1.2.1.2.2.2.2.1.length c9)) p.1, RdP 226 b p.2]) (fun ch η => proofP s = none ∧ ch = errP 32 4 ∧ η = [])) := by
 refine Con.of (n := 9) _ rfl Tryz.func87 rfl rfl rfl fun g hg R hR => ?_
 have hk1 := RS.bytes_out top64 s
 cases e : evdGet (s.bytes top64).1 with
 | none =>
  have hno : proofP s = none := by unfold proofP; rw [e]; rfl
  refine S.seq <| S.region rfl <| O.opE (.p rfl) (.box (cs := [_]) rfl rfl) ?_
  rintro _ _ ⟨b1, rfl, rfl⟩
  refine O.opE (.p rfl) (.alloc (cs := [.int .i64 0, .int .i64 0, .int .i64 0, .slice none 0 0, .slice none 0 0, .int .i64 0, .int .i64 0, .int .i64 0, .slice none 0 0, .slice none 0 0]) Tryz.zeroValue55 rfl) ?_
  rintro _ _ ⟨b2, rfl, rfl⟩
  refine O.nil <| S.seq <| S.region rfl <| O.op (.p rfl) (.loA (news := [_]) Tryz.isAgg129) ?_
  refine O.callS (.p rfl) rfl F.ok189 rfl rfl (by repeat (first | exact zh | apply zt)) (rall_c (by first | omega | (simp; done) | (simp; omega) | decide)) ?_
  rintro v4 _ ⟨a4, c4, rfl, rfl⟩
  try simp only [zx1, zx2, zx3]
  refine O.frzA (by repeat (first | exact zh | apply zt)) fun g hs hm ha4 => ?_
  replace hg := Fr.sub_trans hg hs
  replace hR := melted hR hm
  clear hs hm
  refine O.call0 (.p rfl) rfl F.ok194 rfl rfl (((eGet_c ha4 (by omega)).mono (Ret.imp fun _ _ h => evd_tN e h))) ?_
  rintro v5 _ ⟨rfl, rfl⟩
  try simp only [zx1, zx2, zx3]
  refine O.q 2 rfl <| O.callP0 (.p rfl) rfl F.ok193 rfl rfl (toldE_c) (fun ch η' w hX hW => by (obtain ⟨hb, rfl, rfl⟩ := hX; exact hR _ _ w ⟨hno, rfl, rfl⟩ hW.drop_all)) ?_
  rintro v8 _ ⟨hb8, rfl, rfl⟩
  try simp only [zx1, zx2, zx3]
  exact absurd hb8 (by decide)
 | some x =>
  have hok := (evdGet_iff.1 e).1
  have hyes : proofP s = some (x, (s.bytes top64).2) := by unfold proofP; rw [e]; rfl
  refine S.seq <| S.region rfl <| O.opE (.p rfl) (.box (cs := [_]) rfl rfl) ?_
  rintro _ _ ⟨b1, rfl, rfl⟩
  refine O.opE (.p rfl) (.alloc (cs := [.int .i64 0, .int .i64 0, .int .i64 0, .slice none 0 0, .slice none 0 0, .int .i64 0, .int .i64 0, .int .i64 0, .slice none 0 0, .slice none 0 0]) Tryz.zeroValue55 rfl) ?_
  rintro _ _ ⟨b2, rfl, rfl⟩
  refine O.nil <| S.seq <| S.region rfl <| O.op (.p rfl) (.loA (news := [_]) Tryz.isAgg129) ?_
  refine O.callS (.p rfl) rfl F.ok189 rfl rfl (by repeat (first | exact zh | apply zt)) (rall_c (by first | omega | (simp; done) | (simp; omega) | decide)) ?_
  rintro v4 _ ⟨a4, c4, rfl, rfl⟩
  try simp only [zx1, zx2, zx3]
  refine O.frzA (by repeat (first | exact zh | apply zt)) fun g hs hm ha4 => ?_
  replace hg := Fr.sub_trans hg hs
  replace hR := melted hR hm
  clear hs hm
  refine O.call0 (.p rfl) rfl F.ok194 rfl rfl (((eGet_c ha4 (by omega)).mono (Ret.imp fun _ _ h => evd_tY e h))) ?_
  rintro v5 _ ⟨a3, c3, a4, c4, a8, c8, a9, c9, rfl, rfl⟩
  try simp only [zx1, zx2, zx3]
  refine O.q 2 rfl <| O.callP0 (.p rfl) rfl F.ok193 rfl rfl (toldE_c) (fun ch η' w hX hW => by (exact absurd rfl hX.1)) ?_
  rintro v8 _ ⟨hb8, rfl, rfl⟩
  try simp only [zx1, zx2, zx3]
  refine O.opU rfl (.storeObj (by kernel_rfl) rfl rfl rfl rfl (by repeat (first | exact zh | apply zt)) (by first | (simp; done) | (simp [Value.cells]; done))) ?_
  refine O.nil <| S.foldS (A := (EvdG tys).own (evdV x (.slice a3 x.1.2.2.2.1.length c3) (.slice a4 x.1.2.2.2.2.1.length c4) (.slice a8 x.2.1.2.2.2.1.length c8) (.slice a9 x.2.1.2.2.2.2.1.length c9)) x) (bs := evdWs x (.slice a3 x.1.2.2.2.1.length c3) (.slice a4 x.1.2.2.2.2.1.length c4) (.slice a8 x.2.1.2.2.2.1.length c8) (.slice a9 x.2.1.2.2.2.2.1.length c9)) (by repeat (first | exact zsn | (apply zsc; focus (repeat (first | exact zh | apply zt))))) (fun m h => evdG_sat hok h) ?_
  refine S.retCellAgg Tryz.results87 Tryz.isAgg55 (by kernel_rfl) rfl (by repeat (first | exact zh | apply zt)) fun w hw => Holds.end_ hR hw ?_
  exact pk ⟨_, a3, c3, a4, c4, a8, c8, a9, c9, hyes, rfl, rfl⟩
end Go.Proofs.YtodhbhanmdfdeaaGreat
end
