/- Texts of this proof. -/
import Derived.Test.YtodhbhanmdfdeaaGreatQFc
import Derived.Test.YtodhbhanmdfdeaaGreatQBytesx
import Derived.Test.YtodhbhanmdfdeaaGreatQSpGet
import Derived.Test.YtodhbhanmdfdeaaGreatQSpAuto
open Go Go.Sp
set_option maxRecDepth 100000
attribute [local irreducible] obj Own OwnP
namespace Go.Proofs.YtodhbhanmdfdeaaGreat
abbrev recV (x : RecT) (v3 v5 v6 : Value) : List Value := [.string (str x.1), .int .i64 x.2.1, .int .i64 x.2.2.1, v3, .bool x.2.2.2.2.1, v5, v6]
abbrev recWs (x : RecT) (v3 v5 v6 : Value) : List SProp := [OwnP DotRp 166 v3 x.2.2.2.1, OwnP Rp.u8 5 v5 x.2.2.2.2.2.1, OwnP Rp.u8 5 v6 x.2.2.2.2.2.2.1]
abbrev rec0 : List Value := [.string (str []), .int .i64 0, .int .i64 0, .slice none 0 0, .bool false, .slice none 0 0, .slice none 0 0]
theorem rGet_c {r : Fr} {va : Value} {b : List UInt8} (ha : Arr Rp.u8 r va b) (hl : b.length ≤ 1000000000) :
  Con Tryz.prog 128 #[va] r [] (Ret fun v η => (∃ x a3 c3 a5 c5 a6 c6, recGet b = some x ∧ v = .tuple #[.agg (recV x (.slice a3 x.2.2.2.1.length c3) (.slice a5 x.2.2.2.2.2.1.length c5) (.slice a6 x.2.2.2.2.2.2.1.length c6)).toArray, .int .i64 0] ∧ η = recWs x (.slice a3 x.2.2.2.1.length c3) (.slice a5 x.2.2.2.2.2.1.length c5) (.slice a6 x.2.2.2.2.2.2.1.length c6)) ∨ (recGet b = none ∧ v = .tuple #[.agg rec0.toArray, .int .i64 4] ∧ η = [])) := by
 refine Con.of (n := 76) _ rfl Tryz.func128 rfl rfl rfl fun g hg R hR => ?_
 have ha := ha.mono hg
 have hbd := ha.bound
 obtain ⟨a1, c1, rfl⟩ := ha.shape
 refine S.seq <| S.region rfl <| O.opE (.p rfl) (.alloc (cs := [.string ⟨#[]⟩, .int .i64 0, .int .i64 0, .slice none 0 0, .bool false, .slice none 0 0, .slice none 0 0]) Tryz.zeroValue74 rfl) ?_
 rintro _ _ ⟨b2, rfl, rfl⟩
 refine O.q 1 rfl <| O.nil <| S.seq <| S.region rfl <| O.q 1 rfl <| O.op (.p rfl) (.len rfl Tryz.underlying31 rfl) <| O.op (.p rfl) (.sub rfl rfl (IntWalk.i64_in _ (by omega))) <| O.q 1 rfl <| O.nil <| S.seq <| S.seq <| S.region rfl <| O.q 1 rfl <| O.op (.p rfl) (.lss rfl rfl) <| O.nil ?_
 first | refine S.condD rfl (fun h13 => ?_) (fun h13 => ?_) | refine S.condB rfl (fun h13 => ?_) (fun h13 => ?_)
 ·refine S.seq <| S.region rfl <| O.op (.p rfl) (.build (cs := [_, _, _, _, _, _, _]) Tryz.underlying74 rfl rfl rfl rfl rfl) <| O.opU rfl (.storeObj (by kernel_rfl) rfl rfl rfl rfl (by repeat (first | exact zh | apply zt)) (by first | (simp; done) | (simp [Value.cells]; done))) ?_
  refine O.q 1 rfl <| O.nil <| S.retCellT Tryz.results128 rfl rfl (by repeat (first | exact zh | apply zt)) (LoadsAs.agg Tryz.isAgg74 (by kernel_rfl)) fun w hw => Holds.end_ hR hw ?_
  exact pk (.inr ⟨recGet_short (by omega), rfl, rfl⟩)
 ·have h64 : 64 ≤ b.length := by omega
  have htl : (b.take (b.length - 64)).length ≤ 1000000000 := by rw [List.length_take]; omega
  refine S.skip <| S.seq <| S.region rfl <| O.q 2 rfl <| O.sliceTo (b := b.length - 64) (.p rfl) Tryz.underlying31 F.size5 rfl rfl (by assumption) (by first | omega | (simp; done) | (simp; omega) | decide) (by first | omega | (simp; done) | (simp; omega) | decide) (fun u17 ha17 => ?_)
  obtain ⟨a17, c17, rfl⟩ := ha17.shape
  refine O.call0 (.p rfl) rfl F.ok81 rfl rfl (rdNew_c (by first | assumption | exact Arr.mono hg (by assumption) | exact Arr.left (by assumption) | exact Arr.left (Arr.mono hg (by assumption))) (by first | omega | (simp; done) | (simp; omega) | decide)) ?_
  rintro v18 _ ⟨b18, rfl, rfl⟩
  try simp only [zx1, zx2, zx3]
  refine O.q 1 rfl <| O.nil <| S.seq <| S.region rfl <| O.q 1 rfl <| O.callS (.p rfl) rfl F.ok228 rfl rfl (by repeat (first | exact zh | apply zt)) rdByte_c ?_
  rintro v20 _ ⟨rfl, rfl⟩
  try simp only [zx1, zx2, zx3]
  refine O.nil (S.seq ?_)
  generalize hk : (RS.mk true (b.take (b.length - 64))).byte = k
  have lk : k.2.rest.length ≤ 1000000000 := by rw [← hk]; exact Nat.le_trans (RS.byte_len _) htl
  have ly := RS.bytes_out 64 k.2
  refine S.regionJ (L := [0, 3, 5, 1, 2, 4, 6, 7, 8, 9]) (fun (p : Nat) => [(6, .pointer (some ⟨p, 0, none⟩))]) [(0, _), (2, _), (4, _), (5, _)] (fun (p : Nat) => [RdP 226 b18 (k.2.bytes 64).2.num.2.num.2, obj p 74 [.string (str (k.2.bytes 64).1), .int .i64 (k.2.bytes 64).2.num.1, .int .i64 (k.2.bytes 64).2.num.2.num.1, .slice none 0 0, .bool false, .slice none 0 0, .slice none 0 0], obj b2 74 rec0]) (.cons rfl (.cons rfl (.cons rfl (.cons rfl (.nil))))) F.mixed (by kernel_rfl) (fun kk key => ?_) (fun p => ?_)
  ·refine OD.q 3 rfl <| OD.callS (.p rfl) (by kernel_rfl) rfl F.ok129 rfl rfl (by repeat (first | exact zh | apply zt)) (rdBytes_c _ (by first | omega | (simp; done) | (simp; omega) | decide)) ?_
   rintro v22 _ ⟨a22, c22, rfl, rfl⟩
   try simp only [zx1, zx2, zx3]
   refine OD.alt2 2 4 [4, 6, 7, 8, 9] [2, 6, 7, 8, 9] (by kernel_rfl) rfl rfl ?_ ?_
   ·refine ODt.toStrO (.p rfl) (by kernel_rfl) Tryz.underlying31 Tryz.underlying5 Tryz.underlying9 rfl (by repeat (first | exact zh | apply zt)) ?_
    refine OD.callS (.p rfl) (by kernel_rfl) rfl F.ok89 rfl rfl (by repeat (first | exact zh | apply zt)) rdNumber_c ?_
    rintro v25 _ ⟨rfl, rfl⟩
    try simp only [zx1, zx2, zx3]
    refine OD.callS (.p rfl) (by kernel_rfl) rfl F.ok89 rfl rfl (by repeat (first | exact zh | apply zt)) rdNumber_c ?_
    rintro v27 _ ⟨rfl, rfl⟩
    try simp only [zx1, zx2, zx3]
    refine .quiet (.p rfl) rfl (fun _ => .build (cs := [_, _, _, _, _, _, _]) Tryz.underlying74 rfl rfl rfl rfl rfl) <| .lazy rfl (by kernel_rfl) rfl fun b6 => ?_
    refine OD.storeObj rfl (by kernel_rfl) (by kernel_rfl) rfl rfl rfl rfl (by repeat (first | exact zh | apply zt)) (by first | (simp; done) | (simp [Value.cells]; done)) ?_
    refine ODx.nil <| S.pk ?_ (S.weaken (Sub.app (.cons rfl (.nil)) (.cons rfl (.cons rfl (.cons rfl (.cons rfl (.nil)))))) (key b6))
    try dsimp only
    repeat (first | exact zpa | exact zpn | (apply zpc; focus (repeat (first | exact zh | apply zt))) | apply zps)
   ·refine ODt.callS (.p rfl) (by kernel_rfl) rfl F.ok89 rfl rfl (by repeat (first | exact zh | apply zt)) rdNumber_c ?_
    rintro v25 _ ⟨rfl, rfl⟩
    try simp only [zx1, zx2, zx3]
    refine OD.alt2 2 6 [6, 7, 8, 9] [2, 7, 8, 9] (by kernel_rfl) rfl rfl ?_ ?_
    ·refine ODt.toStrO (.p rfl) (by kernel_rfl) Tryz.underlying31 Tryz.underlying5 Tryz.underlying9 rfl (by repeat (first | exact zh | apply zt)) ?_
     refine OD.callS (.p rfl) (by kernel_rfl) rfl F.ok89 rfl rfl (by repeat (first | exact zh | apply zt)) rdNumber_c ?_
     rintro v27 _ ⟨rfl, rfl⟩
     try simp only [zx1, zx2, zx3]
     refine .quiet (.p rfl) rfl (fun _ => .build (cs := [_, _, _, _, _, _, _]) Tryz.underlying74 rfl rfl rfl rfl rfl) <| .lazy rfl (by kernel_rfl) rfl fun b6 => ?_
     refine OD.storeObj rfl (by kernel_rfl) (by kernel_rfl) rfl rfl rfl rfl (by repeat (first | exact zh | apply zt)) (by first | (simp; done) | (simp [Value.cells]; done)) ?_
     refine ODx.nil <| S.pk ?_ (S.weaken (Sub.app (.cons rfl (.nil)) (.cons rfl (.cons rfl (.cons rfl (.cons rfl (.nil)))))) (key b6))
     try dsimp only
     repeat (first | exact zpa | exact zpn | (apply zpc; focus (repeat (first | exact zh | apply zt))) | apply zps)
    ·refine ODt.callS (.p rfl) (by kernel_rfl) rfl F.ok89 rfl rfl (by repeat (first | exact zh | apply zt)) rdNumber_c ?_
     rintro v27 _ ⟨rfl, rfl⟩
     try simp only [zx1, zx2, zx3]
     refine OD.toStrO (.p rfl) (by kernel_rfl) Tryz.underlying31 Tryz.underlying5 Tryz.underlying9 rfl (by repeat (first | exact zh | apply zt)) ?_
     refine .quiet (.p rfl) rfl (fun _ => .build (cs := [_, _, _, _, _, _, _]) Tryz.underlying74 rfl rfl rfl rfl rfl) <| .lazy rfl (by kernel_rfl) rfl fun b6 => ?_
     refine OD.storeObj rfl (by kernel_rfl) (by kernel_rfl) rfl rfl rfl rfl (by repeat (first | exact zh | apply zt)) (by first | (simp; done) | (simp [Value.cells]; done)) ?_
     refine ODx.nil <| S.pk ?_ (S.weaken (Sub.app (.cons rfl (.nil)) (.cons rfl (.cons rfl (.cons rfl (.cons rfl (.nil)))))) (key b6))
     try dsimp only
     repeat (first | exact zpa | exact zpn | (apply zpc; focus (repeat (first | exact zh | apply zt))) | apply zps)
  generalize hy : k.2.bytes 64 = y at ly ⊢
  have ly2 : y.2.rest.length ≤ 1000000000 := by rw [← hy]; exact Nat.le_trans (RS.bytes_len _ _) lk
  generalize hc : y.2.num = c
  have lc : c.2.rest.length ≤ 1000000000 := by rw [← hc]; exact Nat.le_trans (RS.num_len _) ly2
  have ic : InI64 c.1 := by rw [← hc]; exact RS.num_in _
  generalize hq : c.2.num = q
  have lq : q.2.rest.length ≤ 1000000000 := by rw [← hq]; exact Nat.le_trans (RS.num_len _) lc
  have iq : InI64 q.1 := by rw [← hq]; exact RS.num_in _
  refine S.seq <| S.seq <| S.region rfl <| O.q 1 rfl <| O.callS (.p rfl) rfl F.ok127 rfl rfl (by repeat (first | exact zh | apply zt)) (rdCount_c _) ?_
  rintro v30 _ ⟨rfl, rfl⟩
  try simp only [zx1, zx2, zx3]
  refine O.q 1 rfl <| O.nil (S.block ?_)
  generalize hn : q.2.count 8 = n
  have ln : n.2.rest.length ≤ 1000000000 := by rw [← hn]; exact Nat.le_trans (RS.count_len _ _) lq
  obtain ⟨n0, n8⟩ : 0 ≤ n.1 ∧ n.1 ≤ 8 := by rw [← hn]; exact RS.count_bd _ _ (by decide)
  refine S.addNil (T := DotRp) (e := 166) ?_
  refine S.loopK2 (ι := Nat) (κ := Option Addr × Nat) (fun i a => i ≤ n.1.toNat) (fun i a => [(31, .int .i64 (i : Int))]) [(0, _), (2, _), (4, _), (5, _), (6, _), (30, _)] (fun i a => [OwnP DotRp 166 (.slice a.1 i a.2) (dotsP i n.2).1, RdP 226 b18 (dotsP i n.2).2, obj p 74 [.string (str y.1), .int .i64 c.1, .int .i64 q.1, .slice a.1 i a.2, .bool false, .slice none 0 0, .slice none 0 0], obj b2 74 rec0]) (fun i a => n.1.toNat - i) (0) ((none, 0)) (by simp) (.cons rfl (.nil)) (.cons rfl (.cons rfl (.cons rfl (.cons rfl (.cons rfl (.cons rfl (.nil))))))) rfl fun i a hx ih => ?_
  have hm1 := meltRefl (g := g)
  refine S.seq <| S.region rfl <| O.op (.p rfl) (.lss rfl rfl) <| O.nil (S.seq ?_)
  first | refine S.condD rfl (fun h32 => ?_) (fun h32 => ?_) | refine S.condB rfl (fun h32 => ?_) (fun h32 => ?_)
  ·have hi : i < n.1.toNat := by omega
   have hg_o := hg
   have hR_o := hR
   try have ha_o := ha
   try have ha17_o := ha17
   refine S.frzH (B := obj p 74 [.string (str y.1), .int .i64 c.1, .int .i64 q.1, .slice a.1 i a.2, .bool false, .slice none 0 0, .slice none 0 0]) (by repeat (first | exact zh | apply zt)) fun go hso ⟨mo, hmo, hsmo⟩ hbo => ?_
   replace hg := Fr.sub_trans hg hso
   replace hR := backR hR hbo
   try replace ha := ha.mono hso
   try replace ha17 := ha17.mono hso
   have hat := (obj_at hmo).mono hsmo
   refine S.skip <| S.seq <| S.block <| S.regionD (L := [0, 1, 2, 4, 3, 5, 6, 7, 8, 9, 10]) F.mixed (by kernel_rfl) <| .quiet (.p rfl) rfl (fun _ => .fieldAddr F.fld74x3 rfl) <| .quiet (.p rfl) rfl (fun _ => .loadAt F.flat72 rfl (hat.drop 3) rfl) ?_
   refine OD.q 2 rfl <| OD.callS (.p rfl) (by kernel_rfl) rfl F.ok89 rfl rfl (by repeat (first | exact zh | apply zt)) rdNumber_c ?_
   rintro v36 _ ⟨rfl, rfl⟩
   try simp only [zx1, zx2, zx3]
   refine OD.callS (.p rfl) (by kernel_rfl) rfl F.ok89 rfl rfl (by repeat (first | exact zh | apply zt)) rdNumber_c ?_
   rintro v38 _ ⟨rfl, rfl⟩
   try simp only [zx1, zx2, zx3]
   refine .quiet (.p rfl) rfl (fun _ => .build (cs := [_, _]) Tryz.underlying166 rfl rfl rfl rfl rfl) <| OD.litP (T := DotRp) (ys := [_]) (.p rfl) (by kernel_rfl) Tryz.underlying72 F.elem166 (by decide) rfl rfl ⟨(DotRp.mk (RS.num_in _) (RS.num_in _)), trivial⟩ (by decide) (fun a40 c40 => ?_)
   refine OD.appendO (.p rfl) (by kernel_rfl) (T := DotRp) Tryz.underlying72 F.elem166 (by decide) rfl rfl (by repeat (first | exact zh | apply zt)) (by repeat (first | exact zh | apply zt)) (by first | omega | (simp; done) | (simp; omega) | decide) (by first | omega | (simp; done) | (simp; omega) | decide) (fun a41 c41 => ?_)
   refine .quiet (.p rfl) rfl (fun _ => .fieldAddr F.fld74x3 rfl) <| OD.last1 rfl (by kernel_rfl) (fun _ hw => hbo hw) F.flat72 rfl rfl (by first | rfl | assumption) (by repeat (first | exact zh | apply zt)) (by first | (simp; done) | (simp; omega)) ?_
   replace hg := hg_o
   replace hR := hR_o
   try replace ha := ha_o
   try replace ha17 := ha17_o
   clear hg_o hR_o
   refine S.inBlock <| S.region rfl <| O.op (.p rfl) (.add rfl rfl (IntWalk.i64_in _ (by omega))) <| O.q 1 rfl <| O.nil ?_
   simp only [dotsP_length, List.length_singleton]
   exact S.pw (ih (i + 1) ((a41, c41)) (by omega) (by omega))
  ·clear ih
   have hi : i = n.1.toNat := by omega
   subst hi
   generalize hd : dotsP n.1.toNat n.2 = d
   have ld : d.2.rest.length ≤ 1000000000 := by rw [← hd]; exact Nat.le_trans (dotsP_len _ _) ln
   have ldn : d.1.length = n.1.toNat := by rw [← hd]; exact dotsP_length _ _
   have id : ∀ z ∈ d.1, dot64 z := by rw [← hd]; exact dotsP_in _ _
   rw [← ldn]
   refine S.exit rfl <| S.seq <| S.region rfl <| O.q 1 rfl <| O.callS (.p rfl) rfl F.ok228 rfl rfl (by repeat (first | exact zh | apply zt)) rdByte_c ?_
   rintro v45 _ ⟨rfl, rfl⟩
   try simp only [zx1, zx2, zx3]
   refine O.op (.p rfl) (.neq rfl rfl) <| O.slot 46 (v' := .bool (decide (d.2.byte.1 ≠ 0))) rfl (by simp [← UInt8.toNat_inj]) ?_
   refine O.op (.p rfl) (.fieldObj F.fld74x4 rfl) <| O.opU rfl (.store1 F.flat4 rfl rfl (by first | rfl | assumption) (by repeat (first | exact zh | apply zt)) (by first | (simp; done) | (simp [Value.cells]; done))) ?_
   refine O.nil (S.seq ?_)
   generalize hg2 : d.2.byte = g2
   have lg2 : g2.2.rest.length ≤ 1000000000 := by rw [← hg2]; exact Nat.le_trans (RS.byte_len _) ld
   refine S.regionD (L := [0, 2, 3, 4, 1, 6, 5, 7, 8, 9]) F.mixed (by kernel_rfl) ?_
   refine OD.q 3 rfl <| OD.sliceFrom (a := b.length - 64) (.p rfl) Tryz.underlying31 F.size5 rfl rfl (by assumption) (by first | omega | (simp; done) | (simp; omega) | decide) (by first | omega | (simp; done) | (simp; omega) | decide) (fun u52 ha52 => ?_)
   obtain ⟨a52, c52, rfl⟩ := ha52.shape
   refine OD.callS (.p rfl) (by kernel_rfl) rfl F.ok129 rfl rfl (by repeat (first | exact zh | apply zt)) (rdBytes_c _ (by first | omega | (simp; done) | (simp; omega) | decide)) ?_
   rintro v49 _ ⟨a49, c49, rfl, rfl⟩
   try simp only [zx1, zx2, zx3]
   refine .quiet (.p rfl) rfl (fun _ => .fieldObj F.fld74x5 rfl) <| OD.call0 (.p rfl) (by kernel_rfl) rfl F.ok187 rfl rfl (cloneB_c (by first | assumption | exact Arr.mono hg (by assumption) | exact Arr.left (by assumption) | exact Arr.left (Arr.mono hg (by assumption))) (by first | omega | (simp; done) | (simp; omega) | decide)) ?_
   rintro v53 _ ⟨a53, c53, rfl, rfl⟩
   try simp only [zx1, zx2, zx3]
   refine OD.store1 rfl (by kernel_rfl) F.flat31 rfl rfl (by first | rfl | assumption) (by repeat (first | exact zh | apply zt)) (by first | (simp; done) | (simp [Value.cells]; done)) ?_
   refine .quiet (.p rfl) rfl (fun _ => .fieldObj F.fld74x6 rfl) <| OD.store1 rfl (by kernel_rfl) F.flat31 rfl rfl (by first | rfl | assumption) (by repeat (first | exact zh | apply zt)) (by first | (simp; done) | (simp [Value.cells]; done)) ?_
   refine ODx.nil (S.seq ?_)
   generalize hv : g2.2.bytes 1024 = v
   have hX : recIn b = (y.1, c.1, q.1, d.1, decide (g2.1 ≠ 0), v.1, b.drop (b.length - 64), ()) := by subst hv hg2 hd hn hq hc hy hk; rfl
   have hS : (recHd b).s = v.2 := by subst hv hg2 hd hn hq hc hy hk; rfl
   have hyes := recGet_yes (b := b)
   have hno := recGet_no (b := b)
   rw [hX] at hyes hno
   rw [hS] at hno
   have hrel : ∀ {m : Fr} (v3 v5 v6 : Value), Arr DotRp m v3 d.1 → Arr Rp.u8 m v5 v.1 → Arr Rp.u8 m v6 (b.drop (b.length - 64)) → RecRp.rel m [.string (str y.1), .int .i64 c.1, .int .i64 q.1, v3, .bool (decide (g2.1 ≠ 0)), v5, v6] (y.1, c.1, q.1, d.1, decide (g2.1 ≠ 0), v.1, b.drop (b.length - 64), ()) := fun v3 v5 v6 h3 h5 h6 => RecRp.mk (by omega) ic iq h3 h5 h6
   clear hX hS
   generalize hXX : ((y.1, c.1, q.1, d.1, decide (g2.1 ≠ 0), v.1, b.drop (b.length - 64), ()) : RecT) = X at hyes hno hrel
   refine S.region rfl <| O.op (.p rfl) (.loA (news := [_, _, _, _, _, _, _]) Tryz.isAgg74) ?_
   refine O.callB (.p rfl) rfl F.ok204 rfl rfl (bs := [OwnP DotRp 166 (.slice a.1 d.1.length a.2) d.1, OwnP Rp.u8 5 (.slice a49 v.1.length c49) v.1, OwnP Rp.u8 5 (.slice a53 (b.drop (b.length - 64)).length c53) (b.drop (b.length - 64))]) (by repeat (first | exact zsn | (apply zsc; focus (repeat (first | exact zh | apply zt))))) (fun m hm hd' => rPut_c (x := X) (hrel _ _ _ (hm.arr.right hd') (hm.tail.arr.right hd') (hm.tail.tail.arr.right hd'))) ?_
   rintro v58 _ ⟨a58, c58, rfl, rfl⟩
   try simp only [zx1, zx2, zx3]
   refine O.q 5 rfl <| O.nil (S.seq (S.seq ?_))
   cases e1 : v.2.done with
   | false =>
    refine S.region rfl <| O.q 1 rfl <| O.callS (.p rfl) rfl F.ok91 rfl rfl (by repeat (first | exact zh | apply zt)) rdDone_c ?_
    rintro v62 _ ⟨rfl, rfl⟩
    try simp only [zx1, zx2, zx3]
    refine O.sF 62 rfl (by exact e1) ?_
    refine O.op (.p rfl) (.not rfl) <| O.q 10 rfl <| O.nil <| S.condT rfl <| S.seq <| S.region rfl <| O.op (.p rfl) (.build (cs := [_, _, _, _, _, _, _]) Tryz.underlying74 rfl rfl rfl rfl rfl) <| O.opU rfl (.storeObj (by kernel_rfl) rfl rfl rfl rfl (by repeat (first | exact zh | apply zt)) (by first | (simp; done) | (simp [Value.cells]; done))) ?_
    refine O.q 1 rfl <| O.nil <| S.retCellT Tryz.results128 rfl rfl (by repeat (first | exact zh | apply zt)) (LoadsAs.agg Tryz.isAgg74 (by kernel_rfl)) fun w hw => Holds.end_ hR hw ?_
    exact pk (.inr ⟨hno fun q => by rw [e1] at q; exact absurd q.1 (by decide), rfl, rfl⟩)
   | true =>
    cases e2 : recOk X with
    | false =>
     refine S.region rfl <| O.q 1 rfl <| O.callS (.p rfl) rfl F.ok91 rfl rfl (by repeat (first | exact zh | apply zt)) rdDone_c ?_
     rintro v62 _ ⟨rfl, rfl⟩
     try simp only [zx1, zx2, zx3]
     refine O.sT 62 rfl (by exact e1) ?_
     refine O.op (.p rfl) (.not rfl) <| O.q 2 rfl <| O.op (.g rfl rfl) (.neq rfl rfl) <| O.sT 66 rfl (by simp [recErr, e2]) ?_
     refine O.q 7 rfl <| O.nil <| S.condT rfl <| S.seq <| S.region rfl <| O.op (.p rfl) (.build (cs := [_, _, _, _, _, _, _]) Tryz.underlying74 rfl rfl rfl rfl rfl) <| O.opU rfl (.storeObj (by kernel_rfl) rfl rfl rfl rfl (by repeat (first | exact zh | apply zt)) (by first | (simp; done) | (simp [Value.cells]; done))) ?_
     refine O.q 1 rfl <| O.nil <| S.retCellT Tryz.results128 rfl rfl (by repeat (first | exact zh | apply zt)) (LoadsAs.agg Tryz.isAgg74 (by kernel_rfl)) fun w hw => Holds.end_ hR hw ?_
     exact pk (.inr ⟨hno fun q => by rw [e2] at q; exact absurd q.2.1 (by decide), rfl, rfl⟩)
    | true =>
     by_cases e3 : recB X = b
     ·
      refine S.region rfl <| O.q 1 rfl <| O.callS (.p rfl) rfl F.ok91 rfl rfl (by repeat (first | exact zh | apply zt)) rdDone_c ?_
      rintro v62 _ ⟨rfl, rfl⟩
      try simp only [zx1, zx2, zx3]
      refine O.sT 62 rfl (by exact e1) ?_
      refine O.op (.p rfl) (.not rfl) <| O.q 2 rfl <| O.op (.g rfl rfl) (.neq rfl rfl) <| O.sF 66 rfl (by simp [recErr, e2]) ?_
      refine O.q 4 rfl <| O.callB (.g rfl rfl) rfl F.ok229 rfl rfl (bs := [OwnP Rp.u8 5 (.slice a58 (recOut X).length c58) (recOut X)]) (by repeat (first | exact zsn | (apply zsc; focus (repeat (first | exact zh | apply zt))))) (fun m hm hd' => bequal_c (hm.arr.right hd') ha.left) ?_
      rintro v71 _ ⟨rfl, rfl⟩
      try simp only [zx1, zx2, zx3]
      refine O.sT 71 rfl (by exact decide_eq_true (by rw [recOut, if_pos e2]; exact e3)) ?_
      refine O.op (.g rfl rfl) (.not rfl) <| O.q 1 rfl <| O.nil <| S.condF rfl <| S.skip <| S.seq <| S.region rfl <| O.op (.p rfl) (.loA (news := [_, _, _, _, _, _, _]) Tryz.isAgg74) ?_
      refine O.opU rfl (.storeObj (by kernel_rfl) rfl rfl rfl rfl (by repeat (first | exact zh | apply zt)) (by first | (simp; done) | (simp [Value.cells]; done))) ?_
      refine O.q 1 rfl <| O.nil <| S.retCellT Tryz.results128 rfl rfl (by repeat (first | exact zh | apply zt)) (LoadsAs.agg Tryz.isAgg74 (by kernel_rfl)) fun w hw => Holds.end_ hR hw ?_
      have hy' := hyes e2 e3
      subst hXX
      exact pk (.inl ⟨_, a.1, a.2, a49, c49, a53, c53, hy', rfl, rfl⟩)
     ·
      refine S.region rfl <| O.q 1 rfl <| O.callS (.p rfl) rfl F.ok91 rfl rfl (by repeat (first | exact zh | apply zt)) rdDone_c ?_
      rintro v62 _ ⟨rfl, rfl⟩
      try simp only [zx1, zx2, zx3]
      refine O.sT 62 rfl (by exact e1) ?_
      refine O.op (.p rfl) (.not rfl) <| O.q 2 rfl <| O.op (.g rfl rfl) (.neq rfl rfl) <| O.sF 66 rfl (by simp [recErr, e2]) ?_
      refine O.q 4 rfl <| O.callB (.g rfl rfl) rfl F.ok229 rfl rfl (bs := [OwnP Rp.u8 5 (.slice a58 (recOut X).length c58) (recOut X)]) (by repeat (first | exact zsn | (apply zsc; focus (repeat (first | exact zh | apply zt))))) (fun m hm hd' => bequal_c (hm.arr.right hd') ha.left) ?_
      rintro v71 _ ⟨rfl, rfl⟩
      try simp only [zx1, zx2, zx3]
      refine O.sF 71 rfl (by exact decide_eq_false (by rw [recOut, if_pos e2]; exact e3)) ?_
      refine O.op (.g rfl rfl) (.not rfl) <| O.q 1 rfl <| O.nil <| S.condT rfl <| S.seq <| S.region rfl <| O.op (.p rfl) (.build (cs := [_, _, _, _, _, _, _]) Tryz.underlying74 rfl rfl rfl rfl rfl) <| O.opU rfl (.storeObj (by kernel_rfl) rfl rfl rfl rfl (by repeat (first | exact zh | apply zt)) (by first | (simp; done) | (simp [Value.cells]; done))) ?_
      refine O.q 1 rfl <| O.nil <| S.retCellT Tryz.results128 rfl rfl (by repeat (first | exact zh | apply zt)) (LoadsAs.agg Tryz.isAgg74 (by kernel_rfl)) fun w hw => Holds.end_ hR hw ?_
      exact pk (.inr ⟨hno fun q => e3 q.2.2, rfl, rfl⟩)
theorem rGetY_c {r : Fr} {va : Value} {b : List UInt8} {x : RecT} (e : recGet b = some x) (ha : Arr Rp.u8 r va b) (hl : b.length ≤ 1000000000) :
  Con Tryz.prog 128 #[va] r [] (Ret fun v η => ∃ a3 c3 a5 c5 a6 c6, v = .tuple #[.agg (recV x (.slice a3 x.2.2.2.1.length c3) (.slice a5 x.2.2.2.2.2.1.length c5) (.slice a6 x.2.2.2.2.2.2.1.length c6)).toArray, .int .i64 0] ∧ η = recWs x (.slice a3 x.2.2.2.1.length c3) (.slice a5 x.2.2.2.2.2.1.length c5) (.slice a6 x.2.2.2.2.2.2.1.length c6)) :=
 (rGet_c ha hl).mono (Ret.imp fun v η h => by
  rcases h with ⟨y, a3, c3, a5, c5, a6, c6, h1, h2, h3⟩ | ⟨h1, _⟩
  ·rw [e] at h1; obtain rfl := Option.some.inj h1; exact ⟨a3, c3, a5, c5, a6, c6, h2, h3⟩
  ·rw [e] at h1; cases h1)
theorem rGetN_c {r : Fr} {va : Value} {b : List UInt8} (e : recGet b = none) (ha : Arr Rp.u8 r va b) (hl : b.length ≤ 1000000000) :
  Con Tryz.prog 128 #[va] r [] (Ret fun v η => v = .tuple #[.agg rec0.toArray, .int .i64 4] ∧ η = []) :=
 (rGet_c ha hl).mono (Ret.imp fun v η h => by
  rcases h with ⟨y, a3, c3, a5, c5, a6, c6, h1, _⟩ | ⟨_, h2, h3⟩
  ·rw [e] at h1; cases h1
  ·exact ⟨h2, h3⟩)
end Go.Proofs.YtodhbhanmdfdeaaGreat
