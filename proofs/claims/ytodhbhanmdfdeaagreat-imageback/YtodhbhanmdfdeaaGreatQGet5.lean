/- Texts of this proof. -/
import Derived.Test.YtodhbhanmdfdeaaGreatQFc
import Derived.Test.YtodhbhanmdfdeaaGreatQGet4
import Derived.Test.YtodhbhanmdfdeaaGreatQSpAuto
open Go Go.Sp
set_option maxRecDepth 100000
attribute [local irreducible] obj Own OwnP
namespace Go.Proofs.YtodhbhanmdfdeaaGreat
abbrev evdV (x : EvdT) (v3 v4 v8 v9 : Value) : List Value := [.int .i64 x.1.1, .int .i64 x.1.2.1, .int .i64 x.1.2.2.1, v3, v4, .int .i64 x.2.1.1, .int .i64 x.2.1.2.1, .int .i64 x.2.1.2.2.1, v8, v9]
abbrev evdWs (x : EvdT) (v3 v4 v8 v9 : Value) : List SProp := [OwnP Rp.u8 5 v3 x.1.2.2.2.1, OwnP Rp.u8 5 v4 x.1.2.2.2.2.1, OwnP Rp.u8 5 v8 x.2.1.2.2.2.1, OwnP Rp.u8 5 v9 x.2.1.2.2.2.2.1]
abbrev evd0 : List Value := [.int .i64 0, .int .i64 0, .int .i64 0, .slice none 0 0, .slice none 0 0, .int .i64 0, .int .i64 0, .int .i64 0, .slice none 0 0, .slice none 0 0]
def evd_t (b : List UInt8) (v : Value) (η : List SProp) : Prop := (∃ x a3 c3 a4 c4 a8 c8 a9 c9, evdGet b = some x ∧ v = .tuple #[.agg (evdV x (.slice a3 x.1.2.2.2.1.length c3) (.slice a4 x.1.2.2.2.2.1.length c4) (.slice a8 x.2.1.2.2.2.1.length c8) (.slice a9 x.2.1.2.2.2.2.1.length c9)).toArray, .int .i64 0] ∧
 η = evdWs x (.slice a3 x.1.2.2.2.1.length c3) (.slice a4 x.1.2.2.2.2.1.length c4) (.slice a8 x.2.1.2.2.2.1.length c8) (.slice a9 x.2.1.2.2.2.2.1.length c9)) ∨ (evdGet b = none ∧ v = .tuple #[.agg evd0.toArray, .int .i64 4] ∧ η = [])
theorem eGet_c {r : Fr} {va : Value} {b : List UInt8} (ha : Arr Rp.u8 r va b) (hl : b.length ≤ 1000000000) : Con Tryz.prog 194 #[va] r [] (Ret fun v η => evd_t b v η) := by
 refine Con.of (n := 45) _ rfl Tryz.func194 rfl rfl rfl fun g hg R hR => ?_
 have ha := ha.mono hg
 obtain ⟨a1, c1, rfl⟩ := ha.shape
 refine S.seq <| S.region rfl <| O.opE (.p rfl) (.alloc (cs := [.int .i64 0, .int .i64 0, .int .i64 0, .slice none 0 0, .slice none 0 0, .int .i64 0, .int .i64 0, .int .i64 0, .slice none 0 0, .slice none 0 0]) Tryz.zeroValue55 rfl) ?_
 rintro _ _ ⟨b2, rfl, rfl⟩
 refine O.q 1 rfl <| O.nil <| S.seq <| S.region rfl <| O.q 1 rfl <| O.call0 (.p rfl) rfl F.ok81 rfl rfl (rdNew_c (by first | assumption | exact Arr.mono hg (by assumption) | exact Arr.left (by assumption) | exact Arr.left (Arr.mono hg (by assumption))) (by first | omega | (simp; done) | (simp; omega) | decide)) ?_
 rintro v11 _ ⟨b11, rfl, rfl⟩
 try simp only [zx1, zx2, zx3]
 refine O.q 1 rfl <| O.nil (S.seq ?_)
 generalize hy : (RS.mk true b).bytes 153 = y
 have ly : y.2.rest.length ≤ 1000000000 := by rw [← hy]; exact Nat.le_trans (RS.bytes_len _ _) hl
 have lo : y.1.length ≤ 1000000000 := by rw [← hy]; exact Nat.le_trans (RS.bytes_out _ _) hl
 generalize hz : y.2.bytes 153 = z
 have lz : z.1.length ≤ 1000000000 := by rw [← hz]; exact Nat.le_trans (RS.bytes_out _ _) ly
 have hev : evdGet b = (rootGet y.1).bind fun a => (rootGet z.1).bind fun c => if z.2.done = true ∧ evdOk (a, c, ()) = true then some (a, c, ()) else none := by unfold evdGet; simp only; rw [hy, hz]
 cases e1 : rootGet y.1 with
 | none =>
  have hno : evdGet b = none := by rw [hev, e1]; rfl
  cases e2 : rootGet z.1 with
  | none =>
   refine S.region rfl <| O.q 1 rfl <| O.callS (.p rfl) rfl F.ok129 rfl rfl (by repeat (first | exact zh | apply zt)) (rdBytes_c _ (by simp; omega)) ?_
   rintro v14 _ ⟨a14, c14, rfl, rfl⟩
   try simp only [zx1, zx2, zx3]
   rw [hy]
   refine O.frzA (by repeat (first | exact zh | apply zt)) fun g hs hm ha14 => ?_
   replace hg := Fr.sub_trans hg hs
   replace hR := melted hR hm
   try replace ha := ha.mono hs
   clear hs hm
   refine O.call0 (.p rfl) rfl F.ok192 rfl rfl ((tGetN_c e1 ha14 lo)) ?_
   rintro v15 _ ⟨rfl, rfl⟩
   try simp only [zx1, zx2, zx3]
   refine O.q 3 rfl <| O.opE (.p rfl) (.alloc (cs := [.int .i64 0, .int .i64 0, .int .i64 0, .slice none 0 0, .slice none 0 0]) Tryz.zeroValue52 rfl) ?_
   rintro _ _ ⟨b5, rfl, rfl⟩
   refine O.opU rfl (.storeObj (by kernel_rfl) rfl rfl rfl rfl (by repeat (first | exact zh | apply zt)) (by first | (simp; done) | (simp [Value.cells]; done))) ?_
   refine O.q 1 rfl <| O.nil <| S.seq <| S.region rfl <| O.q 1 rfl <| O.callS (.p rfl) rfl F.ok129 rfl rfl (by repeat (first | exact zh | apply zt)) (rdBytes_c _ (by omega)) ?_
   rintro v20 _ ⟨a20, c20, rfl, rfl⟩
   try simp only [zx1, zx2, zx3]
   rw [hz]
   refine O.frzA (by repeat (first | exact zh | apply zt)) fun g hs hm ha20 => ?_
   replace hg := Fr.sub_trans hg hs
   replace hR := melted hR hm
   try replace ha := ha.mono hs
   try replace ha14 := ha14.mono hs
   clear hs hm
   refine O.call0 (.p rfl) rfl F.ok192 rfl rfl ((tGetN_c e2 ha20 lz)) ?_
   rintro v21 _ ⟨rfl, rfl⟩
   try simp only [zx1, zx2, zx3]
   refine O.q 3 rfl <| O.opE (.p rfl) (.alloc (cs := [.int .i64 0, .int .i64 0, .int .i64 0, .slice none 0 0, .slice none 0 0]) Tryz.zeroValue52 rfl) ?_
   rintro _ _ ⟨b7, rfl, rfl⟩
   refine O.opU rfl (.storeObj (by kernel_rfl) rfl rfl rfl rfl (by repeat (first | exact zh | apply zt)) (by first | (simp; done) | (simp [Value.cells]; done))) ?_
   refine O.q 1 rfl <| O.nil <| S.seq <| S.region rfl <| O.op (.p rfl) (.loA (news := [_, _, _, _, _]) Tryz.isAgg52) ?_
   refine O.op (.p rfl) (.loA (news := [_, _, _, _, _]) Tryz.isAgg52) ?_
   refine O.op (.p rfl) (.build (cs := [_, _, _, _, _, _, _, _, _, _]) Tryz.underlying55 rfl rfl rfl rfl rfl) <| O.opE (.p rfl) (.alloc (cs := [.int .i64 0, .int .i64 0, .int .i64 0, .slice none 0 0, .slice none 0 0, .int .i64 0, .int .i64 0, .int .i64 0, .slice none 0 0, .slice none 0 0]) Tryz.zeroValue55 rfl) ?_
   rintro _ _ ⟨b9, rfl, rfl⟩
   refine O.opU rfl (.storeObj (by kernel_rfl) rfl rfl rfl rfl (by repeat (first | exact zh | apply zt)) (by first | (simp; done) | (simp [Value.cells]; done))) ?_
   refine O.nil (S.seq (S.seq ?_))
   cases e3 : z.2.done with
   | true =>
    refine S.region rfl <| O.q 1 rfl <| O.callS (.p rfl) rfl F.ok91 rfl rfl (by repeat (first | exact zh | apply zt)) rdDone_c ?_
    rintro v28 _ ⟨rfl, rfl⟩
    try simp only [zx1, zx2, zx3]
    refine O.sT 28 rfl (by exact e3) ?_
    refine O.op (.p rfl) (.not rfl) <| O.q 2 rfl <| O.op (.g rfl rfl) (.neq rfl rfl) <| O.sT 32 rfl (by decide) ?_
    refine O.q 10 rfl <| O.nil <| S.condT rfl <| S.seq <| S.region rfl <| O.op (.p rfl) (.build (cs := [_, _, _, _, _, _, _, _, _, _]) Tryz.underlying55 rfl rfl rfl rfl rfl) <| O.opU rfl (.storeObj (by kernel_rfl) rfl rfl rfl rfl (by repeat (first | exact zh | apply zt)) (by first | (simp; done) | (simp [Value.cells]; done))) ?_
    refine O.q 1 rfl <| O.nil <| S.retCellT Tryz.results194 rfl rfl (by repeat (first | exact zh | apply zt)) (LoadsAs.agg Tryz.isAgg55 (by kernel_rfl)) fun w hw => Holds.end_ hR hw ?_
    exact pk (.inr ⟨hno, rfl, rfl⟩)
   | false =>
    refine S.region rfl <| O.q 1 rfl <| O.callS (.p rfl) rfl F.ok91 rfl rfl (by repeat (first | exact zh | apply zt)) rdDone_c ?_
    rintro v28 _ ⟨rfl, rfl⟩
    try simp only [zx1, zx2, zx3]
    refine O.sF 28 rfl (by exact e3) ?_
    refine O.op (.p rfl) (.not rfl) <| O.q 13 rfl <| O.nil <| S.condT rfl <| S.seq <| S.region rfl <| O.op (.p rfl) (.build (cs := [_, _, _, _, _, _, _, _, _, _]) Tryz.underlying55 rfl rfl rfl rfl rfl) <| O.opU rfl (.storeObj (by kernel_rfl) rfl rfl rfl rfl (by repeat (first | exact zh | apply zt)) (by first | (simp; done) | (simp [Value.cells]; done))) ?_
    refine O.q 1 rfl <| O.nil <| S.retCellT Tryz.results194 rfl rfl (by repeat (first | exact zh | apply zt)) (LoadsAs.agg Tryz.isAgg55 (by kernel_rfl)) fun w hw => Holds.end_ hR hw ?_
    exact pk (.inr ⟨hno, rfl, rfl⟩)
  | some c =>
   refine S.region rfl <| O.q 1 rfl <| O.callS (.p rfl) rfl F.ok129 rfl rfl (by repeat (first | exact zh | apply zt)) (rdBytes_c _ (by simp; omega)) ?_
   rintro v14 _ ⟨a14, c14, rfl, rfl⟩
   try simp only [zx1, zx2, zx3]
   rw [hy]
   refine O.frzA (by repeat (first | exact zh | apply zt)) fun g hs hm ha14 => ?_
   replace hg := Fr.sub_trans hg hs
   replace hR := melted hR hm
   try replace ha := ha.mono hs
   clear hs hm
   refine O.call0 (.p rfl) rfl F.ok192 rfl rfl ((tGetN_c e1 ha14 lo)) ?_
   rintro v15 _ ⟨rfl, rfl⟩
   try simp only [zx1, zx2, zx3]
   refine O.q 3 rfl <| O.opE (.p rfl) (.alloc (cs := [.int .i64 0, .int .i64 0, .int .i64 0, .slice none 0 0, .slice none 0 0]) Tryz.zeroValue52 rfl) ?_
   rintro _ _ ⟨b5, rfl, rfl⟩
   refine O.opU rfl (.storeObj (by kernel_rfl) rfl rfl rfl rfl (by repeat (first | exact zh | apply zt)) (by first | (simp; done) | (simp [Value.cells]; done))) ?_
   refine O.q 1 rfl <| O.nil <| S.seq <| S.region rfl <| O.q 1 rfl <| O.callS (.p rfl) rfl F.ok129 rfl rfl (by repeat (first | exact zh | apply zt)) (rdBytes_c _ (by omega)) ?_
   rintro v20 _ ⟨a20, c20, rfl, rfl⟩
   try simp only [zx1, zx2, zx3]
   rw [hz]
   refine O.frzA (by repeat (first | exact zh | apply zt)) fun g hs hm ha20 => ?_
   replace hg := Fr.sub_trans hg hs
   replace hR := melted hR hm
   try replace ha := ha.mono hs
   try replace ha14 := ha14.mono hs
   clear hs hm
   refine O.call0 (.p rfl) rfl F.ok192 rfl rfl ((tGetY_c e2 ha20 lz)) ?_
   rintro v21 _ ⟨a8, c8, a9, c9, rfl, rfl⟩
   try simp only [zx1, zx2, zx3]
   refine O.q 3 rfl <| O.opE (.p rfl) (.alloc (cs := [.int .i64 0, .int .i64 0, .int .i64 0, .slice none 0 0, .slice none 0 0]) Tryz.zeroValue52 rfl) ?_
   rintro _ _ ⟨b7, rfl, rfl⟩
   refine O.opU rfl (.storeObj (by kernel_rfl) rfl rfl rfl rfl (by repeat (first | exact zh | apply zt)) (by first | (simp; done) | (simp [Value.cells]; done))) ?_
   refine O.q 1 rfl <| O.nil <| S.seq <| S.region rfl <| O.op (.p rfl) (.loA (news := [_, _, _, _, _]) Tryz.isAgg52) ?_
   refine O.op (.p rfl) (.loA (news := [_, _, _, _, _]) Tryz.isAgg52) ?_
   refine O.op (.p rfl) (.build (cs := [_, _, _, _, _, _, _, _, _, _]) Tryz.underlying55 rfl rfl rfl rfl rfl) <| O.opE (.p rfl) (.alloc (cs := [.int .i64 0, .int .i64 0, .int .i64 0, .slice none 0 0, .slice none 0 0, .int .i64 0, .int .i64 0, .int .i64 0, .slice none 0 0, .slice none 0 0]) Tryz.zeroValue55 rfl) ?_
   rintro _ _ ⟨b9, rfl, rfl⟩
   refine O.opU rfl (.storeObj (by kernel_rfl) rfl rfl rfl rfl (by repeat (first | exact zh | apply zt)) (by first | (simp; done) | (simp [Value.cells]; done))) ?_
   refine O.nil (S.seq (S.seq ?_))
   cases e3 : z.2.done with
   | true =>
    refine S.region rfl <| O.q 1 rfl <| O.callS (.p rfl) rfl F.ok91 rfl rfl (by repeat (first | exact zh | apply zt)) rdDone_c ?_
    rintro v28 _ ⟨rfl, rfl⟩
    try simp only [zx1, zx2, zx3]
    refine O.sT 28 rfl (by exact e3) ?_
    refine O.op (.p rfl) (.not rfl) <| O.q 2 rfl <| O.op (.g rfl rfl) (.neq rfl rfl) <| O.sT 32 rfl (by decide) ?_
    refine O.q 10 rfl <| O.nil <| S.condT rfl <| S.seq <| S.region rfl <| O.op (.p rfl) (.build (cs := [_, _, _, _, _, _, _, _, _, _]) Tryz.underlying55 rfl rfl rfl rfl rfl) <| O.opU rfl (.storeObj (by kernel_rfl) rfl rfl rfl rfl (by repeat (first | exact zh | apply zt)) (by first | (simp; done) | (simp [Value.cells]; done))) ?_
    refine O.q 1 rfl <| O.nil <| S.retCellT Tryz.results194 rfl rfl (by repeat (first | exact zh | apply zt)) (LoadsAs.agg Tryz.isAgg55 (by kernel_rfl)) fun w hw => Holds.end_ hR hw ?_
    exact pk (.inr ⟨hno, rfl, rfl⟩)
   | false =>
    refine S.region rfl <| O.q 1 rfl <| O.callS (.p rfl) rfl F.ok91 rfl rfl (by repeat (first | exact zh | apply zt)) rdDone_c ?_
    rintro v28 _ ⟨rfl, rfl⟩
    try simp only [zx1, zx2, zx3]
    refine O.sF 28 rfl (by exact e3) ?_
    refine O.op (.p rfl) (.not rfl) <| O.q 13 rfl <| O.nil <| S.condT rfl <| S.seq <| S.region rfl <| O.op (.p rfl) (.build (cs := [_, _, _, _, _, _, _, _, _, _]) Tryz.underlying55 rfl rfl rfl rfl rfl) <| O.opU rfl (.storeObj (by kernel_rfl) rfl rfl rfl rfl (by repeat (first | exact zh | apply zt)) (by first | (simp; done) | (simp [Value.cells]; done))) ?_
    refine O.q 1 rfl <| O.nil <| S.retCellT Tryz.results194 rfl rfl (by repeat (first | exact zh | apply zt)) (LoadsAs.agg Tryz.isAgg55 (by kernel_rfl)) fun w hw => Holds.end_ hR hw ?_
    exact pk (.inr ⟨hno, rfl, rfl⟩)
 | some a =>
  cases e2 : rootGet z.1 with
  | none =>
   have hno : evdGet b = none := by rw [hev, e1, e2]; rfl
   refine S.region rfl <| O.q 1 rfl <| O.callS (.p rfl) rfl F.ok129 rfl rfl (by repeat (first | exact zh | apply zt)) (rdBytes_c _ (by simp; omega)) ?_
   rintro v14 _ ⟨a14, c14, rfl, rfl⟩
   try simp only [zx1, zx2, zx3]
   rw [hy]
   refine O.frzA (by repeat (first | exact zh | apply zt)) fun g hs hm ha14 => ?_
   replace hg := Fr.sub_trans hg hs
   replace hR := melted hR hm
   try replace ha := ha.mono hs
   clear hs hm
   refine O.call0 (.p rfl) rfl F.ok192 rfl rfl ((tGetY_c e1 ha14 lo)) ?_
   rintro v15 _ ⟨a3, c3, a4, c4, rfl, rfl⟩
   try simp only [zx1, zx2, zx3]
   refine O.q 3 rfl <| O.opE (.p rfl) (.alloc (cs := [.int .i64 0, .int .i64 0, .int .i64 0, .slice none 0 0, .slice none 0 0]) Tryz.zeroValue52 rfl) ?_
   rintro _ _ ⟨b5, rfl, rfl⟩
   refine O.opU rfl (.storeObj (by kernel_rfl) rfl rfl rfl rfl (by repeat (first | exact zh | apply zt)) (by first | (simp; done) | (simp [Value.cells]; done))) ?_
   refine O.q 1 rfl <| O.nil <| S.seq <| S.region rfl <| O.q 1 rfl <| O.callS (.p rfl) rfl F.ok129 rfl rfl (by repeat (first | exact zh | apply zt)) (rdBytes_c _ (by omega)) ?_
   rintro v20 _ ⟨a20, c20, rfl, rfl⟩
   try simp only [zx1, zx2, zx3]
   rw [hz]
   refine O.frzA (by repeat (first | exact zh | apply zt)) fun g hs hm ha20 => ?_
   replace hg := Fr.sub_trans hg hs
   replace hR := melted hR hm
   try replace ha := ha.mono hs
   try replace ha14 := ha14.mono hs
   clear hs hm
   refine O.call0 (.p rfl) rfl F.ok192 rfl rfl ((tGetN_c e2 ha20 lz)) ?_
   rintro v21 _ ⟨rfl, rfl⟩
   try simp only [zx1, zx2, zx3]
   refine O.q 3 rfl <| O.opE (.p rfl) (.alloc (cs := [.int .i64 0, .int .i64 0, .int .i64 0, .slice none 0 0, .slice none 0 0]) Tryz.zeroValue52 rfl) ?_
   rintro _ _ ⟨b7, rfl, rfl⟩
   refine O.opU rfl (.storeObj (by kernel_rfl) rfl rfl rfl rfl (by repeat (first | exact zh | apply zt)) (by first | (simp; done) | (simp [Value.cells]; done))) ?_
   refine O.q 1 rfl <| O.nil <| S.seq <| S.region rfl <| O.op (.p rfl) (.loA (news := [_, _, _, _, _]) Tryz.isAgg52) ?_
   refine O.op (.p rfl) (.loA (news := [_, _, _, _, _]) Tryz.isAgg52) ?_
   refine O.op (.p rfl) (.build (cs := [_, _, _, _, _, _, _, _, _, _]) Tryz.underlying55 rfl rfl rfl rfl rfl) <| O.opE (.p rfl) (.alloc (cs := [.int .i64 0, .int .i64 0, .int .i64 0, .slice none 0 0, .slice none 0 0, .int .i64 0, .int .i64 0, .int .i64 0, .slice none 0 0, .slice none 0 0]) Tryz.zeroValue55 rfl) ?_
   rintro _ _ ⟨b9, rfl, rfl⟩
   refine O.opU rfl (.storeObj (by kernel_rfl) rfl rfl rfl rfl (by repeat (first | exact zh | apply zt)) (by first | (simp; done) | (simp [Value.cells]; done))) ?_
   refine O.nil (S.seq (S.seq ?_))
   cases e3 : z.2.done with
   | true =>
    refine S.region rfl <| O.q 1 rfl <| O.callS (.p rfl) rfl F.ok91 rfl rfl (by repeat (first | exact zh | apply zt)) rdDone_c ?_
    rintro v28 _ ⟨rfl, rfl⟩
    try simp only [zx1, zx2, zx3]
    refine O.sT 28 rfl (by exact e3) ?_
    refine O.op (.p rfl) (.not rfl) <| O.q 2 rfl <| O.op (.g rfl rfl) (.neq rfl rfl) <| O.sF 32 rfl (by decide) ?_
    refine O.q 3 rfl <| O.op (.g rfl rfl) (.neq rfl rfl) <| O.sT 36 rfl (by decide) ?_
    refine O.q 6 rfl <| O.nil <| S.condT rfl <| S.seq <| S.region rfl <| O.op (.p rfl) (.build (cs := [_, _, _, _, _, _, _, _, _, _]) Tryz.underlying55 rfl rfl rfl rfl rfl) <| O.opU rfl (.storeObj (by kernel_rfl) rfl rfl rfl rfl (by repeat (first | exact zh | apply zt)) (by first | (simp; done) | (simp [Value.cells]; done))) ?_
    refine O.q 1 rfl <| O.nil <| S.retCellT Tryz.results194 rfl rfl (by repeat (first | exact zh | apply zt)) (LoadsAs.agg Tryz.isAgg55 (by kernel_rfl)) fun w hw => Holds.end_ hR hw ?_
    exact pk (.inr ⟨hno, rfl, rfl⟩)
   | false =>
    refine S.region rfl <| O.q 1 rfl <| O.callS (.p rfl) rfl F.ok91 rfl rfl (by repeat (first | exact zh | apply zt)) rdDone_c ?_
    rintro v28 _ ⟨rfl, rfl⟩
    try simp only [zx1, zx2, zx3]
    refine O.sF 28 rfl (by exact e3) ?_
    refine O.op (.p rfl) (.not rfl) <| O.q 13 rfl <| O.nil <| S.condT rfl <| S.seq <| S.region rfl <| O.op (.p rfl) (.build (cs := [_, _, _, _, _, _, _, _, _, _]) Tryz.underlying55 rfl rfl rfl rfl rfl) <| O.opU rfl (.storeObj (by kernel_rfl) rfl rfl rfl rfl (by repeat (first | exact zh | apply zt)) (by first | (simp; done) | (simp [Value.cells]; done))) ?_
    refine O.q 1 rfl <| O.nil <| S.retCellT Tryz.results194 rfl rfl (by repeat (first | exact zh | apply zt)) (LoadsAs.agg Tryz.isAgg55 (by kernel_rfl)) fun w hw => Holds.end_ hR hw ?_
    exact pk (.inr ⟨hno, rfl, rfl⟩)
  | some c =>
   have hev2 : evdGet b = if z.2.done = true ∧ evdOk (a, c, ()) = true then some (a, c, ()) else none := by rw [hev, e1, e2]; rfl
   have oka := rootOk_iff.1 (rootGet_iff.1 e1).1
   have okc := rootOk_iff.1 (rootGet_iff.1 e2).1
   have sa := rootShape_iff.1 oka.1
   have sc := rootShape_iff.1 okc.1
   have hrel : ∀ {m : Fr} (v3 v4 v8 v9 : Value), Arr Rp.u8 m v3 a.2.2.2.1 → Arr Rp.u8 m v4 a.2.2.2.2.1 → Arr Rp.u8 m v8 c.2.2.2.1 → Arr Rp.u8 m v9 c.2.2.2.2.1 → EvdRp.rel m [.int .i64 a.1, .int .i64 a.2.1, .int .i64 a.2.2.1, v3, v4, .int .i64 c.1, .int .i64 c.2.1, .int .i64 c.2.2.1, v8, v9] (a, c, ()) := fun v3 v4 v8 v9 h3 h4 h8 h9 => EvdRp.mk ⟨by omega, by omega⟩ ⟨by omega, by omega⟩ ⟨by omega, by omega⟩ h3 h4 ⟨by omega, by omega⟩ ⟨by omega, by omega⟩ ⟨by omega, by omega⟩ h8 h9
   clear oka okc sa sc
   refine S.region rfl <| O.q 1 rfl <| O.callS (.p rfl) rfl F.ok129 rfl rfl (by repeat (first | exact zh | apply zt)) (rdBytes_c _ (by simp; omega)) ?_
   rintro v14 _ ⟨a14, c14, rfl, rfl⟩
   try simp only [zx1, zx2, zx3]
   rw [hy]
   refine O.frzA (by repeat (first | exact zh | apply zt)) fun g hs hm ha14 => ?_
   replace hg := Fr.sub_trans hg hs
   replace hR := melted hR hm
   try replace ha := ha.mono hs
   clear hs hm
   refine O.call0 (.p rfl) rfl F.ok192 rfl rfl ((tGetY_c e1 ha14 lo)) ?_
   rintro v15 _ ⟨a3, c3, a4, c4, rfl, rfl⟩
   try simp only [zx1, zx2, zx3]
   refine O.q 3 rfl <| O.opE (.p rfl) (.alloc (cs := [.int .i64 0, .int .i64 0, .int .i64 0, .slice none 0 0, .slice none 0 0]) Tryz.zeroValue52 rfl) ?_
   rintro _ _ ⟨b5, rfl, rfl⟩
   refine O.opU rfl (.storeObj (by kernel_rfl) rfl rfl rfl rfl (by repeat (first | exact zh | apply zt)) (by first | (simp; done) | (simp [Value.cells]; done))) ?_
   refine O.q 1 rfl <| O.nil <| S.seq <| S.region rfl <| O.q 1 rfl <| O.callS (.p rfl) rfl F.ok129 rfl rfl (by repeat (first | exact zh | apply zt)) (rdBytes_c _ (by omega)) ?_
   rintro v20 _ ⟨a20, c20, rfl, rfl⟩
   try simp only [zx1, zx2, zx3]
   rw [hz]
   refine O.frzA (by repeat (first | exact zh | apply zt)) fun g hs hm ha20 => ?_
   replace hg := Fr.sub_trans hg hs
   replace hR := melted hR hm
   try replace ha := ha.mono hs
   try replace ha14 := ha14.mono hs
   clear hs hm
   refine O.call0 (.p rfl) rfl F.ok192 rfl rfl ((tGetY_c e2 ha20 lz)) ?_
   rintro v21 _ ⟨a8, c8, a9, c9, rfl, rfl⟩
   try simp only [zx1, zx2, zx3]
   refine O.q 3 rfl <| O.opE (.p rfl) (.alloc (cs := [.int .i64 0, .int .i64 0, .int .i64 0, .slice none 0 0, .slice none 0 0]) Tryz.zeroValue52 rfl) ?_
   rintro _ _ ⟨b7, rfl, rfl⟩
   refine O.opU rfl (.storeObj (by kernel_rfl) rfl rfl rfl rfl (by repeat (first | exact zh | apply zt)) (by first | (simp; done) | (simp [Value.cells]; done))) ?_
   refine O.q 1 rfl <| O.nil <| S.seq <| S.region rfl <| O.op (.p rfl) (.loA (news := [_, _, _, _, _]) Tryz.isAgg52) ?_
   refine O.op (.p rfl) (.loA (news := [_, _, _, _, _]) Tryz.isAgg52) ?_
   refine O.op (.p rfl) (.build (cs := [_, _, _, _, _, _, _, _, _, _]) Tryz.underlying55 rfl rfl rfl rfl rfl) <| O.opE (.p rfl) (.alloc (cs := [.int .i64 0, .int .i64 0, .int .i64 0, .slice none 0 0, .slice none 0 0, .int .i64 0, .int .i64 0, .int .i64 0, .slice none 0 0, .slice none 0 0]) Tryz.zeroValue55 rfl) ?_
   rintro _ _ ⟨b9, rfl, rfl⟩
   refine O.opU rfl (.storeObj (by kernel_rfl) rfl rfl rfl rfl (by repeat (first | exact zh | apply zt)) (by first | (simp; done) | (simp [Value.cells]; done))) ?_
   refine O.nil (S.seq (S.seq ?_))
   cases e3 : z.2.done with
   | false =>
    have hno : evdGet b = none := by rw [hev2, if_neg (fun q => by rw [e3] at q; exact absurd q.1 (by decide))]
    refine S.region rfl <| O.q 1 rfl <| O.callS (.p rfl) rfl F.ok91 rfl rfl (by repeat (first | exact zh | apply zt)) rdDone_c ?_
    rintro v28 _ ⟨rfl, rfl⟩
    try simp only [zx1, zx2, zx3]
    refine O.sF 28 rfl (by exact e3) ?_
    refine O.op (.p rfl) (.not rfl) <| O.q 13 rfl <| O.nil <| S.condT rfl <| S.seq <| S.region rfl <| O.op (.p rfl) (.build (cs := [_, _, _, _, _, _, _, _, _, _]) Tryz.underlying55 rfl rfl rfl rfl rfl) <| O.opU rfl (.storeObj (by kernel_rfl) rfl rfl rfl rfl (by repeat (first | exact zh | apply zt)) (by first | (simp; done) | (simp [Value.cells]; done))) ?_
    refine O.q 1 rfl <| O.nil <| S.retCellT Tryz.results194 rfl rfl (by repeat (first | exact zh | apply zt)) (LoadsAs.agg Tryz.isAgg55 (by kernel_rfl)) fun w hw => Holds.end_ hR hw ?_
    exact pk (.inr ⟨hno, rfl, rfl⟩)
   | true =>
    cases e4 : evdOk (a, c, ()) with
    | true =>
     have hyes : evdGet b = some (a, c, ()) := by rw [hev2, if_pos ⟨e3, e4⟩]
     refine S.region rfl <| O.q 1 rfl <| O.callS (.p rfl) rfl F.ok91 rfl rfl (by repeat (first | exact zh | apply zt)) rdDone_c ?_
     rintro v28 _ ⟨rfl, rfl⟩
     try simp only [zx1, zx2, zx3]
     refine O.sT 28 rfl (by exact e3) ?_
     refine O.op (.p rfl) (.not rfl) <| O.q 2 rfl <| O.op (.g rfl rfl) (.neq rfl rfl) <| O.sF 32 rfl (by decide) ?_
     refine O.q 3 rfl <| O.op (.g rfl rfl) (.neq rfl rfl) <| O.sF 36 rfl (by decide) ?_
     refine O.q 2 rfl <| O.op (.g rfl rfl) (.loA (news := [_, _, _, _, _, _, _, _, _, _]) Tryz.isAgg55) ?_
     refine O.callB (.g rfl rfl) rfl F.ok271 rfl rfl (bs := [OwnP Rp.u8 5 (.slice a3 a.2.2.2.1.length c3) a.2.2.2.1, OwnP Rp.u8 5 (.slice a4 a.2.2.2.2.1.length c4) a.2.2.2.2.1, OwnP Rp.u8 5 (.slice a8 c.2.2.2.1.length c8) c.2.2.2.1, OwnP Rp.u8 5 (.slice a9 c.2.2.2.2.1.length c9) c.2.2.2.2.1]) (by repeat (first | exact zsn | (apply zsc; focus (repeat (first | exact zh | apply zt))))) (fun m hm hd => eRight_c (hrel _ _ _ _ (hm.arr.right hd) (hm.tail.arr.right hd) (hm.tail.tail.arr.right hd) (hm.tail.tail.tail.arr.right hd))) ?_
     rintro v40 _ ⟨rfl, rfl⟩
     try simp only [zx1, zx2, zx3]
     refine O.sT 40 rfl (by exact e4) ?_
     refine O.op (.g rfl rfl) (.not rfl) <| O.q 1 rfl <| O.nil <| S.condF rfl <| S.skip <| S.seq <| S.region rfl <| O.op (.p rfl) (.loA (news := [_, _, _, _, _, _, _, _, _, _]) Tryz.isAgg55) ?_
     refine O.opU rfl (.storeObj (by kernel_rfl) rfl rfl rfl rfl (by repeat (first | exact zh | apply zt)) (by first | (simp; done) | (simp [Value.cells]; done))) ?_
     refine O.q 1 rfl <| O.nil <| S.retCellT Tryz.results194 rfl rfl (by repeat (first | exact zh | apply zt)) (LoadsAs.agg Tryz.isAgg55 (by kernel_rfl)) fun w hw => Holds.end_ hR hw ?_
     exact pk (.inl ⟨_, a3, c3, a4, c4, a8, c8, a9, c9, hyes, rfl, rfl⟩)
    | false =>
     have hno : evdGet b = none := by rw [hev2, if_neg (fun q => by rw [e4] at q; exact absurd q.2 (by decide))]
     refine S.region rfl <| O.q 1 rfl <| O.callS (.p rfl) rfl F.ok91 rfl rfl (by repeat (first | exact zh | apply zt)) rdDone_c ?_
     rintro v28 _ ⟨rfl, rfl⟩
     try simp only [zx1, zx2, zx3]
     refine O.sT 28 rfl (by exact e3) ?_
     refine O.op (.p rfl) (.not rfl) <| O.q 2 rfl <| O.op (.g rfl rfl) (.neq rfl rfl) <| O.sF 32 rfl (by decide) ?_
     refine O.q 3 rfl <| O.op (.g rfl rfl) (.neq rfl rfl) <| O.sF 36 rfl (by decide) ?_
     refine O.q 2 rfl <| O.op (.g rfl rfl) (.loA (news := [_, _, _, _, _, _, _, _, _, _]) Tryz.isAgg55) ?_
     refine O.callB (.g rfl rfl) rfl F.ok271 rfl rfl (bs := [OwnP Rp.u8 5 (.slice a3 a.2.2.2.1.length c3) a.2.2.2.1, OwnP Rp.u8 5 (.slice a4 a.2.2.2.2.1.length c4) a.2.2.2.2.1, OwnP Rp.u8 5 (.slice a8 c.2.2.2.1.length c8) c.2.2.2.1, OwnP Rp.u8 5 (.slice a9 c.2.2.2.2.1.length c9) c.2.2.2.2.1]) (by repeat (first | exact zsn | (apply zsc; focus (repeat (first | exact zh | apply zt))))) (fun m hm hd => eRight_c (hrel _ _ _ _ (hm.arr.right hd) (hm.tail.arr.right hd) (hm.tail.tail.arr.right hd) (hm.tail.tail.tail.arr.right hd))) ?_
     rintro v40 _ ⟨rfl, rfl⟩
     try simp only [zx1, zx2, zx3]
     refine O.sF 40 rfl (by exact e4) ?_
     refine O.op (.g rfl rfl) (.not rfl) <| O.q 1 rfl <| O.nil <| S.condT rfl <| S.seq <| S.region rfl <| O.op (.p rfl) (.build (cs := [_, _, _, _, _, _, _, _, _, _]) Tryz.underlying55 rfl rfl rfl rfl rfl) <| O.opU rfl (.storeObj (by kernel_rfl) rfl rfl rfl rfl (by repeat (first | exact zh | apply zt)) (by first | (simp; done) | (simp [Value.cells]; done))) ?_
     refine O.q 1 rfl <| O.nil <| S.retCellT Tryz.results194 rfl rfl (by repeat (first | exact zh | apply zt)) (LoadsAs.agg Tryz.isAgg55 (by kernel_rfl)) fun w hw => Holds.end_ hR hw ?_
     exact pk (.inr ⟨hno, rfl, rfl⟩)
theorem evd_tY {b : List UInt8} {x : EvdT} {v : Value} {η : List SProp} (e : evdGet b = some x) (h : evd_t b v η) : ∃ a3 c3 a4 c4 a8 c8 a9 c9, v = .tuple #[.agg (evdV x (.slice a3 x.1.2.2.2.1.length c3) (.slice a4 x.1.2.2.2.2.1.length c4) (.slice a8 x.2.1.2.2.2.1.length c8) (.slice a9 x.2.1.2.2.2.2.1.length c9)).toArray, .int .i64 0] ∧
  η = evdWs x (.slice a3 x.1.2.2.2.1.length c3) (.slice a4 x.1.2.2.2.2.1.length c4) (.slice a8 x.2.1.2.2.2.1.length c8) (.slice a9 x.2.1.2.2.2.2.1.length c9) := by
 rcases h with ⟨y, a3, c3, a4, c4, a8, c8, a9, c9, h1, rfl, rfl⟩ | ⟨h1, _⟩
 ·rw [e] at h1; obtain rfl := Option.some.inj h1; exact ⟨a3, c3, a4, c4, a8, c8, a9, c9, rfl, rfl⟩
 ·rw [e] at h1; cases h1
theorem evd_tN {b : List UInt8} {v : Value} {η : List SProp} (e : evdGet b = none) (h : evd_t b v η) : v = .tuple #[.agg evd0.toArray, .int .i64 4] ∧ η = [] := by
 rcases h with ⟨y, a3, c3, a4, c4, a8, c8, a9, c9, h1, _⟩ | ⟨_, h1, h2⟩
 ·rw [e] at h1; cases h1
 ·exact ⟨h1, h2⟩
end Go.Proofs.YtodhbhanmdfdeaaGreat
