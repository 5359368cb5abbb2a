/- Texts of this proof. -/
import Derived.Test.YtodhbhanmdfdeaaGreatQFc
import Derived.Test.YtodhbhanmdfdeaaGreatQRef7
import Derived.Test.YtodhbhanmdfdeaaGreatQRef15
import Derived.Test.YtodhbhanmdfdeaaGreatQSpRef
import Derived.Test.YtodhbhanmdfdeaaGreatQSpAuto
open Go Go.Sp
set_option maxRecDepth 100000
attribute [local irreducible] obj Own OwnP
namespace Go.Proofs.YtodhbhanmdfdeaaGreat
theorem r8shape_c {r : Fr} {cs : List Value} {x : RecT} (h : RecRp.rel r cs x) : Con Tryz.prog 215 #[.agg cs.toArray] r [] (Ret fun v η => v = .bool (shaped x) ∧ η = []) := by
 obtain ⟨xa3, xa5, xa6, xc3, xc5, xc6, rfl, k0, k1, k2, k3, k5, k6⟩ := RecRp.sh h
 have hz0 := str_size x.1
 refine Con.of (n := 51) _ rfl Tryz.func215 rfl rfl rfl fun g hg R hR => ?_
 have h := h.mono hg
 have k3 := k3.mono hg
 have k5 := k5.mono hg
 have k6 := k6.mono hg
 refine S.seq <| S.region rfl <| O.opE (.p rfl) (.box (cs := [_, _, _, _, _, _, _]) rfl rfl) ?_
 rintro _ _ ⟨b1, rfl, rfl⟩
 refine O.q 1 rfl <| O.nil <| S.seq <| S.frzO (by repeat (first | exact zh | apply zt)) fun g hs hm hb1 => ?_
 replace hg := Fr.sub_trans hg hs
 replace hR := melted hR hm
 try replace h := h.mono hs
 try replace k3 := k3.mono hs
 try replace k5 := k5.mono hs
 try replace k6 := k6.mono hs
 clear hs hm
 by_cases n0 : ¬ (1 ≤ x.1.length)
 ·
  refine S.region rfl <| O.op (.p rfl) (.fieldAddr F.fld74x1 rfl) <| O.op (.p rfl) (.loadAt F.flat3 rfl (hb1.drop 1) rfl) ?_
  refine O.op (.p rfl) (.fieldAddr F.fld74x2 rfl) <| O.op (.p rfl) (.loadAt F.flat3 rfl (hb1.drop 2) rfl) ?_
  refine O.op (.p rfl) (.build (cs := [_, _]) Tryz.underlying166 rfl rfl rfl rfl rfl) <| O.opE (.p rfl) (.alloc (cs := [.int .i64 0, .int .i64 0]) Tryz.zeroValue166 rfl) ?_
  rintro _ _ ⟨b3, rfl, rfl⟩
  refine O.opU rfl (.storeObj (by kernel_rfl) rfl rfl rfl rfl (by repeat (first | exact zh | apply zt)) (by first | (simp; done) | (simp [Value.cells]; done))) ?_
  refine O.nil <| S.seq <| S.seq <| S.frzO (by repeat (first | exact zh | apply zt)) fun g hs hm hb3 => ?_
  replace hg := Fr.sub_trans hg hs
  replace hR := melted hR hm
  try replace h := h.mono hs
  try replace k3 := k3.mono hs
  try replace k5 := k5.mono hs
  try replace k6 := k6.mono hs
  try replace hb1 := hb1.mono hs
  clear hs hm
  refine S.region rfl <| O.op (.p rfl) (.fieldAddr F.fld74x0 rfl) <| O.op (.p rfl) (.loadAt F.flat9 rfl hb1 rfl) ?_
  refine O.op (.p rfl) (.lenS rfl Tryz.underlying9 rfl) <| O.op (.p rfl) (.lss rfl rfl) <| O.sT 12 rfl (by exact decide_eq_true (by rw [hz0]; omega)) ?_
  refine O.q 23 rfl <| O.nil <| S.condT rfl <| S.seq <| S.region rfl <| O.q 1 rfl <| O.nil ?_
  exact S.rt Tryz.results215 rfl hR ⟨congrArg _ (Bool.eq_false_iff.2 fun q => n0 (shaped_iff.1 q).1).symm, rfl⟩
 have c0 := Classical.not_not.1 n0
 by_cases n1 : ¬ (x.1.length ≤ 64)
 ·
  refine S.region rfl <| O.op (.p rfl) (.fieldAddr F.fld74x1 rfl) <| O.op (.p rfl) (.loadAt F.flat3 rfl (hb1.drop 1) rfl) ?_
  refine O.op (.p rfl) (.fieldAddr F.fld74x2 rfl) <| O.op (.p rfl) (.loadAt F.flat3 rfl (hb1.drop 2) rfl) ?_
  refine O.op (.p rfl) (.build (cs := [_, _]) Tryz.underlying166 rfl rfl rfl rfl rfl) <| O.opE (.p rfl) (.alloc (cs := [.int .i64 0, .int .i64 0]) Tryz.zeroValue166 rfl) ?_
  rintro _ _ ⟨b3, rfl, rfl⟩
  refine O.opU rfl (.storeObj (by kernel_rfl) rfl rfl rfl rfl (by repeat (first | exact zh | apply zt)) (by first | (simp; done) | (simp [Value.cells]; done))) ?_
  refine O.nil <| S.seq <| S.seq <| S.frzO (by repeat (first | exact zh | apply zt)) fun g hs hm hb3 => ?_
  replace hg := Fr.sub_trans hg hs
  replace hR := melted hR hm
  try replace h := h.mono hs
  try replace k3 := k3.mono hs
  try replace k5 := k5.mono hs
  try replace k6 := k6.mono hs
  try replace hb1 := hb1.mono hs
  clear hs hm
  refine S.region rfl <| O.op (.p rfl) (.fieldAddr F.fld74x0 rfl) <| O.op (.p rfl) (.loadAt F.flat9 rfl hb1 rfl) ?_
  refine O.op (.p rfl) (.lenS rfl Tryz.underlying9 rfl) <| O.op (.p rfl) (.lss rfl rfl) <| O.sF 12 rfl (by exact decide_eq_false (by rw [hz0]; omega)) ?_
  refine O.q 1 rfl <| O.op (.g rfl rfl) (.fieldAddr F.fld74x0 rfl) <| O.op (.g rfl rfl) (.loadAt F.flat9 rfl hb1 rfl) ?_
  refine O.op (.g rfl rfl) (.lenS rfl Tryz.underlying9 rfl) <| O.op (.g rfl rfl) (.gtr rfl rfl) <| O.sT 17 rfl (by exact decide_eq_true (by rw [hz0]; omega)) ?_
  refine O.q 18 rfl <| O.nil <| S.condT rfl <| S.seq <| S.region rfl <| O.q 1 rfl <| O.nil ?_
  exact S.rt Tryz.results215 rfl hR ⟨congrArg _ (Bool.eq_false_iff.2 fun q => n1 (shaped_iff.1 q).2.1).symm, rfl⟩
 have c1 := Classical.not_not.1 n1
 by_cases n2 : ¬ (dotOk (rDot x) = true)
 ·
  refine S.region rfl <| O.op (.p rfl) (.fieldAddr F.fld74x1 rfl) <| O.op (.p rfl) (.loadAt F.flat3 rfl (hb1.drop 1) rfl) ?_
  refine O.op (.p rfl) (.fieldAddr F.fld74x2 rfl) <| O.op (.p rfl) (.loadAt F.flat3 rfl (hb1.drop 2) rfl) ?_
  refine O.op (.p rfl) (.build (cs := [_, _]) Tryz.underlying166 rfl rfl rfl rfl rfl) <| O.opE (.p rfl) (.alloc (cs := [.int .i64 0, .int .i64 0]) Tryz.zeroValue166 rfl) ?_
  rintro _ _ ⟨b3, rfl, rfl⟩
  refine O.opU rfl (.storeObj (by kernel_rfl) rfl rfl rfl rfl (by repeat (first | exact zh | apply zt)) (by first | (simp; done) | (simp [Value.cells]; done))) ?_
  refine O.nil <| S.seq <| S.seq <| S.frzO (by repeat (first | exact zh | apply zt)) fun g hs hm hb3 => ?_
  replace hg := Fr.sub_trans hg hs
  replace hR := melted hR hm
  try replace h := h.mono hs
  try replace k3 := k3.mono hs
  try replace k5 := k5.mono hs
  try replace k6 := k6.mono hs
  try replace hb1 := hb1.mono hs
  clear hs hm
  refine S.region rfl <| O.op (.p rfl) (.fieldAddr F.fld74x0 rfl) <| O.op (.p rfl) (.loadAt F.flat9 rfl hb1 rfl) ?_
  refine O.op (.p rfl) (.lenS rfl Tryz.underlying9 rfl) <| O.op (.p rfl) (.lss rfl rfl) <| O.sF 12 rfl (by exact decide_eq_false (by rw [hz0]; omega)) ?_
  refine O.q 1 rfl <| O.op (.g rfl rfl) (.fieldAddr F.fld74x0 rfl) <| O.op (.g rfl rfl) (.loadAt F.flat9 rfl hb1 rfl) ?_
  refine O.op (.g rfl rfl) (.lenS rfl Tryz.underlying9 rfl) <| O.op (.g rfl rfl) (.gtr rfl rfl) <| O.sF 17 rfl (by exact decide_eq_false (by rw [hz0]; omega)) ?_
  refine O.q 2 rfl <| O.op (.g rfl rfl) (.loadAgg Tryz.isAgg166 (by kernel_rfl) rfl hb3) ?_
  refine O.call0 (.g rfl rfl) rfl F.ok286 rfl rfl ((r7dot_c (rDot x) rfl)) ?_
  rintro v21 _ ⟨rfl, rfl⟩
  try simp only [zx1, zx2, zx3]
  refine O.sF 21 rfl (by exact (by simpa using n2)) ?_
  refine O.op (.g rfl rfl) (.not rfl) <| O.q 13 rfl <| O.nil <| S.condT rfl <| S.seq <| S.region rfl <| O.q 1 rfl <| O.nil ?_
  exact S.rt Tryz.results215 rfl hR ⟨congrArg _ (Bool.eq_false_iff.2 fun q => n2 (shaped_iff.1 q).2.2.1).symm, rfl⟩
 have c2 := Classical.not_not.1 n2
 by_cases n3 : ¬ (vecOk x.2.2.2.1 = true)
 ·
  refine S.region rfl <| O.op (.p rfl) (.fieldAddr F.fld74x1 rfl) <| O.op (.p rfl) (.loadAt F.flat3 rfl (hb1.drop 1) rfl) ?_
  refine O.op (.p rfl) (.fieldAddr F.fld74x2 rfl) <| O.op (.p rfl) (.loadAt F.flat3 rfl (hb1.drop 2) rfl) ?_
  refine O.op (.p rfl) (.build (cs := [_, _]) Tryz.underlying166 rfl rfl rfl rfl rfl) <| O.opE (.p rfl) (.alloc (cs := [.int .i64 0, .int .i64 0]) Tryz.zeroValue166 rfl) ?_
  rintro _ _ ⟨b3, rfl, rfl⟩
  refine O.opU rfl (.storeObj (by kernel_rfl) rfl rfl rfl rfl (by repeat (first | exact zh | apply zt)) (by first | (simp; done) | (simp [Value.cells]; done))) ?_
  refine O.nil <| S.seq <| S.seq <| S.frzO (by repeat (first | exact zh | apply zt)) fun g hs hm hb3 => ?_
  replace hg := Fr.sub_trans hg hs
  replace hR := melted hR hm
  try replace h := h.mono hs
  try replace k3 := k3.mono hs
  try replace k5 := k5.mono hs
  try replace k6 := k6.mono hs
  try replace hb1 := hb1.mono hs
  clear hs hm
  refine S.region rfl <| O.op (.p rfl) (.fieldAddr F.fld74x0 rfl) <| O.op (.p rfl) (.loadAt F.flat9 rfl hb1 rfl) ?_
  refine O.op (.p rfl) (.lenS rfl Tryz.underlying9 rfl) <| O.op (.p rfl) (.lss rfl rfl) <| O.sF 12 rfl (by exact decide_eq_false (by rw [hz0]; omega)) ?_
  refine O.q 1 rfl <| O.op (.g rfl rfl) (.fieldAddr F.fld74x0 rfl) <| O.op (.g rfl rfl) (.loadAt F.flat9 rfl hb1 rfl) ?_
  refine O.op (.g rfl rfl) (.lenS rfl Tryz.underlying9 rfl) <| O.op (.g rfl rfl) (.gtr rfl rfl) <| O.sF 17 rfl (by exact decide_eq_false (by rw [hz0]; omega)) ?_
  refine O.q 2 rfl <| O.op (.g rfl rfl) (.loadAgg Tryz.isAgg166 (by kernel_rfl) rfl hb3) ?_
  refine O.call0 (.g rfl rfl) rfl F.ok286 rfl rfl ((r7dot_c (rDot x) rfl)) ?_
  rintro v21 _ ⟨rfl, rfl⟩
  try simp only [zx1, zx2, zx3]
  refine O.sT 21 rfl (by exact c2) ?_
  refine O.op (.g rfl rfl) (.not rfl) <| O.q 2 rfl <| O.op (.g rfl rfl) (.fieldAddr F.fld74x3 rfl) <| O.op (.g rfl rfl) (.loadAt F.flat72 rfl (hb1.drop 3) rfl) ?_
  refine O.call0 (.g rfl rfl) rfl F.ok287 rfl rfl ((r7right_c k3)) ?_
  rintro v27 _ ⟨rfl, rfl⟩
  try simp only [zx1, zx2, zx3]
  refine O.sF 27 rfl (by exact (by simpa using n3)) ?_
  refine O.op (.g rfl rfl) (.not rfl) <| O.q 7 rfl <| O.nil <| S.condT rfl <| S.seq <| S.region rfl <| O.q 1 rfl <| O.nil ?_
  exact S.rt Tryz.results215 rfl hR ⟨congrArg _ (Bool.eq_false_iff.2 fun q => n3 (shaped_iff.1 q).2.2.2.1).symm, rfl⟩
 have c3 := Classical.not_not.1 n3
 by_cases n4 : ¬ (hasR x.2.2.2.1 (rDot x) = false)
 ·
  refine S.region rfl <| O.op (.p rfl) (.fieldAddr F.fld74x1 rfl) <| O.op (.p rfl) (.loadAt F.flat3 rfl (hb1.drop 1) rfl) ?_
  refine O.op (.p rfl) (.fieldAddr F.fld74x2 rfl) <| O.op (.p rfl) (.loadAt F.flat3 rfl (hb1.drop 2) rfl) ?_
  refine O.op (.p rfl) (.build (cs := [_, _]) Tryz.underlying166 rfl rfl rfl rfl rfl) <| O.opE (.p rfl) (.alloc (cs := [.int .i64 0, .int .i64 0]) Tryz.zeroValue166 rfl) ?_
  rintro _ _ ⟨b3, rfl, rfl⟩
  refine O.opU rfl (.storeObj (by kernel_rfl) rfl rfl rfl rfl (by repeat (first | exact zh | apply zt)) (by first | (simp; done) | (simp [Value.cells]; done))) ?_
  refine O.nil <| S.seq <| S.seq <| S.frzO (by repeat (first | exact zh | apply zt)) fun g hs hm hb3 => ?_
  replace hg := Fr.sub_trans hg hs
  replace hR := melted hR hm
  try replace h := h.mono hs
  try replace k3 := k3.mono hs
  try replace k5 := k5.mono hs
  try replace k6 := k6.mono hs
  try replace hb1 := hb1.mono hs
  clear hs hm
  refine S.region rfl <| O.op (.p rfl) (.fieldAddr F.fld74x0 rfl) <| O.op (.p rfl) (.loadAt F.flat9 rfl hb1 rfl) ?_
  refine O.op (.p rfl) (.lenS rfl Tryz.underlying9 rfl) <| O.op (.p rfl) (.lss rfl rfl) <| O.sF 12 rfl (by exact decide_eq_false (by rw [hz0]; omega)) ?_
  refine O.q 1 rfl <| O.op (.g rfl rfl) (.fieldAddr F.fld74x0 rfl) <| O.op (.g rfl rfl) (.loadAt F.flat9 rfl hb1 rfl) ?_
  refine O.op (.g rfl rfl) (.lenS rfl Tryz.underlying9 rfl) <| O.op (.g rfl rfl) (.gtr rfl rfl) <| O.sF 17 rfl (by exact decide_eq_false (by rw [hz0]; omega)) ?_
  refine O.q 2 rfl <| O.op (.g rfl rfl) (.loadAgg Tryz.isAgg166 (by kernel_rfl) rfl hb3) ?_
  refine O.call0 (.g rfl rfl) rfl F.ok286 rfl rfl ((r7dot_c (rDot x) rfl)) ?_
  rintro v21 _ ⟨rfl, rfl⟩
  try simp only [zx1, zx2, zx3]
  refine O.sT 21 rfl (by exact c2) ?_
  refine O.op (.g rfl rfl) (.not rfl) <| O.q 2 rfl <| O.op (.g rfl rfl) (.fieldAddr F.fld74x3 rfl) <| O.op (.g rfl rfl) (.loadAt F.flat72 rfl (hb1.drop 3) rfl) ?_
  refine O.call0 (.g rfl rfl) rfl F.ok287 rfl rfl ((r7right_c k3)) ?_
  rintro v27 _ ⟨rfl, rfl⟩
  try simp only [zx1, zx2, zx3]
  refine O.sT 27 rfl (by exact c3) ?_
  refine O.op (.g rfl rfl) (.not rfl) <| O.q 2 rfl <| O.op (.g rfl rfl) (.fieldAddr F.fld74x3 rfl) <| O.op (.g rfl rfl) (.loadAt F.flat72 rfl (hb1.drop 3) rfl) ?_
  refine O.op (.g rfl rfl) (.loadAgg Tryz.isAgg166 (by kernel_rfl) rfl hb3) ?_
  refine O.call0 (.g rfl rfl) rfl F.ok216 rfl rfl ((r7has_c (rDot x) rfl k3)) ?_
  rintro v34 _ ⟨rfl, rfl⟩
  try simp only [zx1, zx2, zx3]
  refine O.sT 34 rfl (by exact (by simpa using n4)) ?_
  refine O.q 1 rfl <| O.nil <| S.condT rfl <| S.seq <| S.region rfl <| O.q 1 rfl <| O.nil ?_
  exact S.rt Tryz.results215 rfl hR ⟨congrArg _ (Bool.eq_false_iff.2 fun q => n4 (shaped_iff.1 q).2.2.2.2.1).symm, rfl⟩
 have c4 := Classical.not_not.1 n4
 by_cases n5 : ¬ (x.2.2.2.2.2.1.length ≤ 1024)
 ·
  refine S.region rfl <| O.op (.p rfl) (.fieldAddr F.fld74x1 rfl) <| O.op (.p rfl) (.loadAt F.flat3 rfl (hb1.drop 1) rfl) ?_
  refine O.op (.p rfl) (.fieldAddr F.fld74x2 rfl) <| O.op (.p rfl) (.loadAt F.flat3 rfl (hb1.drop 2) rfl) ?_
  refine O.op (.p rfl) (.build (cs := [_, _]) Tryz.underlying166 rfl rfl rfl rfl rfl) <| O.opE (.p rfl) (.alloc (cs := [.int .i64 0, .int .i64 0]) Tryz.zeroValue166 rfl) ?_
  rintro _ _ ⟨b3, rfl, rfl⟩
  refine O.opU rfl (.storeObj (by kernel_rfl) rfl rfl rfl rfl (by repeat (first | exact zh | apply zt)) (by first | (simp; done) | (simp [Value.cells]; done))) ?_
  refine O.nil <| S.seq <| S.seq <| S.frzO (by repeat (first | exact zh | apply zt)) fun g hs hm hb3 => ?_
  replace hg := Fr.sub_trans hg hs
  replace hR := melted hR hm
  try replace h := h.mono hs
  try replace k3 := k3.mono hs
  try replace k5 := k5.mono hs
  try replace k6 := k6.mono hs
  try replace hb1 := hb1.mono hs
  clear hs hm
  refine S.region rfl <| O.op (.p rfl) (.fieldAddr F.fld74x0 rfl) <| O.op (.p rfl) (.loadAt F.flat9 rfl hb1 rfl) ?_
  refine O.op (.p rfl) (.lenS rfl Tryz.underlying9 rfl) <| O.op (.p rfl) (.lss rfl rfl) <| O.sF 12 rfl (by exact decide_eq_false (by rw [hz0]; omega)) ?_
  refine O.q 1 rfl <| O.op (.g rfl rfl) (.fieldAddr F.fld74x0 rfl) <| O.op (.g rfl rfl) (.loadAt F.flat9 rfl hb1 rfl) ?_
  refine O.op (.g rfl rfl) (.lenS rfl Tryz.underlying9 rfl) <| O.op (.g rfl rfl) (.gtr rfl rfl) <| O.sF 17 rfl (by exact decide_eq_false (by rw [hz0]; omega)) ?_
  refine O.q 2 rfl <| O.op (.g rfl rfl) (.loadAgg Tryz.isAgg166 (by kernel_rfl) rfl hb3) ?_
  refine O.call0 (.g rfl rfl) rfl F.ok286 rfl rfl ((r7dot_c (rDot x) rfl)) ?_
  rintro v21 _ ⟨rfl, rfl⟩
  try simp only [zx1, zx2, zx3]
  refine O.sT 21 rfl (by exact c2) ?_
  refine O.op (.g rfl rfl) (.not rfl) <| O.q 2 rfl <| O.op (.g rfl rfl) (.fieldAddr F.fld74x3 rfl) <| O.op (.g rfl rfl) (.loadAt F.flat72 rfl (hb1.drop 3) rfl) ?_
  refine O.call0 (.g rfl rfl) rfl F.ok287 rfl rfl ((r7right_c k3)) ?_
  rintro v27 _ ⟨rfl, rfl⟩
  try simp only [zx1, zx2, zx3]
  refine O.sT 27 rfl (by exact c3) ?_
  refine O.op (.g rfl rfl) (.not rfl) <| O.q 2 rfl <| O.op (.g rfl rfl) (.fieldAddr F.fld74x3 rfl) <| O.op (.g rfl rfl) (.loadAt F.flat72 rfl (hb1.drop 3) rfl) ?_
  refine O.op (.g rfl rfl) (.loadAgg Tryz.isAgg166 (by kernel_rfl) rfl hb3) ?_
  refine O.call0 (.g rfl rfl) rfl F.ok216 rfl rfl ((r7has_c (rDot x) rfl k3)) ?_
  rintro v34 _ ⟨rfl, rfl⟩
  try simp only [zx1, zx2, zx3]
  refine O.sF 34 rfl (by exact c4) ?_
  refine O.q 1 rfl <| O.nil <| S.condF rfl <| S.skip <| S.seq <| S.region rfl <| O.op (.p rfl) (.fieldAddr F.fld74x5 rfl) <| O.op (.p rfl) (.loadAt F.flat31 rfl (hb1.drop 5) rfl) ?_
  refine O.op (.p rfl) (.len rfl Tryz.underlying31 rfl) <| O.op (.p rfl) (.leq rfl rfl) <| O.sF 39 rfl (by exact decide_eq_false (by omega)) ?_
  refine O.q 12 rfl <| O.nil ?_
  exact S.rt Tryz.results215 rfl hR ⟨congrArg _ (Bool.eq_false_iff.2 fun q => n5 (shaped_iff.1 q).2.2.2.2.2.1).symm, rfl⟩
 have c5 := Classical.not_not.1 n5
 cases g4 : x.2.2.2.2.1 with
 | false =>
  have hs : shaped x = true := shaped_iff.2 ⟨c0, c1, c2, c3, c4, c5, fun q => by rw [g4] at q; cases q⟩
  refine S.region rfl <| O.op (.p rfl) (.fieldAddr F.fld74x1 rfl) <| O.op (.p rfl) (.loadAt F.flat3 rfl (hb1.drop 1) rfl) ?_
  refine O.op (.p rfl) (.fieldAddr F.fld74x2 rfl) <| O.op (.p rfl) (.loadAt F.flat3 rfl (hb1.drop 2) rfl) ?_
  refine O.op (.p rfl) (.build (cs := [_, _]) Tryz.underlying166 rfl rfl rfl rfl rfl) <| O.opE (.p rfl) (.alloc (cs := [.int .i64 0, .int .i64 0]) Tryz.zeroValue166 rfl) ?_
  rintro _ _ ⟨b3, rfl, rfl⟩
  refine O.opU rfl (.storeObj (by kernel_rfl) rfl rfl rfl rfl (by repeat (first | exact zh | apply zt)) (by first | (simp; done) | (simp [Value.cells]; done))) ?_
  refine O.nil <| S.seq <| S.seq <| S.frzO (by repeat (first | exact zh | apply zt)) fun g hs hm hb3 => ?_
  replace hg := Fr.sub_trans hg hs
  replace hR := melted hR hm
  try replace h := h.mono hs
  try replace k3 := k3.mono hs
  try replace k5 := k5.mono hs
  try replace k6 := k6.mono hs
  try replace hb1 := hb1.mono hs
  clear hs hm
  refine S.region rfl <| O.op (.p rfl) (.fieldAddr F.fld74x0 rfl) <| O.op (.p rfl) (.loadAt F.flat9 rfl hb1 rfl) ?_
  refine O.op (.p rfl) (.lenS rfl Tryz.underlying9 rfl) <| O.op (.p rfl) (.lss rfl rfl) <| O.sF 12 rfl (by exact decide_eq_false (by rw [hz0]; omega)) ?_
  refine O.q 1 rfl <| O.op (.g rfl rfl) (.fieldAddr F.fld74x0 rfl) <| O.op (.g rfl rfl) (.loadAt F.flat9 rfl hb1 rfl) ?_
  refine O.op (.g rfl rfl) (.lenS rfl Tryz.underlying9 rfl) <| O.op (.g rfl rfl) (.gtr rfl rfl) <| O.sF 17 rfl (by exact decide_eq_false (by rw [hz0]; omega)) ?_
  refine O.q 2 rfl <| O.op (.g rfl rfl) (.loadAgg Tryz.isAgg166 (by kernel_rfl) rfl hb3) ?_
  refine O.call0 (.g rfl rfl) rfl F.ok286 rfl rfl ((r7dot_c (rDot x) rfl)) ?_
  rintro v21 _ ⟨rfl, rfl⟩
  try simp only [zx1, zx2, zx3]
  refine O.sT 21 rfl (by exact c2) ?_
  refine O.op (.g rfl rfl) (.not rfl) <| O.q 2 rfl <| O.op (.g rfl rfl) (.fieldAddr F.fld74x3 rfl) <| O.op (.g rfl rfl) (.loadAt F.flat72 rfl (hb1.drop 3) rfl) ?_
  refine O.call0 (.g rfl rfl) rfl F.ok287 rfl rfl ((r7right_c k3)) ?_
  rintro v27 _ ⟨rfl, rfl⟩
  try simp only [zx1, zx2, zx3]
  refine O.sT 27 rfl (by exact c3) ?_
  refine O.op (.g rfl rfl) (.not rfl) <| O.q 2 rfl <| O.op (.g rfl rfl) (.fieldAddr F.fld74x3 rfl) <| O.op (.g rfl rfl) (.loadAt F.flat72 rfl (hb1.drop 3) rfl) ?_
  refine O.op (.g rfl rfl) (.loadAgg Tryz.isAgg166 (by kernel_rfl) rfl hb3) ?_
  refine O.call0 (.g rfl rfl) rfl F.ok216 rfl rfl ((r7has_c (rDot x) rfl k3)) ?_
  rintro v34 _ ⟨rfl, rfl⟩
  try simp only [zx1, zx2, zx3]
  refine O.sF 34 rfl (by exact c4) ?_
  refine O.q 1 rfl <| O.nil <| S.condF rfl <| S.skip <| S.seq <| S.region rfl <| O.op (.p rfl) (.fieldAddr F.fld74x5 rfl) <| O.op (.p rfl) (.loadAt F.flat31 rfl (hb1.drop 5) rfl) ?_
  refine O.op (.p rfl) (.len rfl Tryz.underlying31 rfl) <| O.op (.p rfl) (.leq rfl rfl) <| O.sT 39 rfl (by exact decide_eq_true (by omega)) ?_
  refine O.q 1 rfl <| O.op (.g rfl rfl) (.fieldAddr F.fld74x4 rfl) <| O.op (.g rfl rfl) (.loadAt F.flat4 rfl (hb1.drop 4) rfl) ?_
  refine O.sF 42 rfl (by exact g4) ?_
  refine O.op (.g rfl rfl) (.not rfl) <| O.q 8 rfl <| O.nil ?_
  exact S.rt Tryz.results215 rfl hR ⟨by rw [hs], rfl⟩
 | true =>
  by_cases n6 : x.2.2.2.2.2.1.length = 0
  ·have hs : shaped x = true := shaped_iff.2 ⟨c0, c1, c2, c3, c4, c5, fun _ => n6⟩
   refine S.region rfl <| O.op (.p rfl) (.fieldAddr F.fld74x1 rfl) <| O.op (.p rfl) (.loadAt F.flat3 rfl (hb1.drop 1) rfl) ?_
   refine O.op (.p rfl) (.fieldAddr F.fld74x2 rfl) <| O.op (.p rfl) (.loadAt F.flat3 rfl (hb1.drop 2) rfl) ?_
   refine O.op (.p rfl) (.build (cs := [_, _]) Tryz.underlying166 rfl rfl rfl rfl rfl) <| O.opE (.p rfl) (.alloc (cs := [.int .i64 0, .int .i64 0]) Tryz.zeroValue166 rfl) ?_
   rintro _ _ ⟨b3, rfl, rfl⟩
   refine O.opU rfl (.storeObj (by kernel_rfl) rfl rfl rfl rfl (by repeat (first | exact zh | apply zt)) (by first | (simp; done) | (simp [Value.cells]; done))) ?_
   refine O.nil <| S.seq <| S.seq <| S.frzO (by repeat (first | exact zh | apply zt)) fun g hs hm hb3 => ?_
   replace hg := Fr.sub_trans hg hs
   replace hR := melted hR hm
   try replace h := h.mono hs
   try replace k3 := k3.mono hs
   try replace k5 := k5.mono hs
   try replace k6 := k6.mono hs
   try replace hb1 := hb1.mono hs
   clear hs hm
   refine S.region rfl <| O.op (.p rfl) (.fieldAddr F.fld74x0 rfl) <| O.op (.p rfl) (.loadAt F.flat9 rfl hb1 rfl) ?_
   refine O.op (.p rfl) (.lenS rfl Tryz.underlying9 rfl) <| O.op (.p rfl) (.lss rfl rfl) <| O.sF 12 rfl (by exact decide_eq_false (by rw [hz0]; omega)) ?_
   refine O.q 1 rfl <| O.op (.g rfl rfl) (.fieldAddr F.fld74x0 rfl) <| O.op (.g rfl rfl) (.loadAt F.flat9 rfl hb1 rfl) ?_
   refine O.op (.g rfl rfl) (.lenS rfl Tryz.underlying9 rfl) <| O.op (.g rfl rfl) (.gtr rfl rfl) <| O.sF 17 rfl (by exact decide_eq_false (by rw [hz0]; omega)) ?_
   refine O.q 2 rfl <| O.op (.g rfl rfl) (.loadAgg Tryz.isAgg166 (by kernel_rfl) rfl hb3) ?_
   refine O.call0 (.g rfl rfl) rfl F.ok286 rfl rfl ((r7dot_c (rDot x) rfl)) ?_
   rintro v21 _ ⟨rfl, rfl⟩
   try simp only [zx1, zx2, zx3]
   refine O.sT 21 rfl (by exact c2) ?_
   refine O.op (.g rfl rfl) (.not rfl) <| O.q 2 rfl <| O.op (.g rfl rfl) (.fieldAddr F.fld74x3 rfl) <| O.op (.g rfl rfl) (.loadAt F.flat72 rfl (hb1.drop 3) rfl) ?_
   refine O.call0 (.g rfl rfl) rfl F.ok287 rfl rfl ((r7right_c k3)) ?_
   rintro v27 _ ⟨rfl, rfl⟩
   try simp only [zx1, zx2, zx3]
   refine O.sT 27 rfl (by exact c3) ?_
   refine O.op (.g rfl rfl) (.not rfl) <| O.q 2 rfl <| O.op (.g rfl rfl) (.fieldAddr F.fld74x3 rfl) <| O.op (.g rfl rfl) (.loadAt F.flat72 rfl (hb1.drop 3) rfl) ?_
   refine O.op (.g rfl rfl) (.loadAgg Tryz.isAgg166 (by kernel_rfl) rfl hb3) ?_
   refine O.call0 (.g rfl rfl) rfl F.ok216 rfl rfl ((r7has_c (rDot x) rfl k3)) ?_
   rintro v34 _ ⟨rfl, rfl⟩
   try simp only [zx1, zx2, zx3]
   refine O.sF 34 rfl (by exact c4) ?_
   refine O.q 1 rfl <| O.nil <| S.condF rfl <| S.skip <| S.seq <| S.region rfl <| O.op (.p rfl) (.fieldAddr F.fld74x5 rfl) <| O.op (.p rfl) (.loadAt F.flat31 rfl (hb1.drop 5) rfl) ?_
   refine O.op (.p rfl) (.len rfl Tryz.underlying31 rfl) <| O.op (.p rfl) (.leq rfl rfl) <| O.sT 39 rfl (by exact decide_eq_true (by omega)) ?_
   refine O.q 1 rfl <| O.op (.g rfl rfl) (.fieldAddr F.fld74x4 rfl) <| O.op (.g rfl rfl) (.loadAt F.flat4 rfl (hb1.drop 4) rfl) ?_
   refine O.sT 42 rfl (by exact g4) ?_
   refine O.op (.g rfl rfl) (.not rfl) <| O.q 1 rfl <| O.op (.g rfl rfl) (.fieldAddr F.fld74x5 rfl) <| O.op (.g rfl rfl) (.loadAt F.flat31 rfl (hb1.drop 5) rfl) ?_
   refine O.op (.g rfl rfl) (.len rfl Tryz.underlying31 rfl) <| O.op (.g rfl rfl) (.eql rfl rfl) <| O.sT 48 rfl (by exact decide_eq_true (by omega)) ?_
   refine O.q 3 rfl <| O.nil ?_
   exact S.rt Tryz.results215 rfl hR ⟨by rw [hs], rfl⟩
  ·have hs : shaped x = false := Bool.eq_false_iff.2 fun q => n6 ((shaped_iff.1 q).2.2.2.2.2.2 g4)
   refine S.region rfl <| O.op (.p rfl) (.fieldAddr F.fld74x1 rfl) <| O.op (.p rfl) (.loadAt F.flat3 rfl (hb1.drop 1) rfl) ?_
   refine O.op (.p rfl) (.fieldAddr F.fld74x2 rfl) <| O.op (.p rfl) (.loadAt F.flat3 rfl (hb1.drop 2) rfl) ?_
   refine O.op (.p rfl) (.build (cs := [_, _]) Tryz.underlying166 rfl rfl rfl rfl rfl) <| O.opE (.p rfl) (.alloc (cs := [.int .i64 0, .int .i64 0]) Tryz.zeroValue166 rfl) ?_
   rintro _ _ ⟨b3, rfl, rfl⟩
   refine O.opU rfl (.storeObj (by kernel_rfl) rfl rfl rfl rfl (by repeat (first | exact zh | apply zt)) (by first | (simp; done) | (simp [Value.cells]; done))) ?_
   refine O.nil <| S.seq <| S.seq <| S.frzO (by repeat (first | exact zh | apply zt)) fun g hs hm hb3 => ?_
   replace hg := Fr.sub_trans hg hs
   replace hR := melted hR hm
   try replace h := h.mono hs
   try replace k3 := k3.mono hs
   try replace k5 := k5.mono hs
   try replace k6 := k6.mono hs
   try replace hb1 := hb1.mono hs
   clear hs hm
   refine S.region rfl <| O.op (.p rfl) (.fieldAddr F.fld74x0 rfl) <| O.op (.p rfl) (.loadAt F.flat9 rfl hb1 rfl) ?_
   refine O.op (.p rfl) (.lenS rfl Tryz.underlying9 rfl) <| O.op (.p rfl) (.lss rfl rfl) <| O.sF 12 rfl (by exact decide_eq_false (by rw [hz0]; omega)) ?_
   refine O.q 1 rfl <| O.op (.g rfl rfl) (.fieldAddr F.fld74x0 rfl) <| O.op (.g rfl rfl) (.loadAt F.flat9 rfl hb1 rfl) ?_
   refine O.op (.g rfl rfl) (.lenS rfl Tryz.underlying9 rfl) <| O.op (.g rfl rfl) (.gtr rfl rfl) <| O.sF 17 rfl (by exact decide_eq_false (by rw [hz0]; omega)) ?_
   refine O.q 2 rfl <| O.op (.g rfl rfl) (.loadAgg Tryz.isAgg166 (by kernel_rfl) rfl hb3) ?_
   refine O.call0 (.g rfl rfl) rfl F.ok286 rfl rfl ((r7dot_c (rDot x) rfl)) ?_
   rintro v21 _ ⟨rfl, rfl⟩
   try simp only [zx1, zx2, zx3]
   refine O.sT 21 rfl (by exact c2) ?_
   refine O.op (.g rfl rfl) (.not rfl) <| O.q 2 rfl <| O.op (.g rfl rfl) (.fieldAddr F.fld74x3 rfl) <| O.op (.g rfl rfl) (.loadAt F.flat72 rfl (hb1.drop 3) rfl) ?_
   refine O.call0 (.g rfl rfl) rfl F.ok287 rfl rfl ((r7right_c k3)) ?_
   rintro v27 _ ⟨rfl, rfl⟩
   try simp only [zx1, zx2, zx3]
   refine O.sT 27 rfl (by exact c3) ?_
   refine O.op (.g rfl rfl) (.not rfl) <| O.q 2 rfl <| O.op (.g rfl rfl) (.fieldAddr F.fld74x3 rfl) <| O.op (.g rfl rfl) (.loadAt F.flat72 rfl (hb1.drop 3) rfl) ?_
   refine O.op (.g rfl rfl) (.loadAgg Tryz.isAgg166 (by kernel_rfl) rfl hb3) ?_
   refine O.call0 (.g rfl rfl) rfl F.ok216 rfl rfl ((r7has_c (rDot x) rfl k3)) ?_
   rintro v34 _ ⟨rfl, rfl⟩
   try simp only [zx1, zx2, zx3]
   refine O.sF 34 rfl (by exact c4) ?_
   refine O.q 1 rfl <| O.nil <| S.condF rfl <| S.skip <| S.seq <| S.region rfl <| O.op (.p rfl) (.fieldAddr F.fld74x5 rfl) <| O.op (.p rfl) (.loadAt F.flat31 rfl (hb1.drop 5) rfl) ?_
   refine O.op (.p rfl) (.len rfl Tryz.underlying31 rfl) <| O.op (.p rfl) (.leq rfl rfl) <| O.sT 39 rfl (by exact decide_eq_true (by omega)) ?_
   refine O.q 1 rfl <| O.op (.g rfl rfl) (.fieldAddr F.fld74x4 rfl) <| O.op (.g rfl rfl) (.loadAt F.flat4 rfl (hb1.drop 4) rfl) ?_
   refine O.sT 42 rfl (by exact g4) ?_
   refine O.op (.g rfl rfl) (.not rfl) <| O.q 1 rfl <| O.op (.g rfl rfl) (.fieldAddr F.fld74x5 rfl) <| O.op (.g rfl rfl) (.loadAt F.flat31 rfl (hb1.drop 5) rfl) ?_
   refine O.op (.g rfl rfl) (.len rfl Tryz.underlying31 rfl) <| O.op (.g rfl rfl) (.eql rfl rfl) <| O.sF 48 rfl (by exact decide_eq_false (by omega)) ?_
   refine O.q 3 rfl <| O.nil ?_
   exact S.rt Tryz.results215 rfl hR ⟨by rw [hs], rfl⟩
theorem r8right_c {r : Fr} {cs : List Value} {x : RecT} (h : RecRp.rel r cs x) : Con Tryz.prog 213 #[.agg cs.toArray] r [] (Ret fun v η => v = .bool (recOk x) ∧ η = []) := by
 obtain ⟨xa3, xa5, xa6, xc3, xc5, xc6, rfl, k0, k1, k2, k3, k5, k6⟩ := RecRp.sh h
 have hz0 := str_size x.1
 refine Con.of (n := 11) _ rfl Tryz.func213 rfl rfl rfl fun g hg R hR => ?_
 have h := h.mono hg
 have k3 := k3.mono hg
 have k5 := k5.mono hg
 have k6 := k6.mono hg
 refine S.seq <| S.region rfl <| O.opE (.p rfl) (.box (cs := [_, _, _, _, _, _, _]) rfl rfl) ?_
 rintro _ _ ⟨b1, rfl, rfl⟩
 refine O.q 1 rfl <| O.nil <| S.seq <| S.frzO (by repeat (first | exact zh | apply zt)) fun g hs hm hb1 => ?_
 replace hg := Fr.sub_trans hg hs
 replace hR := melted hR hm
 try replace h := h.mono hs
 try replace k3 := k3.mono hs
 try replace k5 := k5.mono hs
 try replace k6 := k6.mono hs
 clear hs hm
 cases e : shaped x with
 | false =>
  refine S.region rfl <| O.op (.p rfl) (.loadAgg Tryz.isAgg74 (by kernel_rfl) rfl hb1) ?_
  refine O.call0 (.p rfl) rfl F.ok215 rfl rfl ((r8shape_c h)) ?_
  rintro v4 _ ⟨rfl, rfl⟩
  try simp only [zx1, zx2, zx3]
  refine O.sF 4 rfl (by exact e) ?_
  refine O.q 7 rfl <| O.nil ?_
  exact S.rt Tryz.results213 rfl hR ⟨by simp [recOk, e], rfl⟩
 | true =>
  refine S.region rfl <| O.op (.p rfl) (.loadAgg Tryz.isAgg74 (by kernel_rfl) rfl hb1) ?_
  refine O.call0 (.p rfl) rfl F.ok215 rfl rfl ((r8shape_c h)) ?_
  rintro v4 _ ⟨rfl, rfl⟩
  try simp only [zx1, zx2, zx3]
  refine O.sT 4 rfl (by exact e) ?_
  refine O.q 1 rfl <| O.op (.g rfl rfl) (.fieldAddr F.fld74x6 rfl) <| O.op (.g rfl rfl) (.loadAt F.flat31 rfl (hb1.drop 6) rfl) ?_
  refine O.op (.g rfl rfl) (.len rfl Tryz.underlying31 rfl) <| O.op (.g rfl rfl) (.eql rfl rfl) <| O.q 2 rfl <| O.nil ?_
  exact S.rt Tryz.results213 rfl hR ⟨congrArg _ (by rw [recOk, e, Bool.true_and]; exact decide_eq_decide.2 (by omega)), rfl⟩
theorem r8over_c {r : Fr} {cs ds : List Value} {x y : RecT} (h : RecRp.rel r cs x) (h' : RecRp.rel r ds y) : Con Tryz.prog 109 #[.agg cs.toArray, .agg ds.toArray] r [] (Ret fun v η => v = .bool (over x y) ∧ η = []) := by
 obtain ⟨xa3, xa5, xa6, xc3, xc5, xc6, rfl, k0, k1, k2, k3, k5, k6⟩ := RecRp.sh h
 obtain ⟨ya3, ya5, ya6, yc3, yc5, yc6, rfl, j0, j1, j2, j3, j5, j6⟩ := RecRp.sh h'
 refine Con.of (n := 28) _ rfl Tryz.func109 rfl rfl rfl fun g hg R hR => ?_
 have h := h.mono hg
 have h' := h'.mono hg
 have k3 := k3.mono hg
 refine S.seq <| S.region rfl <| O.opE (.p rfl) (.box (cs := [_, _, _, _, _, _, _]) rfl rfl) ?_
 rintro _ _ ⟨b2, rfl, rfl⟩
 refine O.opE (.p rfl) (.box (cs := [_, _, _, _, _, _, _]) rfl rfl) ?_
 rintro _ _ ⟨b3, rfl, rfl⟩
 refine O.q 1 rfl <| O.nil (S.seq ?_)
 cases e1 : shaped x with
 | false =>
  refine S.region rfl <| O.op (.p rfl) (.loA (news := [_, _, _, _, _, _, _]) Tryz.isAgg74) ?_
  refine O.call0 (.p rfl) rfl F.ok215 rfl rfl ((r8shape_c h)) ?_
  rintro v6 _ ⟨rfl, rfl⟩
  try simp only [zx1, zx2, zx3]
  refine O.sF 6 rfl (by exact e1) ?_
  refine O.q 22 rfl <| O.nil ?_
  exact S.rt Tryz.results109 rfl hR ⟨by simp [over, e1], rfl⟩
 | true =>
  cases e2 : shaped y with
  | false =>
   refine S.region rfl <| O.op (.p rfl) (.loA (news := [_, _, _, _, _, _, _]) Tryz.isAgg74) ?_
   refine O.call0 (.p rfl) rfl F.ok215 rfl rfl ((r8shape_c h)) ?_
   rintro v6 _ ⟨rfl, rfl⟩
   try simp only [zx1, zx2, zx3]
   refine O.sT 6 rfl (by exact e1) ?_
   refine O.q 1 rfl <| O.op (.g rfl rfl) (.loA (news := [_, _, _, _, _, _, _]) Tryz.isAgg74) ?_
   refine O.call0 (.g rfl rfl) rfl F.ok215 rfl rfl ((r8shape_c h')) ?_
   rintro v9 _ ⟨rfl, rfl⟩
   try simp only [zx1, zx2, zx3]
   refine O.sF 9 rfl (by exact e2) ?_
   refine O.q 19 rfl <| O.nil ?_
   exact S.rt Tryz.results109 rfl hR ⟨by simp [over, e2], rfl⟩
  | true =>
   by_cases e3 : x.1 = y.1
   ·
    refine S.region rfl <| O.op (.p rfl) (.loA (news := [_, _, _, _, _, _, _]) Tryz.isAgg74) ?_
    refine O.call0 (.p rfl) rfl F.ok215 rfl rfl ((r8shape_c h)) ?_
    rintro v6 _ ⟨rfl, rfl⟩
    try simp only [zx1, zx2, zx3]
    refine O.sT 6 rfl (by exact e1) ?_
    refine O.q 1 rfl <| O.op (.g rfl rfl) (.loA (news := [_, _, _, _, _, _, _]) Tryz.isAgg74) ?_
    refine O.call0 (.g rfl rfl) rfl F.ok215 rfl rfl ((r8shape_c h')) ?_
    rintro v9 _ ⟨rfl, rfl⟩
    try simp only [zx1, zx2, zx3]
    refine O.sT 9 rfl (by exact e2) ?_
    refine O.q 2 rfl <| O.op (.g rfl rfl) (.fieldObj F.fld74x0 rfl) <| O.op (.g rfl rfl) (.lo F.flat9) ?_
    refine O.op (.g rfl rfl) (.fieldObj F.fld74x0 rfl) <| O.op (.g rfl rfl) (.lo F.flat9) ?_
    refine O.op (.g rfl rfl) (.eqlS rfl rfl) <| O.sT 16 rfl (by simp [e3]) ?_
    refine O.q 2 rfl <| O.op (.g rfl rfl) (.fieldObj F.fld74x3 rfl) <| O.op (.g rfl rfl) (.lo F.flat72) ?_
    refine O.op (.g rfl rfl) (.fieldObj F.fld74x1 rfl) <| O.op (.g rfl rfl) (.lo F.flat3) ?_
    refine O.op (.g rfl rfl) (.fieldObj F.fld74x2 rfl) <| O.op (.g rfl rfl) (.lo F.flat3) ?_
    refine O.op (.g rfl rfl) (.build (cs := [_, _]) Tryz.underlying166 rfl rfl rfl rfl rfl) <| O.call0 (.g rfl rfl) rfl F.ok216 rfl rfl ((r7has_c (rDot y) rfl k3)) ?_
    rintro v26 _ ⟨rfl, rfl⟩
    try simp only [zx1, zx2, zx3]
    refine O.q 2 rfl <| O.nil ?_
    exact S.rt Tryz.results109 rfl hR ⟨by simp [over, e1, e2, e3], rfl⟩
   ·
    refine S.region rfl <| O.op (.p rfl) (.loA (news := [_, _, _, _, _, _, _]) Tryz.isAgg74) ?_
    refine O.call0 (.p rfl) rfl F.ok215 rfl rfl ((r8shape_c h)) ?_
    rintro v6 _ ⟨rfl, rfl⟩
    try simp only [zx1, zx2, zx3]
    refine O.sT 6 rfl (by exact e1) ?_
    refine O.q 1 rfl <| O.op (.g rfl rfl) (.loA (news := [_, _, _, _, _, _, _]) Tryz.isAgg74) ?_
    refine O.call0 (.g rfl rfl) rfl F.ok215 rfl rfl ((r8shape_c h')) ?_
    rintro v9 _ ⟨rfl, rfl⟩
    try simp only [zx1, zx2, zx3]
    refine O.sT 9 rfl (by exact e2) ?_
    refine O.q 2 rfl <| O.op (.g rfl rfl) (.fieldObj F.fld74x0 rfl) <| O.op (.g rfl rfl) (.lo F.flat9) ?_
    refine O.op (.g rfl rfl) (.fieldObj F.fld74x0 rfl) <| O.op (.g rfl rfl) (.lo F.flat9) ?_
    refine O.op (.g rfl rfl) (.eqlS rfl rfl) <| O.sF 16 rfl (by simp [e3]) ?_
    refine O.q 12 rfl <| O.nil ?_
    exact S.rt Tryz.results109 rfl hR ⟨by simp [over, e3], rfl⟩
end Go.Proofs.YtodhbhanmdfdeaaGreat
