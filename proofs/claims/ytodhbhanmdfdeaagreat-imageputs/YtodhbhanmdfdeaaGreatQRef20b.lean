/- Texts of this proof. -/
import Derived.Test.YtodhbhanmdfdeaaGreatQFc
import Derived.Test.YtodhbhanmdfdeaaGreatQRef20
import Derived.Test.YtodhbhanmdfdeaaGreatQSpAuto
open Go Go.Sp
set_option maxRecDepth 100000
attribute [local irreducible] obj Own OwnP
namespace Go.Proofs.YtodhbhanmdfdeaaGreat
theorem r20evd_c {r : Fr} {va : Value} {l : List EvdT} (ha : Arr EvdRp r va l) : Con Tryz.prog 70 #[va] r [] (Ret fun v η => v = .bool (l.foldlM fE []).isSome ∧ η = []) := by
 have har := ha
 have hE := evRow_iff (l := l)
 refine Con.of (n := 34) _ rfl Tryz.func70 rfl rfl rfl fun g hg R hR => ?_
 have ha := ha.mono hg
 have hbd := ha.bound
 obtain ⟨a1, c1, rfl⟩ := ha.shape
 refine S.seq <| S.region rfl <| O.q 1 rfl <| O.nil <| S.seq <| S.seq <| S.region rfl <| O.q 1 rfl <| O.nil <| S.block <| S.loopK (ι := Nat) (fun i => i ≤ l.length ∧ ∀ j (h : j < l.length), j < i → (evdOk l[j] = true ∧ ∀ k (hk : k < j), l[k] ≠ l[j])) (fun i => [(3, .int .i64 (i : Int))]) [(0, _)] (fun i => []) (fun i => l.length - i) (0) (by exact ⟨by simp, fun j h q => absurd q (by omega)⟩) (.cons rfl (.nil)) (.cons rfl (.nil)) rfl fun i hx ih => ?_
 have hm1 := meltRefl (g := g)
 obtain ⟨hx1, hx2⟩ := hx
 refine S.seq <| S.seq <| S.region rfl <| O.q 2 rfl <| O.op (.p rfl) (.len rfl Tryz.underlying24 rfl) <| O.op (.p rfl) (.lss rfl rfl) <| O.nil ?_
 first | refine S.condD rfl (fun h8 => ?_) (fun h8 => ?_) | refine S.condB rfl (fun h8 => ?_) (fun h8 => ?_)
 ·have hi : i < l.length := by omega
  cases e1 : evdOk l[i] with
  | false =>
   refine S.skip <| S.seq <| S.block <| S.seq <| S.seq <| S.region rfl <| O.q 2 rfl <| O.ib (.p rfl) Tryz.underlying24 F.size55 rfl rfl rfl har hg (h := fun p13 cs13 hp13 hrr13 => ?_)
   have hr13 := Rp.rel.mono hrr13 hg
   obtain ⟨ea3_13, ea4_13, ea8_13, ea9_13, ec3_13, ec4_13, ec8_13, ec9_13, rfl, ho0_13, ho1_13, ho2_13, ha3_13, ha4_13, ho5_13, ho6_13, ho7_13, ha8_13, ha9_13⟩ := EvdRp.sh hr13
   refine O.op (.p rfl) (.loadAgg Tryz.isAgg55 (by kernel_rfl) rfl hp13) ?_
   refine O.call0 (.p rfl) rfl F.ok155 rfl rfl ((r16right_c hr13)) ?_
   rintro v15 _ ⟨rfl, rfl⟩
   try simp only [zx1, zx2, zx3]
   refine O.sF 15 rfl (by exact e1) ?_
   refine O.op (.p rfl) (.not rfl) <| O.nil <| S.condT rfl <| S.seq <| S.region rfl <| O.q 1 rfl <| O.nil ?_
   exact S.rt Tryz.results70 rfl hR ⟨congrArg _ (Bool.eq_false_iff.2 fun q => by have := ((hE.1 q).1 i hi).1; rw [e1] at this; cases this).symm, rfl⟩
  | true =>
   refine S.skip <| S.seq <| S.block <| S.seq <| S.seq <| S.region rfl <| O.q 2 rfl <| O.ib (.p rfl) Tryz.underlying24 F.size55 rfl rfl rfl har hg (h := fun p13 cs13 hp13 hrr13 => ?_)
   have hr13 := Rp.rel.mono hrr13 hg
   obtain ⟨ea3_13, ea4_13, ea8_13, ea9_13, ec3_13, ec4_13, ec8_13, ec9_13, rfl, ho0_13, ho1_13, ho2_13, ha3_13, ha4_13, ho5_13, ho6_13, ho7_13, ha8_13, ha9_13⟩ := EvdRp.sh hr13
   refine O.op (.p rfl) (.loadAgg Tryz.isAgg55 (by kernel_rfl) rfl hp13) ?_
   refine O.call0 (.p rfl) rfl F.ok155 rfl rfl ((r16right_c hr13)) ?_
   rintro v15 _ ⟨rfl, rfl⟩
   try simp only [zx1, zx2, zx3]
   refine O.sT 15 rfl (by exact e1) ?_
   refine O.op (.p rfl) (.not rfl) <| O.nil <| S.condF rfl <| S.skip <| S.seq <| S.region rfl <| O.q 1 rfl <| O.nil <| S.block <| S.loopK (ι := Nat) (fun k => k ≤ i ∧ ∀ j (h : j < l.length), j < k → l[j] ≠ l[i]) (fun k => [(4, .int .i64 (k : Int))]) [(0, _), (3, _)] (fun k => []) (fun k => i - k) (0) (by exact ⟨by simp, fun j h q => absurd q (by omega)⟩) (.cons rfl (.nil)) (.cons rfl (.cons rfl (.nil))) rfl fun k hx ih => ?_
   have hm2 := meltRefl (g := g)
   obtain ⟨hy1, hy2⟩ := hx
   refine S.seq <| S.seq <| S.region rfl <| O.q 2 rfl <| O.op (.p rfl) (.lss rfl rfl) <| O.nil ?_
   first | refine S.condD rfl (fun h19 => ?_) (fun h19 => ?_) | refine S.condB rfl (fun h19 => ?_) (fun h19 => ?_)
   ·have hk : k < i := by omega
    have hkl : k < l.length := by omega
    by_cases e2 : l[k] = l[i]
    ·
     refine S.skip <| S.seq <| S.block <| S.seq <| S.regionD (L := [0, 1, 2, 3, 4, 5, 6, 7, 8]) F.mixed (by kernel_rfl) <| OD.q 2 rfl <| OD.ib (.p rfl) Tryz.underlying24 F.size55 rfl rfl rfl har hg (h := fun p24 cs24 hp24 hrr24 => ?_)
     have hr24 := Rp.rel.mono hrr24 hg
     obtain ⟨ea3_24, ea4_24, ea8_24, ea9_24, ec3_24, ec4_24, ec8_24, ec9_24, rfl, ho0_24, ho1_24, ho2_24, ha3_24, ha4_24, ho5_24, ho6_24, ho7_24, ha8_24, ha9_24⟩ := EvdRp.sh hr24
     refine .quiet (.p rfl) rfl (fun _ => .loadAgg Tryz.isAgg55 (by kernel_rfl) rfl hp24) ?_
     refine OD.q 2 rfl <| OD.ib (.p rfl) Tryz.underlying24 F.size55 rfl rfl rfl har hg (h := fun p28 cs28 hp28 hrr28 => ?_)
     have hr28 := Rp.rel.mono hrr28 hg
     obtain ⟨ea3_28, ea4_28, ea8_28, ea9_28, ec3_28, ec4_28, ec8_28, ec9_28, rfl, ho0_28, ho1_28, ho2_28, ha3_28, ha4_28, ho5_28, ho6_28, ho7_28, ha8_28, ha9_28⟩ := EvdRp.sh hr28
     refine .quiet (.p rfl) rfl (fun _ => .loadAgg Tryz.isAgg55 (by kernel_rfl) rfl hp28) ?_
     refine OD.call0 (.p rfl) (by kernel_rfl) rfl F.ok156 rfl rfl ((sameEvidence_c hr24 hr28)) ?_
     rintro v30 _ ⟨rfl, rfl⟩
     try simp only [zx1, zx2, zx3]
     refine OD.sT 30 rfl (by exact decide_eq_true e2) ?_
     refine ODx.nil <| S.condT rfl <| S.seq <| S.region rfl <| O.q 1 rfl <| O.nil ?_
     exact S.rt Tryz.results70 rfl hR ⟨congrArg _ (Bool.eq_false_iff.2 fun q => ((hE.1 q).1 i hi).2 k hk e2).symm, rfl⟩
    ·
     refine S.skip <| S.seq <| S.block <| S.seq <| S.regionD (L := [0, 1, 2, 3, 4, 5, 6, 7, 8]) F.mixed (by kernel_rfl) <| OD.q 2 rfl <| OD.ib (.p rfl) Tryz.underlying24 F.size55 rfl rfl rfl har hg (h := fun p24 cs24 hp24 hrr24 => ?_)
     have hr24 := Rp.rel.mono hrr24 hg
     obtain ⟨ea3_24, ea4_24, ea8_24, ea9_24, ec3_24, ec4_24, ec8_24, ec9_24, rfl, ho0_24, ho1_24, ho2_24, ha3_24, ha4_24, ho5_24, ho6_24, ho7_24, ha8_24, ha9_24⟩ := EvdRp.sh hr24
     refine .quiet (.p rfl) rfl (fun _ => .loadAgg Tryz.isAgg55 (by kernel_rfl) rfl hp24) ?_
     refine OD.q 2 rfl <| OD.ib (.p rfl) Tryz.underlying24 F.size55 rfl rfl rfl har hg (h := fun p28 cs28 hp28 hrr28 => ?_)
     have hr28 := Rp.rel.mono hrr28 hg
     obtain ⟨ea3_28, ea4_28, ea8_28, ea9_28, ec3_28, ec4_28, ec8_28, ec9_28, rfl, ho0_28, ho1_28, ho2_28, ha3_28, ha4_28, ho5_28, ho6_28, ho7_28, ha8_28, ha9_28⟩ := EvdRp.sh hr28
     refine .quiet (.p rfl) rfl (fun _ => .loadAgg Tryz.isAgg55 (by kernel_rfl) rfl hp28) ?_
     refine OD.call0 (.p rfl) (by kernel_rfl) rfl F.ok156 rfl rfl ((sameEvidence_c hr24 hr28)) ?_
     rintro v30 _ ⟨rfl, rfl⟩
     try simp only [zx1, zx2, zx3]
     refine OD.sF 30 rfl (by exact decide_eq_false e2) ?_
     refine ODx.nil <| S.condF rfl <| S.skip <| S.inBlock <| S.region rfl <| O.q 1 rfl <| O.op (.p rfl) (.add rfl rfl (IntWalk.i64_in _ (by omega))) <| O.q 1 rfl <| O.nil ?_
     exact S.wk (ih (k + 1) (by exact ⟨by omega, lt_step hy2 fun _ => e2⟩) (by omega))
   ·clear ih
    have hk : k = i := by omega
    refine S.exit rfl <| S.inBlock <| S.region rfl <| O.q 1 rfl <| O.op (.p rfl) (.add rfl rfl (IntWalk.i64_in _ (by omega))) <| O.q 1 rfl <| O.nil ?_
    exact S.wk (ih (i + 1) (by exact ⟨by omega, lt_step hx2 fun _ => ⟨e1, fun k' hk' => hy2 k' (by omega) (by omega)⟩⟩) (by omega))
 ·clear ih
  have hi : i = l.length := by omega
  subst hi
  refine S.exit rfl <| S.seq <| S.region rfl <| O.q 1 rfl <| O.op (.p rfl) (.len rfl Tryz.underlying24 rfl) <| O.op (.p rfl) (.leq rfl rfl) <| O.q 1 rfl <| O.nil ?_
  exact S.rt Tryz.results70 rfl hR ⟨congrArg _ (by rw [Bool.eq_iff_iff, decide_eq_true_iff, hE]; exact ⟨fun q => ⟨fun j h => hx2 j h h, by omega⟩, fun q => by have := q.2; omega⟩), rfl⟩
theorem r20right_c {r : Fr} {cs : List Value} {h : HeldT} (hr : HeldRp.rel r cs h) : Con Tryz.prog 21 #[.agg cs.toArray] r [] (Ret fun v η => v = .bool (imgW h).isSome ∧ η = []) := by
 obtain ⟨xa0, xa1, xa2, xa3, xc0, xc1, xc2, xc3, rfl, k0, k1, k2, k3⟩ := HeldRp.sh hr
 rw [imgW_isSome]
 refine Con.of (n := 21) _ rfl Tryz.func21 rfl rfl rfl fun g hg R hR => ?_
 have k0 := k0.mono hg
 have k1 := k1.mono hg
 have k2 := k2.mono hg
 have k3 := k3.mono hg
 refine S.seq <| S.region rfl <| O.opE (.p rfl) (.box (cs := [_, _, _, _]) rfl rfl) ?_
 rintro _ _ ⟨b1, rfl, rfl⟩
 refine O.q 1 rfl <| O.nil (S.seq ?_)
 cases e0 : (h.1.foldlM fL []).isSome with
 | false =>
  refine S.region rfl <| O.op (.p rfl) (.fieldObj F.fld27x0 rfl) <| O.op (.p rfl) (.lo F.flat22) ?_
  refine O.call0 (.p rfl) rfl F.ok68 rfl rfl ((r20leaves_c k0)) ?_
  rintro v5 _ ⟨rfl, rfl⟩
  try simp only [zx1, zx2, zx3]
  refine O.sF 5 rfl (by exact e0) ?_
  refine O.q 16 rfl <| O.nil ?_
  exact S.rt Tryz.results21 rfl hR ⟨by simp [e0], rfl⟩
 | true =>
  cases e1 : (h.2.1.foldlM fR (0, 0)).isSome with
  | false =>
   refine S.region rfl <| O.op (.p rfl) (.fieldObj F.fld27x0 rfl) <| O.op (.p rfl) (.lo F.flat22) ?_
   refine O.call0 (.p rfl) rfl F.ok68 rfl rfl ((r20leaves_c k0)) ?_
   rintro v5 _ ⟨rfl, rfl⟩
   try simp only [zx1, zx2, zx3]
   refine O.sT 5 rfl (by exact e0) ?_
   refine O.q 1 rfl <| O.op (.g rfl rfl) (.fieldObj F.fld27x1 rfl) <| O.op (.g rfl rfl) (.lo F.flat23) ?_
   refine O.call0 (.g rfl rfl) rfl F.ok69 rfl rfl ((r20roots_c k1)) ?_
   rintro v9 _ ⟨rfl, rfl⟩
   try simp only [zx1, zx2, zx3]
   refine O.sF 9 rfl (by exact e1) ?_
   refine O.q 12 rfl <| O.nil ?_
   exact S.rt Tryz.results21 rfl hR ⟨by simp [e1], rfl⟩
  | true =>
   cases e2 : (h.2.2.1.foldlM fE []).isSome with
   | false =>
    refine S.region rfl <| O.op (.p rfl) (.fieldObj F.fld27x0 rfl) <| O.op (.p rfl) (.lo F.flat22) ?_
    refine O.call0 (.p rfl) rfl F.ok68 rfl rfl ((r20leaves_c k0)) ?_
    rintro v5 _ ⟨rfl, rfl⟩
    try simp only [zx1, zx2, zx3]
    refine O.sT 5 rfl (by exact e0) ?_
    refine O.q 1 rfl <| O.op (.g rfl rfl) (.fieldObj F.fld27x1 rfl) <| O.op (.g rfl rfl) (.lo F.flat23) ?_
    refine O.call0 (.g rfl rfl) rfl F.ok69 rfl rfl ((r20roots_c k1)) ?_
    rintro v9 _ ⟨rfl, rfl⟩
    try simp only [zx1, zx2, zx3]
    refine O.sT 9 rfl (by exact e1) ?_
    refine O.q 2 rfl <| O.op (.g rfl rfl) (.fieldObj F.fld27x2 rfl) <| O.op (.g rfl rfl) (.lo F.flat24) ?_
    refine O.call0 (.g rfl rfl) rfl F.ok70 rfl rfl ((r20evd_c k2)) ?_
    rintro v14 _ ⟨rfl, rfl⟩
    try simp only [zx1, zx2, zx3]
    refine O.sF 14 rfl (by exact e2) ?_
    refine O.q 7 rfl <| O.nil ?_
    exact S.rt Tryz.results21 rfl hR ⟨by simp [e2], rfl⟩
   | true =>
    refine S.region rfl <| O.op (.p rfl) (.fieldObj F.fld27x0 rfl) <| O.op (.p rfl) (.lo F.flat22) ?_
    refine O.call0 (.p rfl) rfl F.ok68 rfl rfl ((r20leaves_c k0)) ?_
    rintro v5 _ ⟨rfl, rfl⟩
    try simp only [zx1, zx2, zx3]
    refine O.sT 5 rfl (by exact e0) ?_
    refine O.q 1 rfl <| O.op (.g rfl rfl) (.fieldObj F.fld27x1 rfl) <| O.op (.g rfl rfl) (.lo F.flat23) ?_
    refine O.call0 (.g rfl rfl) rfl F.ok69 rfl rfl ((r20roots_c k1)) ?_
    rintro v9 _ ⟨rfl, rfl⟩
    try simp only [zx1, zx2, zx3]
    refine O.sT 9 rfl (by exact e1) ?_
    refine O.q 2 rfl <| O.op (.g rfl rfl) (.fieldObj F.fld27x2 rfl) <| O.op (.g rfl rfl) (.lo F.flat24) ?_
    refine O.call0 (.g rfl rfl) rfl F.ok70 rfl rfl ((r20evd_c k2)) ?_
    rintro v14 _ ⟨rfl, rfl⟩
    try simp only [zx1, zx2, zx3]
    refine O.sT 14 rfl (by exact e2) ?_
    refine O.q 2 rfl <| O.op (.g rfl rfl) (.fieldObj F.fld27x3 rfl) <| O.op (.g rfl rfl) (.lo F.flat25) ?_
    refine O.call0 (.g rfl rfl) rfl F.ok71 rfl rfl ((r20quar_c k3)) ?_
    rintro v19 _ ⟨rfl, rfl⟩
    try simp only [zx1, zx2, zx3]
    refine O.q 2 rfl <| O.nil ?_
    exact S.rt Tryz.results21 rfl hR ⟨by simp [e0, e1, e2], rfl⟩
end Go.Proofs.YtodhbhanmdfdeaaGreat
