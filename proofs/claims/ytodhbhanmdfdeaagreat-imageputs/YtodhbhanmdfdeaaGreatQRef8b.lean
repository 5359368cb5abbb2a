/- Texts of this proof. -/
import Derived.Test.YtodhbhanmdfdeaaGreatQFc
import Derived.Test.YtodhbhanmdfdeaaGreatQRef8
import Derived.Test.YtodhbhanmdfdeaaGreatQSpAuto
open Go Go.Sp
set_option maxRecDepth 100000
attribute [local irreducible] obj Own OwnP
namespace Go.Proofs.YtodhbhanmdfdeaaGreat
def recHead (x : RecT) : List UInt8 := [1] ++ (bytesOf x.1 ++ (be x.2.1 ++ (be x.2.2.1 ++ be x.2.2.2.1.length)))
theorem r8text_c {r : Fr} {cs : List Value} {x : RecT} (h : RecRp.rel r cs x) (hs : shaped x = true) :
  Con Tryz.prog 285 #[.agg cs.toArray] r [] (Ret fun v η => ∃ a c, v = .slice a (recText x).length c ∧ η = [OwnP Rp.u8 5 (.slice a (recText x).length c) (recText x)]) := by
 obtain ⟨xa3, xa5, xa6, xc3, xc5, xc6, rfl, k0, k1, k2, k3, k5, k6⟩ := RecRp.sh h
 obtain ⟨m0, m1, _, m3, _, m5, _⟩ := shaped_iff.1 hs
 have m4 := rises_len m3
 have hfl : [[1], bytesOf x.1, be x.2.1, be x.2.2.1, be x.2.2.2.1.length].flatten = recHead x := by simp [recHead]
 have hhl : (recHead x).length = 33 + x.1.length := by simp [recHead]; omega
 refine Con.of (n := 60) _ rfl Tryz.func285 rfl rfl rfl fun g hg R hR => ?_
 have h := h.mono hg
 have k3 := k3.mono hg
 have k5 := k5.mono hg
 have k6 := k6.mono hg
 refine S.seq <| S.region rfl <| O.opE (.p rfl) (.box (cs := [_, _, _, _, _, _, _]) rfl rfl) ?_
 rintro _ _ ⟨b1, rfl, rfl⟩
 refine O.q 1 rfl <| O.nil <| S.seq <| S.seq <| S.frzO (by repeat (first | exact zh | apply zt)) fun g hs hm hb1 => ?_
 replace hg := Fr.sub_trans hg hs
 replace hR := melted hR hm
 try replace h := h.mono hs
 try replace k3 := k3.mono hs
 try replace k5 := k5.mono hs
 try replace k6 := k6.mono hs
 clear hs hm
 refine S.region rfl <| O.op (.p rfl) (.loadAgg Tryz.isAgg74 (by kernel_rfl) rfl hb1) ?_
 refine O.call0 (.p rfl) rfl F.ok215 rfl rfl ((r8shape_c h)) ?_
 rintro v7 _ ⟨rfl, rfl⟩
 try simp only [zx1, zx2, zx3]
 refine O.sT 7 rfl (by exact hs) ?_
 refine O.op (.p rfl) (.not rfl) <| O.nil <| S.condF rfl <| S.skip <| S.seq <| S.regionJ (L := [1, 2, 5, 6, 8, 9, 11, 12, 13, 0, 3, 4, 7, 10, 14, 15, 16, 17]) (fun (s : Option Addr × Nat) => [(3, .slice s.1 (recHead x).length s.2)]) [(1, _)] (fun (s : Option Addr × Nat) => [OwnP Rp.u8 5 (.slice s.1 (recHead x).length s.2) (recHead x)]) (.cons rfl (.nil)) F.mixed (by kernel_rfl) (fun kk key => ?_) (fun s => ?_)
 ·refine .quiet (.p rfl) rfl (fun _ => .fieldAddr F.fld74x0 rfl) <| .quiet (.p rfl) rfl (fun _ => .loadAt F.flat9 rfl hb1 rfl) ?_
  refine .quiet (.p rfl) rfl (fun _ => .fieldAddr F.fld74x1 rfl) <| .quiet (.p rfl) rfl (fun _ => .loadAt F.flat3 rfl (hb1.drop 1) rfl) ?_
  refine .quiet (.p rfl) rfl (fun _ => .fieldAddr F.fld74x2 rfl) <| .quiet (.p rfl) rfl (fun _ => .loadAt F.flat3 rfl (hb1.drop 2) rfl) ?_
  refine .quiet (.p rfl) rfl (fun _ => .fieldAddr F.fld74x3 rfl) <| .quiet (.p rfl) rfl (fun _ => .loadAt F.flat72 rfl (hb1.drop 3) rfl) ?_
  refine .quiet (.p rfl) rfl (fun _ => .len rfl Tryz.underlying72 rfl) <| OD.alt2 0 3 [3, 4, 7, 10, 14, 15, 16, 17] [0, 4, 7, 10, 14, 15, 16, 17] (by kernel_rfl) rfl rfl ?_ ?_
  ·refine ODt.litP (T := Rp.u8) (ys := [1]) (.p rfl) (by kernel_rfl) Tryz.underlying31 F.elem5 (by decide) rfl rfl ⟨rfl, trivial⟩ (by decide) (fun a9 c9 => ?_)
   refine OD.strBytesO (.p rfl) (by kernel_rfl) Tryz.underlying9 Tryz.underlying31 Tryz.underlying5 rfl (by first | assumption | omega | (simp; done) | (simp; omega)) (fun a12 c12 => ?_)
   refine OD.callB (.p rfl) (by kernel_rfl) rfl F.ok65 rfl rfl (bs := [OwnP Rp.u8 5 (.slice a12 x.1.length c12) x.1]) (by repeat (first | exact zsn | (apply zsc; focus (repeat (first | exact zh | apply zt))))) (fun m hm hd => refBytes_c (hm.arr.right hd) (by omega)) ?_
   rintro v13 _ ⟨a13, c13, rfl, rfl⟩
   try simp only [zx1, zx2, zx3]
   refine OD.call0 (.p rfl) (by kernel_rfl) rfl F.ok63 rfl rfl (refNumber_c _) ?_
   rintro v16 _ ⟨a16, c16, rfl, rfl⟩
   try simp only [zx1, zx2, zx3]
   refine OD.call0 (.p rfl) (by kernel_rfl) rfl F.ok63 rfl rfl (refNumber_c _) ?_
   rintro v19 _ ⟨a19, c19, rfl, rfl⟩
   try simp only [zx1, zx2, zx3]
   refine OD.call0 (.p rfl) (by kernel_rfl) rfl F.ok63 rfl rfl (refNumber_c _) ?_
   rintro v23 _ ⟨a23, c23, rfl, rfl⟩
   try simp only [zx1, zx2, zx3]
   refine OD.litP (T := Rp.val) (ys := [_, _, _, _, _]) (.p rfl) (by kernel_rfl) Tryz.underlying39 F.elem31 (by decide) rfl rfl ⟨⟨rfl, rfl⟩, ⟨rfl, rfl⟩, ⟨rfl, rfl⟩, ⟨rfl, rfl⟩, ⟨rfl, rfl⟩, trivial⟩ (by decide) (fun a24 c24 => ?_)
   refine OD.callB (.p rfl) (by kernel_rfl) rfl F.ok64 rfl rfl (bs := [OwnP Rp.val 31 (.slice a24 5 c24) [.slice a9 1 c9, .slice a13 (bytesOf x.1).length c13, .slice a16 8 c16, .slice a19 8 c19, .slice a23 8 c23], OwnP Rp.u8 5 (.slice a9 1 c9) [1], OwnP Rp.u8 5 (.slice a13 (bytesOf x.1).length c13) (bytesOf x.1), OwnP Rp.u8 5 (.slice a16 8 c16) (be x.2.1), OwnP Rp.u8 5 (.slice a19 8 c19) (be x.2.2.1), OwnP Rp.u8 5 (.slice a23 8 c23) (be x.2.2.2.1.length)]) (by repeat (first | exact zsn | (apply zsc; focus (repeat (first | exact zh | apply zt))))) (fun m hm hd => refJoin_c (xss := [[1], bytesOf x.1, be x.2.1, be x.2.2.1, be x.2.2.2.1.length]) ((hm.arr.right hd).rows ⟨hm.tail.arr.right hd, hm.tail.tail.arr.right hd, hm.tail.tail.tail.arr.right hd, hm.tail.tail.tail.tail.arr.right hd, hm.tail.tail.tail.tail.tail.arr.right hd, trivial⟩) (by rw [hfl]; omega)) ?_
   rintro v25 _ ⟨a25, c25, rfl, rfl⟩
   try simp only [zx1, zx2, zx3]
   rw [hfl]
   refine OD.q 1 rfl <| ODx.nil <| S.pk ?_ (S.weaken (Sub.app (.cons rfl (.nil)) (.cons rfl (.nil))) (key (a25, c25)))
   try dsimp only
   repeat (first | exact zpa | exact zpn | (apply zpc; focus (repeat (first | exact zh | apply zt))) | apply zps)
  ·refine ODt.strBytesO (.p rfl) (by kernel_rfl) Tryz.underlying9 Tryz.underlying31 Tryz.underlying5 rfl (by first | assumption | omega | (simp; done) | (simp; omega)) (fun a12 c12 => ?_)
   refine OD.alt2 0 4 [4, 7, 10, 14, 15, 16, 17] [0, 7, 10, 14, 15, 16, 17] (by kernel_rfl) rfl rfl ?_ ?_
   ·refine ODt.litP (T := Rp.u8) (ys := [1]) (.p rfl) (by kernel_rfl) Tryz.underlying31 F.elem5 (by decide) rfl rfl ⟨rfl, trivial⟩ (by decide) (fun a9 c9 => ?_)
    refine OD.callB (.p rfl) (by kernel_rfl) rfl F.ok65 rfl rfl (bs := [OwnP Rp.u8 5 (.slice a12 x.1.length c12) x.1]) (by repeat (first | exact zsn | (apply zsc; focus (repeat (first | exact zh | apply zt))))) (fun m hm hd => refBytes_c (hm.arr.right hd) (by omega)) ?_
    rintro v13 _ ⟨a13, c13, rfl, rfl⟩
    try simp only [zx1, zx2, zx3]
    refine OD.call0 (.p rfl) (by kernel_rfl) rfl F.ok63 rfl rfl (refNumber_c _) ?_
    rintro v16 _ ⟨a16, c16, rfl, rfl⟩
    try simp only [zx1, zx2, zx3]
    refine OD.call0 (.p rfl) (by kernel_rfl) rfl F.ok63 rfl rfl (refNumber_c _) ?_
    rintro v19 _ ⟨a19, c19, rfl, rfl⟩
    try simp only [zx1, zx2, zx3]
    refine OD.call0 (.p rfl) (by kernel_rfl) rfl F.ok63 rfl rfl (refNumber_c _) ?_
    rintro v23 _ ⟨a23, c23, rfl, rfl⟩
    try simp only [zx1, zx2, zx3]
    refine OD.litP (T := Rp.val) (ys := [_, _, _, _, _]) (.p rfl) (by kernel_rfl) Tryz.underlying39 F.elem31 (by decide) rfl rfl ⟨⟨rfl, rfl⟩, ⟨rfl, rfl⟩, ⟨rfl, rfl⟩, ⟨rfl, rfl⟩, ⟨rfl, rfl⟩, trivial⟩ (by decide) (fun a24 c24 => ?_)
    refine OD.callB (.p rfl) (by kernel_rfl) rfl F.ok64 rfl rfl (bs := [OwnP Rp.val 31 (.slice a24 5 c24) [.slice a9 1 c9, .slice a13 (bytesOf x.1).length c13, .slice a16 8 c16, .slice a19 8 c19, .slice a23 8 c23], OwnP Rp.u8 5 (.slice a9 1 c9) [1], OwnP Rp.u8 5 (.slice a13 (bytesOf x.1).length c13) (bytesOf x.1), OwnP Rp.u8 5 (.slice a16 8 c16) (be x.2.1), OwnP Rp.u8 5 (.slice a19 8 c19) (be x.2.2.1), OwnP Rp.u8 5 (.slice a23 8 c23) (be x.2.2.2.1.length)]) (by repeat (first | exact zsn | (apply zsc; focus (repeat (first | exact zh | apply zt))))) (fun m hm hd => refJoin_c (xss := [[1], bytesOf x.1, be x.2.1, be x.2.2.1, be x.2.2.2.1.length]) ((hm.arr.right hd).rows ⟨hm.tail.arr.right hd, hm.tail.tail.arr.right hd, hm.tail.tail.tail.arr.right hd, hm.tail.tail.tail.tail.arr.right hd, hm.tail.tail.tail.tail.tail.arr.right hd, trivial⟩) (by rw [hfl]; omega)) ?_
    rintro v25 _ ⟨a25, c25, rfl, rfl⟩
    try simp only [zx1, zx2, zx3]
    rw [hfl]
    refine OD.q 1 rfl <| ODx.nil <| S.pk ?_ (S.weaken (Sub.app (.cons rfl (.nil)) (.cons rfl (.nil))) (key (a25, c25)))
    try dsimp only
    repeat (first | exact zpa | exact zpn | (apply zpc; focus (repeat (first | exact zh | apply zt))) | apply zps)
   ·refine ODt.callB (.p rfl) (by kernel_rfl) rfl F.ok65 rfl rfl (bs := [OwnP Rp.u8 5 (.slice a12 x.1.length c12) x.1]) (by repeat (first | exact zsn | (apply zsc; focus (repeat (first | exact zh | apply zt))))) (fun m hm hd => refBytes_c (hm.arr.right hd) (by omega)) ?_
    rintro v13 _ ⟨a13, c13, rfl, rfl⟩
    try simp only [zx1, zx2, zx3]
    refine OD.alt2 0 7 [7, 10, 14, 15, 16, 17] [0, 10, 14, 15, 16, 17] (by kernel_rfl) rfl rfl ?_ ?_
    ·refine ODt.litP (T := Rp.u8) (ys := [1]) (.p rfl) (by kernel_rfl) Tryz.underlying31 F.elem5 (by decide) rfl rfl ⟨rfl, trivial⟩ (by decide) (fun a9 c9 => ?_)
     refine OD.call0 (.p rfl) (by kernel_rfl) rfl F.ok63 rfl rfl (refNumber_c _) ?_
     rintro v16 _ ⟨a16, c16, rfl, rfl⟩
     try simp only [zx1, zx2, zx3]
     refine OD.call0 (.p rfl) (by kernel_rfl) rfl F.ok63 rfl rfl (refNumber_c _) ?_
     rintro v19 _ ⟨a19, c19, rfl, rfl⟩
     try simp only [zx1, zx2, zx3]
     refine OD.call0 (.p rfl) (by kernel_rfl) rfl F.ok63 rfl rfl (refNumber_c _) ?_
     rintro v23 _ ⟨a23, c23, rfl, rfl⟩
     try simp only [zx1, zx2, zx3]
     refine OD.litP (T := Rp.val) (ys := [_, _, _, _, _]) (.p rfl) (by kernel_rfl) Tryz.underlying39 F.elem31 (by decide) rfl rfl ⟨⟨rfl, rfl⟩, ⟨rfl, rfl⟩, ⟨rfl, rfl⟩, ⟨rfl, rfl⟩, ⟨rfl, rfl⟩, trivial⟩ (by decide) (fun a24 c24 => ?_)
     refine OD.callB (.p rfl) (by kernel_rfl) rfl F.ok64 rfl rfl (bs := [OwnP Rp.val 31 (.slice a24 5 c24) [.slice a9 1 c9, .slice a13 (bytesOf x.1).length c13, .slice a16 8 c16, .slice a19 8 c19, .slice a23 8 c23], OwnP Rp.u8 5 (.slice a9 1 c9) [1], OwnP Rp.u8 5 (.slice a13 (bytesOf x.1).length c13) (bytesOf x.1), OwnP Rp.u8 5 (.slice a16 8 c16) (be x.2.1), OwnP Rp.u8 5 (.slice a19 8 c19) (be x.2.2.1), OwnP Rp.u8 5 (.slice a23 8 c23) (be x.2.2.2.1.length)]) (by repeat (first | exact zsn | (apply zsc; focus (repeat (first | exact zh | apply zt))))) (fun m hm hd => refJoin_c (xss := [[1], bytesOf x.1, be x.2.1, be x.2.2.1, be x.2.2.2.1.length]) ((hm.arr.right hd).rows ⟨hm.tail.arr.right hd, hm.tail.tail.arr.right hd, hm.tail.tail.tail.arr.right hd, hm.tail.tail.tail.tail.arr.right hd, hm.tail.tail.tail.tail.tail.arr.right hd, trivial⟩) (by rw [hfl]; omega)) ?_
     rintro v25 _ ⟨a25, c25, rfl, rfl⟩
     try simp only [zx1, zx2, zx3]
     rw [hfl]
     refine OD.q 1 rfl <| ODx.nil <| S.pk ?_ (S.weaken (Sub.app (.cons rfl (.nil)) (.cons rfl (.nil))) (key (a25, c25)))
     try dsimp only
     repeat (first | exact zpa | exact zpn | (apply zpc; focus (repeat (first | exact zh | apply zt))) | apply zps)
    ·refine ODt.call0 (.p rfl) (by kernel_rfl) rfl F.ok63 rfl rfl (refNumber_c _) ?_
     rintro v16 _ ⟨a16, c16, rfl, rfl⟩
     try simp only [zx1, zx2, zx3]
     refine OD.alt2 0 10 [10, 14, 15, 16, 17] [0, 14, 15, 16, 17] (by kernel_rfl) rfl rfl ?_ ?_
     ·refine ODt.litP (T := Rp.u8) (ys := [1]) (.p rfl) (by kernel_rfl) Tryz.underlying31 F.elem5 (by decide) rfl rfl ⟨rfl, trivial⟩ (by decide) (fun a9 c9 => ?_)
      refine OD.call0 (.p rfl) (by kernel_rfl) rfl F.ok63 rfl rfl (refNumber_c _) ?_
      rintro v19 _ ⟨a19, c19, rfl, rfl⟩
      try simp only [zx1, zx2, zx3]
      refine OD.call0 (.p rfl) (by kernel_rfl) rfl F.ok63 rfl rfl (refNumber_c _) ?_
      rintro v23 _ ⟨a23, c23, rfl, rfl⟩
      try simp only [zx1, zx2, zx3]
      refine OD.litP (T := Rp.val) (ys := [_, _, _, _, _]) (.p rfl) (by kernel_rfl) Tryz.underlying39 F.elem31 (by decide) rfl rfl ⟨⟨rfl, rfl⟩, ⟨rfl, rfl⟩, ⟨rfl, rfl⟩, ⟨rfl, rfl⟩, ⟨rfl, rfl⟩, trivial⟩ (by decide) (fun a24 c24 => ?_)
      refine OD.callB (.p rfl) (by kernel_rfl) rfl F.ok64 rfl rfl (bs := [OwnP Rp.val 31 (.slice a24 5 c24) [.slice a9 1 c9, .slice a13 (bytesOf x.1).length c13, .slice a16 8 c16, .slice a19 8 c19, .slice a23 8 c23], OwnP Rp.u8 5 (.slice a9 1 c9) [1], OwnP Rp.u8 5 (.slice a13 (bytesOf x.1).length c13) (bytesOf x.1), OwnP Rp.u8 5 (.slice a16 8 c16) (be x.2.1), OwnP Rp.u8 5 (.slice a19 8 c19) (be x.2.2.1), OwnP Rp.u8 5 (.slice a23 8 c23) (be x.2.2.2.1.length)]) (by repeat (first | exact zsn | (apply zsc; focus (repeat (first | exact zh | apply zt))))) (fun m hm hd => refJoin_c (xss := [[1], bytesOf x.1, be x.2.1, be x.2.2.1, be x.2.2.2.1.length]) ((hm.arr.right hd).rows ⟨hm.tail.arr.right hd, hm.tail.tail.arr.right hd, hm.tail.tail.tail.arr.right hd, hm.tail.tail.tail.tail.arr.right hd, hm.tail.tail.tail.tail.tail.arr.right hd, trivial⟩) (by rw [hfl]; omega)) ?_
      rintro v25 _ ⟨a25, c25, rfl, rfl⟩
      try simp only [zx1, zx2, zx3]
      rw [hfl]
      refine OD.q 1 rfl <| ODx.nil <| S.pk ?_ (S.weaken (Sub.app (.cons rfl (.nil)) (.cons rfl (.nil))) (key (a25, c25)))
      try dsimp only
      repeat (first | exact zpa | exact zpn | (apply zpc; focus (repeat (first | exact zh | apply zt))) | apply zps)
     ·refine ODt.call0 (.p rfl) (by kernel_rfl) rfl F.ok63 rfl rfl (refNumber_c _) ?_
      rintro v19 _ ⟨a19, c19, rfl, rfl⟩
      try simp only [zx1, zx2, zx3]
      refine OD.alt2 0 14 [14, 15, 16, 17] [0, 15, 16, 17] (by kernel_rfl) rfl rfl ?_ ?_
      ·refine ODt.litP (T := Rp.u8) (ys := [1]) (.p rfl) (by kernel_rfl) Tryz.underlying31 F.elem5 (by decide) rfl rfl ⟨rfl, trivial⟩ (by decide) (fun a9 c9 => ?_)
       refine OD.call0 (.p rfl) (by kernel_rfl) rfl F.ok63 rfl rfl (refNumber_c _) ?_
       rintro v23 _ ⟨a23, c23, rfl, rfl⟩
       try simp only [zx1, zx2, zx3]
       refine OD.litP (T := Rp.val) (ys := [_, _, _, _, _]) (.p rfl) (by kernel_rfl) Tryz.underlying39 F.elem31 (by decide) rfl rfl ⟨⟨rfl, rfl⟩, ⟨rfl, rfl⟩, ⟨rfl, rfl⟩, ⟨rfl, rfl⟩, ⟨rfl, rfl⟩, trivial⟩ (by decide) (fun a24 c24 => ?_)
       refine OD.callB (.p rfl) (by kernel_rfl) rfl F.ok64 rfl rfl (bs := [OwnP Rp.val 31 (.slice a24 5 c24) [.slice a9 1 c9, .slice a13 (bytesOf x.1).length c13, .slice a16 8 c16, .slice a19 8 c19, .slice a23 8 c23], OwnP Rp.u8 5 (.slice a9 1 c9) [1], OwnP Rp.u8 5 (.slice a13 (bytesOf x.1).length c13) (bytesOf x.1), OwnP Rp.u8 5 (.slice a16 8 c16) (be x.2.1), OwnP Rp.u8 5 (.slice a19 8 c19) (be x.2.2.1), OwnP Rp.u8 5 (.slice a23 8 c23) (be x.2.2.2.1.length)]) (by repeat (first | exact zsn | (apply zsc; focus (repeat (first | exact zh | apply zt))))) (fun m hm hd => refJoin_c (xss := [[1], bytesOf x.1, be x.2.1, be x.2.2.1, be x.2.2.2.1.length]) ((hm.arr.right hd).rows ⟨hm.tail.arr.right hd, hm.tail.tail.arr.right hd, hm.tail.tail.tail.arr.right hd, hm.tail.tail.tail.tail.arr.right hd, hm.tail.tail.tail.tail.tail.arr.right hd, trivial⟩) (by rw [hfl]; omega)) ?_
       rintro v25 _ ⟨a25, c25, rfl, rfl⟩
       try simp only [zx1, zx2, zx3]
       rw [hfl]
       refine OD.q 1 rfl <| ODx.nil <| S.pk ?_ (S.weaken (Sub.app (.cons rfl (.nil)) (.cons rfl (.nil))) (key (a25, c25)))
       try dsimp only
       repeat (first | exact zpa | exact zpn | (apply zpc; focus (repeat (first | exact zh | apply zt))) | apply zps)
      ·refine ODt.call0 (.p rfl) (by kernel_rfl) rfl F.ok63 rfl rfl (refNumber_c _) ?_
       rintro v23 _ ⟨a23, c23, rfl, rfl⟩
       try simp only [zx1, zx2, zx3]
       refine OD.litP (T := Rp.u8) (ys := [1]) (.p rfl) (by kernel_rfl) Tryz.underlying31 F.elem5 (by decide) rfl rfl ⟨rfl, trivial⟩ (by decide) (fun a9 c9 => ?_)
       refine OD.litP (T := Rp.val) (ys := [_, _, _, _, _]) (.p rfl) (by kernel_rfl) Tryz.underlying39 F.elem31 (by decide) rfl rfl ⟨⟨rfl, rfl⟩, ⟨rfl, rfl⟩, ⟨rfl, rfl⟩, ⟨rfl, rfl⟩, ⟨rfl, rfl⟩, trivial⟩ (by decide) (fun a24 c24 => ?_)
       refine OD.callB (.p rfl) (by kernel_rfl) rfl F.ok64 rfl rfl (bs := [OwnP Rp.val 31 (.slice a24 5 c24) [.slice a9 1 c9, .slice a13 (bytesOf x.1).length c13, .slice a16 8 c16, .slice a19 8 c19, .slice a23 8 c23], OwnP Rp.u8 5 (.slice a9 1 c9) [1], OwnP Rp.u8 5 (.slice a13 (bytesOf x.1).length c13) (bytesOf x.1), OwnP Rp.u8 5 (.slice a16 8 c16) (be x.2.1), OwnP Rp.u8 5 (.slice a19 8 c19) (be x.2.2.1), OwnP Rp.u8 5 (.slice a23 8 c23) (be x.2.2.2.1.length)]) (by repeat (first | exact zsn | (apply zsc; focus (repeat (first | exact zh | apply zt))))) (fun m hm hd => refJoin_c (xss := [[1], bytesOf x.1, be x.2.1, be x.2.2.1, be x.2.2.2.1.length]) ((hm.arr.right hd).rows ⟨hm.tail.arr.right hd, hm.tail.tail.arr.right hd, hm.tail.tail.tail.arr.right hd, hm.tail.tail.tail.tail.arr.right hd, hm.tail.tail.tail.tail.tail.arr.right hd, trivial⟩) (by rw [hfl]; omega)) ?_
       rintro v25 _ ⟨a25, c25, rfl, rfl⟩
       try simp only [zx1, zx2, zx3]
       rw [hfl]
       refine OD.q 1 rfl <| ODx.nil <| S.pk ?_ (S.weaken (Sub.app (.cons rfl (.nil)) (.cons rfl (.nil))) (key (a25, c25)))
       try dsimp only
       repeat (first | exact zpa | exact zpn | (apply zpc; focus (repeat (first | exact zh | apply zt))) | apply zps)
 refine S.seq <| S.seq <| S.region rfl <| O.q 1 rfl <| O.nil <| S.block <| S.ownIs (T := Rp.u8) (e := 5) (v' := .slice s.1 (recHead x ++ dotsB (x.2.2.2.1.take 0)).length s.2) (xs' := recHead x ++ dotsB (x.2.2.2.1.take 0)) (by repeat (first | exact zh | apply zt)) (by simp) (by simp) ?_
 refine S.slot 3 (v' := .slice s.1 (recHead x ++ dotsB (x.2.2.2.1.take 0)).length s.2) rfl (by simp) ?_
 refine S.loopK2 (ι := Nat) (κ := Option Addr × Nat) (fun i q => i ≤ x.2.2.2.1.length) (fun i q => [(3, .slice q.1 (recHead x ++ dotsB (x.2.2.2.1.take i)).length q.2), (4, .int .i64 (i : Int))]) [(1, _)] (fun i q => [OwnP Rp.u8 5 (.slice q.1 (recHead x ++ dotsB (x.2.2.2.1.take i)).length q.2) (recHead x ++ dotsB (x.2.2.2.1.take i))]) (fun i q => x.2.2.2.1.length - i) (0) (s) (by simp) (.cons rfl (.cons rfl (.nil))) (.cons rfl (.nil)) rfl fun i q hx ih => ?_
 have hm1 := meltRefl (g := g)
 refine S.seq <| S.seq <| S.region rfl <| O.q 1 rfl <| O.op (.p rfl) (.fieldAddr F.fld74x3 rfl) <| O.op (.p rfl) (.loadAt F.flat72 rfl (hb1.drop 3) rfl) ?_
 refine O.op (.p rfl) (.len rfl Tryz.underlying72 rfl) <| O.op (.p rfl) (.lss rfl rfl) <| O.nil ?_
 first | refine S.condD rfl (fun h30 => ?_) (fun h30 => ?_) | refine S.condB rfl (fun h30 => ?_) (fun h30 => ?_)
 ·have hi : i < x.2.2.2.1.length := by omega
  have htk : recHead x ++ dotsB (x.2.2.2.1.take i) ++ (be x.2.2.2.1[i].1 ++ be x.2.2.2.1[i].2.1) = recHead x ++ dotsB (x.2.2.2.1.take (i + 1)) := by rw [List.take_succ_eq_append_getElem hi, dotsB_snoc, List.append_assoc]
  have hln : (recHead x ++ dotsB (x.2.2.2.1.take i)).length ≤ 1000 := by rw [List.length_append, dotsB_length, List.length_take]; omega
  generalize recHead x ++ dotsB (x.2.2.2.1.take i) = so at htk hln ⊢
  have hfl2 : [so, be x.2.2.2.1[i].1, be x.2.2.2.1[i].2.1].flatten = recHead x ++ dotsB (x.2.2.2.1.take (i + 1)) := by rw [← htk]; simp
  have hl2 : [so, be x.2.2.2.1[i].1, be x.2.2.2.1[i].2.1].flatten.length ≤ 2000 := by simp; omega
  generalize hD : x.2.2.2.1[i] = dt at htk hfl2 hl2
  refine S.skip <| S.seq <| S.block <| S.regionD (L := [0, 1, 2, 3, 4, 5, 6, 8, 9, 10, 11, 12, 13, 7, 14, 15, 16, 17]) F.mixed (by kernel_rfl) <| OD.q 1 rfl <| .quiet (.p rfl) rfl (fun _ => .fieldAddr F.fld74x3 rfl) <| .quiet (.p rfl) rfl (fun _ => .loadAt F.flat72 rfl (hb1.drop 3) rfl) ?_
  refine OD.q 1 rfl <| OD.ia (.p rfl) Tryz.underlying72 F.size166 rfl rfl rfl (k3) (h := fun p37 cs37 hp37 hr37 => ?_)
  obtain ⟨rfl, hi37, hj37⟩ := DotRp.open hr37
  rw [hD] at hp37
  refine .quiet (.p rfl) rfl (fun _ => .fieldAddr F.fld166x0 rfl) <| .quiet (.p rfl) rfl (fun _ => .loadAt F.flat3 rfl hp37 rfl) ?_
  refine .quiet (.p rfl) rfl (fun _ => .fieldAddr F.fld74x3 rfl) <| .quiet (.p rfl) rfl (fun _ => .loadAt F.flat72 rfl (hb1.drop 3) rfl) ?_
  refine OD.q 1 rfl <| OD.ia (.p rfl) Tryz.underlying72 F.size166 rfl rfl rfl (k3) (h := fun p44 cs44 hp44 hr44 => ?_)
  obtain ⟨rfl, hi44, hj44⟩ := DotRp.open hr44
  rw [hD] at hp44
  refine .quiet (.p rfl) rfl (fun _ => .fieldAddr F.fld166x1 rfl) <| .quiet (.p rfl) rfl (fun _ => .loadAt F.flat3 rfl (hp44.drop 1) rfl) ?_
  refine OD.call0 (.p rfl) (by kernel_rfl) rfl F.ok63 rfl rfl (refNumber_c _) ?_
  rintro v40 _ ⟨a40, c40, rfl, rfl⟩
  try simp only [zx1, zx2, zx3]
  refine OD.call0 (.p rfl) (by kernel_rfl) rfl F.ok63 rfl rfl (refNumber_c _) ?_
  rintro v47 _ ⟨a47, c47, rfl, rfl⟩
  try simp only [zx1, zx2, zx3]
  refine OD.litP (T := Rp.val) (ys := [_, _, _]) (.p rfl) (by kernel_rfl) Tryz.underlying39 F.elem31 (by decide) rfl rfl ⟨⟨rfl, rfl⟩, ⟨rfl, rfl⟩, ⟨rfl, rfl⟩, trivial⟩ (by decide) (fun a48 c48 => ?_)
  refine OD.callB (.p rfl) (by kernel_rfl) rfl F.ok64 rfl rfl (bs := [OwnP Rp.val 31 (.slice a48 3 c48) [.slice q.1 so.length q.2, .slice a40 8 c40, .slice a47 8 c47], OwnP Rp.u8 5 (.slice q.1 so.length q.2) so, OwnP Rp.u8 5 (.slice a40 8 c40) (be dt.1), OwnP Rp.u8 5 (.slice a47 8 c47) (be dt.2.1)]) (by repeat (first | exact zsn | (apply zsc; focus (repeat (first | exact zh | apply zt))))) (fun m hm hd => refJoin_c (xss := [so, be dt.1, be dt.2.1]) ((hm.arr.right hd).rows ⟨hm.tail.arr.right hd, hm.tail.tail.arr.right hd, hm.tail.tail.tail.arr.right hd, trivial⟩) (by omega)) ?_
  rintro v49 _ ⟨a49, c49, rfl, rfl⟩
  try simp only [zx1, zx2, zx3]
  rw [hfl2]
  refine OD.q 1 rfl <| ODx.nil <| S.inBlock <| S.region rfl <| O.q 1 rfl <| O.op (.p rfl) (.add rfl rfl (IntWalk.i64_in _ (by omega))) <| O.q 1 rfl <| O.nil ?_
  exact S.pw (ih (i + 1) ((a49, c49)) (by omega) (by omega))
 ·clear ih
  have hi : i = x.2.2.2.1.length := by omega
  subst hi
  rw [List.take_length]
  generalize hso : recHead x ++ dotsB x.2.2.2.1 = so
  have hsl : so.length ≤ 2000 := by rw [← hso, List.length_append, dotsB_length]; omega
  have hrt : [so, [goneB x.2.2.2.2.1], bytesOf x.2.2.2.2.2.1].flatten = recText x := by rw [← hso]; simp [recHead, recText]
  have hrl : (recText x).length ≤ 100000 := by rw [recText_length]; omega
  refine S.exit rfl <| S.seq <| S.region rfl <| O.q 1 rfl <| O.nil (S.seq (S.seq ?_))
  cases g4 : x.2.2.2.2.1 with
  | false =>
   rw [g4] at hrt
   refine S.region rfl <| O.op (.p rfl) (.fieldAddr F.fld74x4 rfl) <| O.op (.p rfl) (.loadAt F.flat4 rfl (hb1.drop 4) rfl) ?_
   refine O.sF 51 rfl (by exact g4) ?_
   refine O.nil <| S.condF rfl <| S.skip <| S.seq <| S.region rfl <| O.q 2 rfl <| O.opE (.p rfl) (.litP (T := Rp.u8) (ys := [goneB false]) Tryz.underlying31 F.elem5 (by decide) rfl rfl ⟨rfl, trivial⟩ (by decide)) ?_
   rintro v54 _ ⟨a54, c54, rfl, rfl⟩
   refine O.op (.p rfl) (.fieldAddr F.fld74x5 rfl) <| O.op (.p rfl) (.loadAt F.flat31 rfl (hb1.drop 5) rfl) ?_
   refine O.call0 (.p rfl) rfl F.ok65 rfl rfl (refBytes_c (by first | assumption | exact Arr.mono hg (by assumption) | exact Arr.left (by assumption) | exact Arr.left (Arr.mono hg (by assumption))) (by first | omega | (simp; done) | (simp; omega) | decide)) ?_
   rintro v57 _ ⟨a57, c57, rfl, rfl⟩
   try simp only [zx1, zx2, zx3]
   refine O.opE (.p rfl) (.litP (T := Rp.val) (ys := [_, _, _]) Tryz.underlying39 F.elem31 (by decide) rfl rfl ⟨⟨rfl, rfl⟩, ⟨rfl, rfl⟩, ⟨rfl, rfl⟩, trivial⟩ (by decide)) ?_
   rintro _ _ ⟨a58, c58, rfl, rfl⟩
   refine O.callB (.p rfl) rfl F.ok64 rfl rfl (bs := [OwnP Rp.val 31 (.slice a58 3 c58) [.slice q.1 so.length q.2, .slice a54 1 c54, .slice a57 (bytesOf x.2.2.2.2.2.1).length c57], OwnP Rp.u8 5 (.slice q.1 so.length q.2) so, OwnP Rp.u8 5 (.slice a54 1 c54) [goneB false], OwnP Rp.u8 5 (.slice a57 (bytesOf x.2.2.2.2.2.1).length c57) (bytesOf x.2.2.2.2.2.1)]) (by repeat (first | exact zsn | (apply zsc; focus (repeat (first | exact zh | apply zt))))) (fun m hm hd => refJoin_c (xss := [so, [goneB false], bytesOf x.2.2.2.2.2.1]) ((hm.arr.right hd).rows ⟨hm.tail.arr.right hd, hm.tail.tail.arr.right hd, hm.tail.tail.tail.arr.right hd, trivial⟩) (by rw [hrt]; omega)) ?_
   rintro v59 _ ⟨a59, c59, rfl, rfl⟩
   try simp only [zx1, zx2, zx3]
   rw [hrt]
   refine O.q 1 rfl <| O.nil ?_
   exact S.rt Tryz.results285 rfl hR ⟨a59, c59, rfl, rfl⟩
  | true =>
   rw [g4] at hrt
   refine S.region rfl <| O.op (.p rfl) (.fieldAddr F.fld74x4 rfl) <| O.op (.p rfl) (.loadAt F.flat4 rfl (hb1.drop 4) rfl) ?_
   refine O.sT 51 rfl (by exact g4) ?_
   refine O.nil <| S.condT rfl <| S.region rfl <| O.q 1 rfl <| O.nil <| S.seq <| S.region rfl <| O.q 2 rfl <| O.opE (.p rfl) (.litP (T := Rp.u8) (ys := [goneB true]) Tryz.underlying31 F.elem5 (by decide) rfl rfl ⟨rfl, trivial⟩ (by decide)) ?_
   rintro v54 _ ⟨a54, c54, rfl, rfl⟩
   refine O.op (.p rfl) (.fieldAddr F.fld74x5 rfl) <| O.op (.p rfl) (.loadAt F.flat31 rfl (hb1.drop 5) rfl) ?_
   refine O.call0 (.p rfl) rfl F.ok65 rfl rfl (refBytes_c (by first | assumption | exact Arr.mono hg (by assumption) | exact Arr.left (by assumption) | exact Arr.left (Arr.mono hg (by assumption))) (by first | omega | (simp; done) | (simp; omega) | decide)) ?_
   rintro v57 _ ⟨a57, c57, rfl, rfl⟩
   try simp only [zx1, zx2, zx3]
   refine O.opE (.p rfl) (.litP (T := Rp.val) (ys := [_, _, _]) Tryz.underlying39 F.elem31 (by decide) rfl rfl ⟨⟨rfl, rfl⟩, ⟨rfl, rfl⟩, ⟨rfl, rfl⟩, trivial⟩ (by decide)) ?_
   rintro _ _ ⟨a58, c58, rfl, rfl⟩
   refine O.callB (.p rfl) rfl F.ok64 rfl rfl (bs := [OwnP Rp.val 31 (.slice a58 3 c58) [.slice q.1 so.length q.2, .slice a54 1 c54, .slice a57 (bytesOf x.2.2.2.2.2.1).length c57], OwnP Rp.u8 5 (.slice q.1 so.length q.2) so, OwnP Rp.u8 5 (.slice a54 1 c54) [goneB true], OwnP Rp.u8 5 (.slice a57 (bytesOf x.2.2.2.2.2.1).length c57) (bytesOf x.2.2.2.2.2.1)]) (by repeat (first | exact zsn | (apply zsc; focus (repeat (first | exact zh | apply zt))))) (fun m hm hd => refJoin_c (xss := [so, [goneB true], bytesOf x.2.2.2.2.2.1]) ((hm.arr.right hd).rows ⟨hm.tail.arr.right hd, hm.tail.tail.arr.right hd, hm.tail.tail.tail.arr.right hd, trivial⟩) (by rw [hrt]; omega)) ?_
   rintro v59 _ ⟨a59, c59, rfl, rfl⟩
   try simp only [zx1, zx2, zx3]
   rw [hrt]
   refine O.q 1 rfl <| O.nil ?_
   exact S.rt Tryz.results285 rfl hR ⟨a59, c59, rfl, rfl⟩
theorem r8put_c {r : Fr} {cs : List Value} {x : RecT} (h : RecRp.rel r cs x) :
  Con Tryz.prog 214 #[.agg cs.toArray] r [] (Ret fun v η => ∃ a c, v = .tuple #[.slice a (recOut x).length c, .int .i64 (recErr x)] ∧ η = [OwnP Rp.u8 5 (.slice a (recOut x).length c) (recOut x)]) := by
 obtain ⟨xa3, xa5, xa6, xc3, xc5, xc6, rfl, k0, k1, k2, k3, k5, k6⟩ := RecRp.sh h
 refine Con.of (n := 13) _ rfl Tryz.func214 rfl rfl rfl fun g hg R hR => ?_
 have h := h.mono hg
 have k6 := k6.mono hg
 refine S.seq <| S.region rfl <| O.opE (.p rfl) (.box (cs := [_, _, _, _, _, _, _]) rfl rfl) ?_
 rintro _ _ ⟨b1, rfl, rfl⟩
 refine O.q 2 rfl <| O.nil <| S.seq <| S.seq <| S.frzO (by repeat (first | exact zh | apply zt)) fun g hs hm hb1 => ?_
 replace hg := Fr.sub_trans hg hs
 replace hR := melted hR hm
 try replace h := h.mono hs
 try replace k6 := k6.mono hs
 clear hs hm
 cases e : recOk x with
 | false =>
  have e1 : recOut x = [] := by simp [recOut, e]
  have e2 : recErr x = 4 := by simp [recErr, e]
  rw [e1, e2] at hR
  refine S.region rfl <| O.op (.p rfl) (.loadAgg Tryz.isAgg74 (by kernel_rfl) rfl hb1) ?_
  refine O.call0 (.p rfl) rfl F.ok213 rfl rfl ((r8right_c h)) ?_
  rintro v5 _ ⟨rfl, rfl⟩
  try simp only [zx1, zx2, zx3]
  refine O.sF 5 rfl (by exact e) ?_
  refine O.op (.p rfl) (.not rfl) <| O.nil <| S.condT rfl <| S.seq <| S.region rfl <| O.q 2 rfl <| O.nil <| S.addNil (T := Rp.u8) (e := 5) ?_
  refine S.ret2 Tryz.results214 rfl rfl fun w hw => Holds.end_ hR hw ?_
  exact pk ⟨none, 0, rfl, rfl⟩
 | true =>
  have e1 : recOut x = recB x := by simp [recOut, e]
  have e2 : recErr x = 0 := by simp [recErr, e]
  rw [e1, e2] at hR
  have hs := (recOk_iff.1 e).1
  have hbl := recB_le e
  have htl := recText_le hs
  have hfl : [recText x, x.2.2.2.2.2.2.1].flatten = recB x := by simp [recB]
  refine S.region rfl <| O.op (.p rfl) (.loadAgg Tryz.isAgg74 (by kernel_rfl) rfl hb1) ?_
  refine O.call0 (.p rfl) rfl F.ok213 rfl rfl ((r8right_c h)) ?_
  rintro v5 _ ⟨rfl, rfl⟩
  try simp only [zx1, zx2, zx3]
  refine O.sT 5 rfl (by exact e) ?_
  refine O.op (.p rfl) (.not rfl) <| O.nil <| S.condF rfl <| S.skip <| S.seq <| S.regionD (L := [0, 2, 3, 1, 4, 5, 6, 7]) F.mixed (by kernel_rfl) <| .quiet (.p rfl) rfl (fun _ => .loadAgg Tryz.isAgg74 (by kernel_rfl) rfl hb1) ?_
  refine .quiet (.p rfl) rfl (fun _ => .fieldAddr F.fld74x6 rfl) <| .quiet (.p rfl) rfl (fun _ => .loadAt F.flat31 rfl (hb1.drop 6) rfl) ?_
  refine OD.call0 (.p rfl) (by kernel_rfl) rfl F.ok285 rfl rfl ((r8text_c h hs)) ?_
  rintro v8 _ ⟨a8, c8, rfl, rfl⟩
  try simp only [zx1, zx2, zx3]
  refine OD.litP (T := Rp.val) (ys := [_, _]) (.p rfl) (by kernel_rfl) Tryz.underlying39 F.elem31 (by decide) rfl rfl ⟨⟨rfl, rfl⟩, ⟨rfl, rfl⟩, trivial⟩ (by decide) (fun a11 c11 => ?_)
  refine OD.callB (.p rfl) (by kernel_rfl) rfl F.ok64 rfl rfl (bs := [OwnP Rp.val 31 (.slice a11 2 c11) [.slice a8 (recText x).length c8, .slice xa6 x.2.2.2.2.2.2.1.length xc6], OwnP Rp.u8 5 (.slice a8 (recText x).length c8) (recText x)]) (by repeat (first | exact zsn | (apply zsc; focus (repeat (first | exact zh | apply zt))))) (fun m hm hd => refJoin_c (xss := [recText x, x.2.2.2.2.2.2.1]) ((hm.arr.right hd).rows ⟨hm.tail.arr.right hd, k6.left, trivial⟩) (by rw [hfl]; omega)) ?_
  rintro v12 _ ⟨a12, c12, rfl, rfl⟩
  try simp only [zx1, zx2, zx3]
  rw [hfl]
  refine OD.q 2 rfl <| ODx.nil <| S.ret2 Tryz.results214 rfl rfl fun w hw => Holds.end_ hR hw ?_
  exact pk ⟨a12, c12, rfl, rfl⟩
end Go.Proofs.YtodhbhanmdfdeaaGreat
