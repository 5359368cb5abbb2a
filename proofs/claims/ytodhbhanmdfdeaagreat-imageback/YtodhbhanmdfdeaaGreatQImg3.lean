/- Texts of this proof. -/
import Derived.Test.YtodhbhanmdfdeaaGreatQFc
import Derived.Test.YtodhbhanmdfdeaaGreatQImg2
import Derived.Test.YtodhbhanmdfdeaaGreatQSpAuto
open Go Go.Sp
set_option maxRecDepth 100000
attribute [local irreducible] obj Own OwnP
namespace Go.Proofs.YtodhbhanmdfdeaaGreat
theorem wown_c {r : Fr} {b : Nat} {s : WSt} {cs : List Value} {x : RootT} (h : RootRp.rel r cs x) (hb : s.out.length ≤ 140000000000000) :
  Con Tryz.prog 148 #[.pointer (some ⟨b, 0, none⟩), .agg cs.toArray] r [WrB b s] (StepP rootStep b s x) := by
 obtain ⟨xa3, xa4, xc3, xc4, rfl, k0, k1, k2, k3, k4⟩ := RootRp.sh h
 refine Con.of (n := 48) _ rfl Tryz.func148 rfl rfl rfl fun g hg R hR => ?_
 have h := h.mono hg
 refine S.seq <| S.region rfl <| O.opE (.p rfl) (.box (cs := [_, _, _, _, _]) rfl rfl) ?_
 rintro _ _ ⟨b3, rfl, rfl⟩
 refine O.nil <| S.seq <| S.frzO (by repeat (first | exact zh | apply zt)) fun g hs hm hb3 => ?_
 replace hg := Fr.sub_trans hg hs
 replace hR := melted hR hm
 try replace h := h.mono hs
 clear hs hm
 refine S.open (A := WrB b s) (by repeat (first | exact zh | apply zt)) (fun m x => x) fun p => ?_
 simp only [List.cons_append, List.nil_append]
 refine S.region rfl <| O.q 1 rfl <| O.op (.p rfl) (.nilCheck rfl) <| O.op (.p rfl) (.fieldObj F.fld186x2 rfl) <| O.op (.p rfl) (.fieldObj F.fld52x0 rfl) <| O.op (.p rfl) (.lo F.flat3) ?_
 refine O.op (.p rfl) (.eql rfl rfl) <| O.q 1 rfl <| O.nil (S.seq ?_)
 have hg_o := hg
 have hR_o := hR
 try have h_o := h
 try have hb3_o := hb3
 refine S.frzH (B := obj b 186 [.slice p.1.1.1 s.out.length p.1.1.2, .string (str s.key), .int .i64 s.rep, .int .i64 s.shard, .int .i64 p.2.1, .slice p.2.2.1.1 p.2.2.1.2.1 p.2.2.1.2.2, .slice p.2.2.2.1 p.2.2.2.2.1 p.2.2.2.2.2, .int .i64 s.last, .slice p.1.2.1 s.seen.length p.1.2.2]) (by repeat (first | exact zh | apply zt)) fun go hso ⟨mo, hmo, hsmo⟩ hbo => ?_
 replace hg := Fr.sub_trans hg hso
 replace hR := backR hR hbo
 try replace h := h.mono hso
 try replace hb3 := hb3.mono hso
 have hat := (obj_at hmo).mono hsmo
 by_cases n0 : ¬ (s.rep = 0 ∨ x.1 = s.rep ∧ s.shard < x.2.1)
 ·have hno : rootStep s x = none := if_neg fun q => n0 q.1
  by_cases c1 : x.1 = s.rep
  ·
   refine S.regionD (L := [0, 1, 2, 3, 4, 5, 6, 7, 8, 9, 10, 11, 12, 13, 14, 15, 16, 17, 18, 19, 20, 21]) F.mixed (by kernel_rfl) ?_
   refine OD.q 1 rfl <| OD.sF 11 rfl (by exact decide_eq_false (fun q => n0 (.inl q))) ?_
   refine OD.q 1 rfl <| .quiet (.g rfl rfl) rfl (fun _ => .fieldAddr F.fld52x0 rfl) <| .quiet (.g rfl rfl) rfl (fun _ => .loadAt F.flat3 rfl hb3 rfl) ?_
   refine OD.q 1 rfl <| .quiet (.g rfl rfl) rfl (fun _ => .nilCheck rfl) <| .quiet (.g rfl rfl) rfl (fun _ => .fieldAddr F.fld186x2 rfl) <| .quiet (.g rfl rfl) rfl (fun _ => .fieldAddr F.fld52x0 rfl) <| .quiet (.g rfl rfl) rfl (fun _ => .loadAt F.flat3 rfl (hat.drop 2) rfl) ?_
   refine .quiet (.g rfl rfl) rfl (fun _ => .eql rfl rfl) <| OD.sT 20 rfl (by exact decide_eq_true c1) ?_
   refine OD.q 1 rfl <| .quiet (.g rfl rfl) rfl (fun _ => .fieldAddr F.fld52x1 rfl) <| .quiet (.g rfl rfl) rfl (fun _ => .loadAt F.flat3 rfl (hb3.drop 1) rfl) ?_
   refine OD.q 1 rfl <| .quiet (.g rfl rfl) rfl (fun _ => .nilCheck rfl) <| .quiet (.g rfl rfl) rfl (fun _ => .fieldAddr F.fld186x2 rfl) <| .quiet (.g rfl rfl) rfl (fun _ => .fieldAddr F.fld52x1 rfl) <| .quiet (.g rfl rfl) rfl (fun _ => .loadAt F.flat3 rfl (hat.drop 3) rfl) ?_
   refine .quiet (.g rfl rfl) rfl (fun _ => .gtr rfl rfl) <| OD.sF 29 rfl (by exact decide_eq_false (fun q => n0 (.inr ⟨c1, by omega⟩))) ?_
   refine OD.q 2 rfl <| OD.callP0 (.p rfl) (by kernel_rfl) rfl F.ok90 rfl rfl (imust_c _) (fun ch η' w hX hW => by (obtain ⟨hb, rfl, rfl⟩ := hX; exact hR _ _ w ⟨hno, rfl, rfl⟩ hW.drop_all)) ?_
   rintro v32 _ ⟨hb32, rfl, rfl⟩
   try simp only [zx1, zx2, zx3]
   exact absurd hb32 (by simp)
  ·
   refine S.regionD (L := [0, 1, 2, 3, 4, 5, 6, 7, 8, 9, 10, 11, 12, 13, 14, 15, 16, 17, 18, 19, 20, 21]) F.mixed (by kernel_rfl) ?_
   refine OD.q 1 rfl <| OD.sF 11 rfl (by exact decide_eq_false (fun q => n0 (.inl q))) ?_
   refine OD.q 1 rfl <| .quiet (.g rfl rfl) rfl (fun _ => .fieldAddr F.fld52x0 rfl) <| .quiet (.g rfl rfl) rfl (fun _ => .loadAt F.flat3 rfl hb3 rfl) ?_
   refine OD.q 1 rfl <| .quiet (.g rfl rfl) rfl (fun _ => .nilCheck rfl) <| .quiet (.g rfl rfl) rfl (fun _ => .fieldAddr F.fld186x2 rfl) <| .quiet (.g rfl rfl) rfl (fun _ => .fieldAddr F.fld52x0 rfl) <| .quiet (.g rfl rfl) rfl (fun _ => .loadAt F.flat3 rfl (hat.drop 2) rfl) ?_
   refine .quiet (.g rfl rfl) rfl (fun _ => .eql rfl rfl) <| OD.sF 20 rfl (by exact decide_eq_false c1) ?_
   refine OD.q 11 rfl <| OD.callP0 (.p rfl) (by kernel_rfl) rfl F.ok90 rfl rfl (imust_c _) (fun ch η' w hX hW => by (obtain ⟨hb, rfl, rfl⟩ := hX; exact hR _ _ w ⟨hno, rfl, rfl⟩ hW.drop_all)) ?_
   rintro v32 _ ⟨hb32, rfl, rfl⟩
   try simp only [zx1, zx2, zx3]
   exact absurd hb32 (by simp)
 have c0 := Classical.not_not.1 n0
 refine S.cut1 (fun (u : Unit) => True) (fun (u : Unit) => []) [(0, _), (3, _)] (fun (u : Unit) => [OwnP Rp.u8 5 (.slice p.1.1.1 s.out.length p.1.1.2) s.out, OwnP Rp.str 9 (.slice p.1.2.1 s.seen.length p.1.2.2) s.seen]) (.cons rfl (.cons rfl (.nil))) (fun key => ?_) (fun u hx => ?_)
 ·have hm1 := meltRefl (g := g)
  rcases c0 with c0 | c0
  ·refine S.regionD (L := [0, 1, 2, 3, 4, 5, 6, 7, 8, 9, 10, 11, 12, 13, 14, 15, 16, 17, 18, 19, 20, 21]) F.mixed (by kernel_rfl) ?_
   refine OD.q 1 rfl <| OD.sT 11 rfl (by exact decide_eq_true c0) ?_
   refine OD.q 20 rfl <| OD.callP0 (.p rfl) (by kernel_rfl) rfl F.ok90 rfl rfl (imust_c _) (fun ch η' w hX hW => by (exact absurd hX.1 (by simp))) ?_
   rintro v32 _ ⟨hb32, rfl, rfl⟩
   try simp only [zx1, zx2, zx3]
   refine ODx.nil <| S.pk ?_ (S.weaken ?_ (key (()) (by trivial)))
   ·repeat (first | exact zpa | exact zpn | (apply zpc; focus (repeat (first | exact zh | apply zt))) | apply zps)
   repeat (first | exact Sub.nil | refine Sub.cons rfl ?_)
  ·by_cases c1 : s.rep = 0
   ·
    refine S.regionD (L := [0, 1, 2, 3, 4, 5, 6, 7, 8, 9, 10, 11, 12, 13, 14, 15, 16, 17, 18, 19, 20, 21]) F.mixed (by kernel_rfl) ?_
    refine OD.q 1 rfl <| OD.sT 11 rfl (by exact decide_eq_true c1) ?_
    refine OD.q 20 rfl <| OD.callP0 (.p rfl) (by kernel_rfl) rfl F.ok90 rfl rfl (imust_c _) (fun ch η' w hX hW => by (exact absurd hX.1 (by simp))) ?_
    rintro v32 _ ⟨hb32, rfl, rfl⟩
    try simp only [zx1, zx2, zx3]
    refine ODx.nil <| S.pk ?_ (S.weaken ?_ (key (()) (by trivial)))
    ·repeat (first | exact zpa | exact zpn | (apply zpc; focus (repeat (first | exact zh | apply zt))) | apply zps)
    repeat (first | exact Sub.nil | refine Sub.cons rfl ?_)
   ·
    refine S.regionD (L := [0, 1, 2, 3, 4, 5, 6, 7, 8, 9, 10, 11, 12, 13, 14, 15, 16, 17, 18, 19, 20, 21]) F.mixed (by kernel_rfl) ?_
    refine OD.q 1 rfl <| OD.sF 11 rfl (by exact decide_eq_false c1) ?_
    refine OD.q 1 rfl <| .quiet (.g rfl rfl) rfl (fun _ => .fieldAddr F.fld52x0 rfl) <| .quiet (.g rfl rfl) rfl (fun _ => .loadAt F.flat3 rfl hb3 rfl) ?_
    refine OD.q 1 rfl <| .quiet (.g rfl rfl) rfl (fun _ => .nilCheck rfl) <| .quiet (.g rfl rfl) rfl (fun _ => .fieldAddr F.fld186x2 rfl) <| .quiet (.g rfl rfl) rfl (fun _ => .fieldAddr F.fld52x0 rfl) <| .quiet (.g rfl rfl) rfl (fun _ => .loadAt F.flat3 rfl (hat.drop 2) rfl) ?_
    refine .quiet (.g rfl rfl) rfl (fun _ => .eql rfl rfl) <| OD.sT 20 rfl (by exact decide_eq_true c0.1) ?_
    refine OD.q 1 rfl <| .quiet (.g rfl rfl) rfl (fun _ => .fieldAddr F.fld52x1 rfl) <| .quiet (.g rfl rfl) rfl (fun _ => .loadAt F.flat3 rfl (hb3.drop 1) rfl) ?_
    refine OD.q 1 rfl <| .quiet (.g rfl rfl) rfl (fun _ => .nilCheck rfl) <| .quiet (.g rfl rfl) rfl (fun _ => .fieldAddr F.fld186x2 rfl) <| .quiet (.g rfl rfl) rfl (fun _ => .fieldAddr F.fld52x1 rfl) <| .quiet (.g rfl rfl) rfl (fun _ => .loadAt F.flat3 rfl (hat.drop 3) rfl) ?_
    refine .quiet (.g rfl rfl) rfl (fun _ => .gtr rfl rfl) <| OD.sT 29 rfl (by exact decide_eq_true (by have := c0.2; omega)) ?_
    refine OD.q 2 rfl <| OD.callP0 (.p rfl) (by kernel_rfl) rfl F.ok90 rfl rfl (imust_c _) (fun ch η' w hX hW => by (exact absurd hX.1 (by simp))) ?_
    rintro v32 _ ⟨hb32, rfl, rfl⟩
    try simp only [zx1, zx2, zx3]
    refine ODx.nil <| S.pk ?_ (S.weaken ?_ (key (()) (by trivial)))
    ·repeat (first | exact zpa | exact zpn | (apply zpc; focus (repeat (first | exact zh | apply zt))) | apply zps)
    repeat (first | exact Sub.nil | refine Sub.cons rfl ?_)
 ·refine S.back hbo ?_
  replace hg := hg_o
  replace hR := hR_o
  try replace h := h_o
  try replace hb3 := hb3_o
  clear hg_o hR_o
  refine S.seq ?_
  cases c5 : rootOk x with
  | false =>
   have hno : rootStep s x = none := if_neg fun q => by rw [c5] at q; exact absurd q.2 (by simp)
   have e5 : rootErr x = 4 := by simp [rootErr, c5]
   refine S.regionD (L := [0, 1, 2, 3, 4, 5, 6, 7, 8, 9, 10]) F.mixed (by kernel_rfl) ?_
   refine OD.q 1 rfl <| .quiet (.p rfl) rfl (fun _ => .nilCheck rfl) <| .quiet (.p rfl) rfl (fun _ => .fieldObj F.fld186x0 rfl) <| .quiet (.p rfl) rfl (fun _ => .loadAgg Tryz.isAgg52 (by kernel_rfl) rfl hb3) ?_
   refine OD.call0 (.p rfl) (by kernel_rfl) rfl F.ok238 rfl rfl (tPut_c h) ?_
   rintro v37 _ ⟨a37, c37, rfl, rfl⟩
   try simp only [zx1, zx2, zx3]
   refine OD.q 2 rfl <| OD.callP0 (.p rfl) (by kernel_rfl) rfl F.ok237 rfl rfl (told_c) (fun ch η' w hX hW => by (obtain ⟨hb, rfl, rfl⟩ := hX; exact hR _ _ w ⟨hno, rfl, rfl⟩ hW.drop_all)) ?_
   rintro v40 _ ⟨hb40, rfl, rfl⟩
   try simp only [zx1, zx2, zx3]
   exact absurd hb40 (by rw [e5]; decide)
  | true =>
   have e5 : rootOut x = rootB x := by simp [rootOut, c5]
   have e6 : rootErr x = 0 := by simp [rootErr, c5]
   have hyes : rootStep s x = some { s with rep := x.1, shard := x.2.1, out := s.out ++ bytesOf (rootB x) } := if_pos ⟨c0, c5⟩
   have hbd := rootB_length c5
   have hfl : [bytesOf (rootB x)].flatten = bytesOf (rootB x) := by simp
   refine S.regionD (L := [0, 1, 2, 3, 4, 5, 6, 7, 8, 9, 10]) F.mixed (by kernel_rfl) ?_
   refine OD.q 1 rfl <| .quiet (.p rfl) rfl (fun _ => .nilCheck rfl) <| .quiet (.p rfl) rfl (fun _ => .fieldObj F.fld186x0 rfl) <| .quiet (.p rfl) rfl (fun _ => .loadAgg Tryz.isAgg52 (by kernel_rfl) rfl hb3) ?_
   refine OD.call0 (.p rfl) (by kernel_rfl) rfl F.ok238 rfl rfl (tPut_c h) ?_
   rintro v37 _ ⟨a37, c37, rfl, rfl⟩
   try simp only [zx1, zx2, zx3]
   rw [e5]
   refine OD.q 2 rfl <| OD.callP0 (.p rfl) (by kernel_rfl) rfl F.ok237 rfl rfl (told_c) (fun ch η' w hX hW => by (exact absurd e6 hX.1)) ?_
   rintro v40 _ ⟨hb40, rfl, rfl⟩
   try simp only [zx1, zx2, zx3]
   refine OD.callB (.p rfl) (by kernel_rfl) rfl F.ok119 rfl rfl (bs := [OwnP Rp.u8 5 (.slice a37 (rootB x).length c37) (rootB x)]) (by repeat (first | exact zsn | (apply zsc; focus (repeat (first | exact zh | apply zt))))) (fun m hm hd => wBytes_c (hm.arr.right hd) (by omega)) ?_
   rintro v41 _ ⟨a41, c41, rfl, rfl⟩
   try simp only [zx1, zx2, zx3]
   refine OD.litP (T := Rp.val) (ys := [_]) (.p rfl) (by kernel_rfl) Tryz.underlying39 F.elem31 (by decide) rfl rfl ⟨⟨rfl, rfl⟩, trivial⟩ (by decide) (fun a42 c42 => ?_)
   refine OD.callSs (.p rfl) (by kernel_rfl) rfl F.ok236 rfl rfl (by repeat (first | exact zsn | (apply zsc; focus (repeat (first | exact zh | apply zt))))) (Con.lentW (η := [obj b 186 [.slice p.1.1.1 s.out.length p.1.1.2, .string (str s.key), .int .i64 s.rep, .int .i64 s.shard, .int .i64 p.2.1, .slice p.2.2.1.1 p.2.2.1.2.1 p.2.2.1.2.2, .slice p.2.2.2.1 p.2.2.2.2.1 p.2.2.2.2.2, .int .i64 s.last, .slice p.1.2.1 s.seen.length p.1.2.2], OwnP Rp.u8 5 (.slice p.1.1.1 s.out.length p.1.1.2) s.out]) (bs := [OwnP Rp.val 31 (.slice a42 1 c42) [.slice a41 (bytesOf (rootB x)).length c41], OwnP Rp.u8 5 (.slice a41 (bytesOf (rootB x)).length c41) (bytesOf (rootB x))]) (fun m hm hd => bput_c (xss := [bytesOf (rootB x)]) ((hm.arr.right hd).rows ⟨hm.tail.arr.right hd, trivial⟩) (by rw [hfl]; simp; omega) rfl)) ?_
   rintro v43 _ ⟨_, ⟨a43, c43, rfl, rfl⟩, rfl⟩
   try simp only [zx1, zx2, zx3]
   rw [hfl]
   refine ODx.nil <| S.region rfl <| O.q 1 rfl <| O.op (.p rfl) (.loadAgg Tryz.isAgg52 (by kernel_rfl) rfl hb3) ?_
   refine O.op (.p rfl) (.nilCheck rfl) <| O.op (.p rfl) (.fieldObj F.fld186x2 rfl) <| O.opU rfl (.storeObj (by kernel_rfl) rfl rfl rfl rfl (by repeat (first | exact zh | apply zt)) (by first | (simp; done) | (simp [Value.cells]; done))) ?_
   refine O.nil <| S.objIs (b := b) (cs' := [.slice a43 (s.out ++ bytesOf (rootB x)).length c43, .string (str s.key), .int .i64 x.1, .int .i64 x.2.1, .int .i64 x.2.2.1, .slice xa3 x.2.2.2.1.length xc3, .slice xa4 x.2.2.2.2.1.length xc4, .int .i64 s.last, .slice p.1.2.1 s.seen.length p.1.2.2]) (by repeat (first | exact zh | apply zt)) rfl ?_
   refine S.foldS (A := WrB b { s with rep := x.1, shard := x.2.1, out := s.out ++ bytesOf (rootB x) }) (bs := [obj b 186 [.slice a43 (s.out ++ bytesOf (rootB x)).length c43, .string (str s.key), .int .i64 x.1, .int .i64 x.2.1, .int .i64 x.2.2.1, .slice xa3 x.2.2.2.1.length xc3, .slice xa4 x.2.2.2.2.1.length xc4, .int .i64 s.last, .slice p.1.2.1 s.seen.length p.1.2.2], OwnP Rp.u8 5 (.slice a43 (s.out ++ bytesOf (rootB x)).length c43) (s.out ++ bytesOf (rootB x)), OwnP Rp.str 9 (.slice p.1.2.1 s.seen.length p.1.2.2) s.seen]) (by repeat (first | exact zsn | (apply zsc; focus (repeat (first | exact zh | apply zt))))) (fun m y => ⟨(((a43, c43), p.1.2), (x.2.2.1, (xa3, x.2.2.2.1.length, xc3), (xa4, x.2.2.2.2.1.length, xc4))), y⟩) ?_
   refine S.end0 Tryz.results148 fun w hw => Holds.end_ hR hw ?_
   exact pk ⟨rfl, _, hyes, rfl⟩
theorem wproof_c {r : Fr} {b : Nat} {s : WSt} {cs : List Value} {v : EvdT} (h : EvdRp.rel r cs v) (hb : s.out.length ≤ 140000000000000) (hseen : s.seen.length ≤ 1000000) :
  Con Tryz.prog 150 #[.pointer (some ⟨b, 0, none⟩), .agg cs.toArray] r [WrB b s] (StepP evdStep b s v) := by
 obtain ⟨xa3, xa4, xa8, xa9, xc3, xc4, xc8, xc9, rfl, _⟩ := EvdRp.sh h
 refine Con.of (n := 45) _ rfl Tryz.func150 rfl rfl rfl fun g hg R hR => ?_
 have h := h.mono hg
 cases c5 : evdOk v with
 | false =>
  have hno : evdStep s v = none := if_neg fun q => by rw [c5] at q; exact absurd q.1 (by simp)
  have e5 : evdErr v = 4 := by simp [evdErr, c5]
  refine S.seq <| S.region rfl <| O.opE (.p rfl) (.box (cs := [_, _, _, _, _, _, _, _, _, _]) rfl rfl) ?_
  rintro _ _ ⟨b3, rfl, rfl⟩
  refine O.nil <| S.seq <| S.region rfl <| O.op (.p rfl) (.loA (news := [_, _, _, _, _, _, _, _, _, _]) Tryz.isAgg55) ?_
  refine O.call0 (.p rfl) rfl F.ok239 rfl rfl (ePut_c h) ?_
  rintro v6 _ ⟨a6, c6, rfl, rfl⟩
  try simp only [zx1, zx2, zx3]
  refine O.q 2 rfl <| O.callP0 (.p rfl) rfl F.ok237 rfl rfl (told_c) (fun ch η' w hX hW => by (obtain ⟨hb, rfl, rfl⟩ := hX; exact hR _ _ w ⟨hno, rfl, rfl⟩ hW.drop_all)) ?_
  rintro v9 _ ⟨hb9, rfl, rfl⟩
  try simp only [zx1, zx2, zx3]
  exact absurd hb9 (by rw [e5]; decide)
 | true =>
  have e5 : evdOut v = evdB v := by simp [evdOut, c5]
  have e6 : evdErr v = 0 := by simp [evdErr, c5]
  have hbd := evdB_length c5
  have hfl : [bytesOf (evdB v)].flatten = bytesOf (evdB v) := by simp
  refine S.seq <| S.region rfl <| O.opE (.p rfl) (.box (cs := [_, _, _, _, _, _, _, _, _, _]) rfl rfl) ?_
  rintro _ _ ⟨b3, rfl, rfl⟩
  refine O.nil <| S.seq <| S.region rfl <| O.op (.p rfl) (.loA (news := [_, _, _, _, _, _, _, _, _, _]) Tryz.isAgg55) ?_
  refine O.call0 (.p rfl) rfl F.ok239 rfl rfl (ePut_c h) ?_
  rintro v6 _ ⟨a6, c6, rfl, rfl⟩
  try simp only [zx1, zx2, zx3]
  rw [e5]
  refine O.q 2 rfl <| O.callP0 (.p rfl) rfl F.ok237 rfl rfl (told_c) (fun ch η' w hX hW => by (exact absurd e6 hX.1)) ?_
  rintro v9 _ ⟨hb9, rfl, rfl⟩
  try simp only [zx1, zx2, zx3]
  refine O.q 1 rfl <| O.nil <| S.seq <| S.frzA (by repeat (first | exact zh | apply zt)) fun g hs hm hby => ?_
  replace hg := Fr.sub_trans hg hs
  replace hR := melted hR hm
  try replace h := h.mono hs
  clear hs hm
  refine S.open (A := WrB b s) (by repeat (first | exact zh | apply zt)) (fun m x => x) fun p => ?_
  simp only [List.cons_append, List.nil_append]
  have hg_o := hg
  have hR_o := hR
  try have h_o := h
  try have hby_o := hby
  refine S.frzH (B := obj b 186 [.slice p.1.1.1 s.out.length p.1.1.2, .string (str s.key), .int .i64 s.rep, .int .i64 s.shard, .int .i64 p.2.1, .slice p.2.2.1.1 p.2.2.1.2.1 p.2.2.1.2.2, .slice p.2.2.2.1 p.2.2.2.2.1 p.2.2.2.2.2, .int .i64 s.last, .slice p.1.2.1 s.seen.length p.1.2.2]) (by repeat (first | exact zh | apply zt)) fun go hso ⟨mo, hmo, hsmo⟩ hbo => ?_
  replace hg := Fr.sub_trans hg hso
  replace hR := backR hR hbo
  try replace h := h.mono hso
  try replace hby := hby.mono hso
  have hat := (obj_at hmo).mono hsmo
  have hg_q := hg
  have hR_q := hR
  try have h_q := h
  try have hby_q := hby
  try have hat_q := hat
  refine S.frzH (B := OwnP Rp.str 9 (.slice p.1.2.1 s.seen.length p.1.2.2) s.seen) (by repeat (first | exact zh | apply zt)) fun gq hsq ⟨mq, hmq, hsmq⟩ hbq => ?_
  replace hg := Fr.sub_trans hg hsq
  replace hR := backR hR hbq
  try replace h := h.mono hsq
  try replace hby := hby.mono hsq
  try replace hat := hat.mono hsq
  have hsn := hmq.arr.mono hsmq
  by_cases n1 : evdB v ∈ s.seen
  ·have hno : evdStep s v = none := if_neg fun q => q.2.1 n1
   refine S.regionD (L := [0, 1, 2, 3, 4, 5, 6, 7, 8, 9, 10, 11, 12, 13, 14, 15, 16]) F.mixed (by kernel_rfl) ?_
   refine OD.q 1 rfl <| .quiet (.p rfl) rfl (fun _ => .nilCheck rfl) <| .quiet (.p rfl) rfl (fun _ => .fieldAddr F.fld186x4 rfl) <| .quiet (.p rfl) rfl (fun _ => .loadAt F.flat184 rfl (hat.drop 8) rfl) ?_
   refine OD.q 1 rfl <| .quiet (.p rfl) rfl (fun _ => .toStr Tryz.underlying31 Tryz.underlying5 Tryz.underlying9 rfl (by first | assumption | exact Arr.mono hg (by assumption) | exact Arr.left (by assumption) | exact Arr.left (Arr.mono hg (by assumption)))) ?_
   refine OD.call0 (.p rfl) (by kernel_rfl) rfl F.ok240 rfl rfl (containsS_c _ hsn) ?_
   rintro v16 _ ⟨rfl, rfl⟩
   try simp only [zx1, zx2, zx3]
   refine OD.sT 16 rfl (by exact decide_eq_true n1) ?_
   refine .quiet (.p rfl) rfl (fun _ => .not rfl) <| OD.q 8 rfl <| OD.callP0 (.p rfl) (by kernel_rfl) rfl F.ok90 rfl rfl (imust_c _) (fun ch η' w hX hW => by (obtain ⟨hb, rfl, rfl⟩ := hX; exact hR _ _ w ⟨hno, rfl, rfl⟩ hW.drop_all)) ?_
   rintro v26 _ ⟨hb26, rfl, rfl⟩
   try simp only [zx1, zx2, zx3]
   exact absurd hb26 (by simp)
  by_cases n2 : 32 ≤ s.seen.length
  ·have hno : evdStep s v = none := if_neg fun q => by have := q.2.2; omega
   refine S.regionD (L := [0, 1, 2, 3, 4, 5, 6, 7, 8, 9, 10, 11, 12, 13, 14, 15, 16]) F.mixed (by kernel_rfl) ?_
   refine OD.q 1 rfl <| .quiet (.p rfl) rfl (fun _ => .nilCheck rfl) <| .quiet (.p rfl) rfl (fun _ => .fieldAddr F.fld186x4 rfl) <| .quiet (.p rfl) rfl (fun _ => .loadAt F.flat184 rfl (hat.drop 8) rfl) ?_
   refine OD.q 1 rfl <| .quiet (.p rfl) rfl (fun _ => .toStr Tryz.underlying31 Tryz.underlying5 Tryz.underlying9 rfl (by first | assumption | exact Arr.mono hg (by assumption) | exact Arr.left (by assumption) | exact Arr.left (Arr.mono hg (by assumption)))) ?_
   refine OD.call0 (.p rfl) (by kernel_rfl) rfl F.ok240 rfl rfl (containsS_c _ hsn) ?_
   rintro v16 _ ⟨rfl, rfl⟩
   try simp only [zx1, zx2, zx3]
   refine OD.sF 16 rfl (by exact decide_eq_false n1) ?_
   refine .quiet (.p rfl) rfl (fun _ => .not rfl) <| OD.q 2 rfl <| .quiet (.g rfl rfl) rfl (fun _ => .nilCheck rfl) <| .quiet (.g rfl rfl) rfl (fun _ => .fieldAddr F.fld186x4 rfl) <| .quiet (.g rfl rfl) rfl (fun _ => .loadAt F.flat184 rfl (hat.drop 8) rfl) ?_
   refine .quiet (.g rfl rfl) rfl (fun _ => .len rfl Tryz.underlying184 rfl) <| .quiet (.g rfl rfl) rfl (fun _ => .lss rfl rfl) <| OD.sF 24 rfl (by exact decide_eq_false (by omega)) ?_
   refine OD.q 1 rfl <| OD.callP0 (.p rfl) (by kernel_rfl) rfl F.ok90 rfl rfl (imust_c _) (fun ch η' w hX hW => by (obtain ⟨hb, rfl, rfl⟩ := hX; exact hR _ _ w ⟨hno, rfl, rfl⟩ hW.drop_all)) ?_
   rintro v26 _ ⟨hb26, rfl, rfl⟩
   try simp only [zx1, zx2, zx3]
   exact absurd hb26 (by simp)
  have hyes : evdStep s v = some { s with seen := s.seen ++ [evdB v], out := s.out ++ bytesOf (evdB v) } := if_pos ⟨c5, n1, by omega⟩
  refine S.regionD (L := [0, 1, 2, 3, 4, 5, 6, 7, 8, 9, 10, 11, 12, 13, 14, 15, 16]) F.mixed (by kernel_rfl) ?_
  refine OD.q 1 rfl <| .quiet (.p rfl) rfl (fun _ => .nilCheck rfl) <| .quiet (.p rfl) rfl (fun _ => .fieldAddr F.fld186x4 rfl) <| .quiet (.p rfl) rfl (fun _ => .loadAt F.flat184 rfl (hat.drop 8) rfl) ?_
  refine OD.q 1 rfl <| .quiet (.p rfl) rfl (fun _ => .toStr Tryz.underlying31 Tryz.underlying5 Tryz.underlying9 rfl (by first | assumption | exact Arr.mono hg (by assumption) | exact Arr.left (by assumption) | exact Arr.left (Arr.mono hg (by assumption)))) ?_
  refine OD.call0 (.p rfl) (by kernel_rfl) rfl F.ok240 rfl rfl (containsS_c _ hsn) ?_
  rintro v16 _ ⟨rfl, rfl⟩
  try simp only [zx1, zx2, zx3]
  refine OD.sF 16 rfl (by exact decide_eq_false n1) ?_
  refine .quiet (.p rfl) rfl (fun _ => .not rfl) <| OD.q 2 rfl <| .quiet (.g rfl rfl) rfl (fun _ => .nilCheck rfl) <| .quiet (.g rfl rfl) rfl (fun _ => .fieldAddr F.fld186x4 rfl) <| .quiet (.g rfl rfl) rfl (fun _ => .loadAt F.flat184 rfl (hat.drop 8) rfl) ?_
  refine .quiet (.g rfl rfl) rfl (fun _ => .len rfl Tryz.underlying184 rfl) <| .quiet (.g rfl rfl) rfl (fun _ => .lss rfl rfl) <| OD.sT 24 rfl (by exact decide_eq_true (by omega)) ?_
  refine OD.q 1 rfl <| OD.callP0 (.p rfl) (by kernel_rfl) rfl F.ok90 rfl rfl (imust_c _) (fun ch η' w hX hW => by (exact absurd hX.1 (by simp))) ?_
  rintro v26 _ ⟨hb26, rfl, rfl⟩
  try simp only [zx1, zx2, zx3]
  refine ODx.nil <| S.seq <| S.back hbq ?_
  replace hg := hg_q
  replace hR := hR_q
  try replace h := h_q
  try replace hby := hby_q
  try replace hat := hat_q
  clear hg_q hR_q
  refine S.regionD (L := [0, 1, 2, 3, 4, 5, 6, 7, 8, 9, 10, 11]) F.mixed (by kernel_rfl) ?_
  refine OD.q 2 rfl <| .quiet (.p rfl) rfl (fun _ => .nilCheck rfl) <| .quiet (.p rfl) rfl (fun _ => .fieldAddr F.fld186x4 rfl) <| .quiet (.p rfl) rfl (fun _ => .loadAt F.flat184 rfl (hat.drop 8) rfl) ?_
  refine OD.q 1 rfl <| .quiet (.p rfl) rfl (fun _ => .toStr Tryz.underlying31 Tryz.underlying5 Tryz.underlying9 rfl (by first | assumption | exact Arr.mono hg (by assumption) | exact Arr.left (by assumption) | exact Arr.left (Arr.mono hg (by assumption)))) ?_
  refine OD.litP (T := Rp.str) (ys := [_]) (.p rfl) (by kernel_rfl) Tryz.underlying184 F.elem9 (by decide) rfl rfl ⟨⟨rfl, by first | omega | (simp; done) | (simp; omega) | decide⟩, trivial⟩ (by decide) (fun a34 c34 => ?_)
  refine OD.appendO (.p rfl) (by kernel_rfl) (T := Rp.str) Tryz.underlying184 F.elem9 (by decide) rfl rfl (by repeat (first | exact zh | apply zt)) (by repeat (first | exact zh | apply zt)) (by first | omega | (simp; done) | (simp; omega) | decide) (by first | omega | (simp; done) | (simp; omega) | decide) (fun a35 c35 => ?_)
  refine .quiet (.p rfl) rfl (fun _ => .nilCheck rfl) <| .quiet (.p rfl) rfl (fun _ => .fieldAddr F.fld186x4 rfl) <| OD.last1 rfl (by kernel_rfl) (fun _ hw => hbo hw) F.flat184 rfl rfl (by first | rfl | assumption) (by repeat (first | exact zh | apply zt)) (by first | (simp; done) | (simp; omega)) ?_
  replace hg := hg_o
  replace hR := hR_o
  try replace h := h_o
  try replace hby := hby_o
  clear hg_o hR_o
  refine S.objIs (b := b) (cs' := [.slice p.1.1.1 s.out.length p.1.1.2, .string (str s.key), .int .i64 s.rep, .int .i64 s.shard, .int .i64 p.2.1, .slice p.2.2.1.1 p.2.2.1.2.1 p.2.2.1.2.2, .slice p.2.2.2.1 p.2.2.2.2.1 p.2.2.2.2.2, .int .i64 s.last, .slice a35 (s.seen ++ [evdB v]).length c35]) (by repeat (first | exact zh | apply zt)) (by simp) ?_
  refine S.regionD (L := [0, 1, 2, 3, 4, 5, 6]) F.mixed (by kernel_rfl) ?_
  refine OD.q 1 rfl <| .quiet (.p rfl) rfl (fun _ => .nilCheck rfl) <| .quiet (.p rfl) rfl (fun _ => .fieldObj F.fld186x0 rfl) <| OD.q 1 rfl <| OD.call0 (.p rfl) (by kernel_rfl) rfl F.ok119 rfl rfl (wBytes_c (by first | assumption | exact Arr.mono hg (by assumption) | exact Arr.left (by assumption) | exact Arr.left (Arr.mono hg (by assumption))) (by first | omega | (simp; done) | (simp; omega) | decide)) ?_
  rintro v42 _ ⟨a42, c42, rfl, rfl⟩
  try simp only [zx1, zx2, zx3]
  refine OD.litP (T := Rp.val) (ys := [_]) (.p rfl) (by kernel_rfl) Tryz.underlying39 F.elem31 (by decide) rfl rfl ⟨⟨rfl, rfl⟩, trivial⟩ (by decide) (fun a43 c43 => ?_)
  refine OD.callSs (.p rfl) (by kernel_rfl) rfl F.ok236 rfl rfl (by repeat (first | exact zsn | (apply zsc; focus (repeat (first | exact zh | apply zt))))) (Con.lentW (η := [obj b 186 [.slice p.1.1.1 s.out.length p.1.1.2, .string (str s.key), .int .i64 s.rep, .int .i64 s.shard, .int .i64 p.2.1, .slice p.2.2.1.1 p.2.2.1.2.1 p.2.2.1.2.2, .slice p.2.2.2.1 p.2.2.2.2.1 p.2.2.2.2.2, .int .i64 s.last, .slice a35 (s.seen ++ [evdB v]).length c35], OwnP Rp.u8 5 (.slice p.1.1.1 s.out.length p.1.1.2) s.out]) (bs := [OwnP Rp.val 31 (.slice a43 1 c43) [.slice a42 (bytesOf (evdB v)).length c42], OwnP Rp.u8 5 (.slice a42 (bytesOf (evdB v)).length c42) (bytesOf (evdB v))]) (fun m hm hd => bput_c (xss := [bytesOf (evdB v)]) ((hm.arr.right hd).rows ⟨hm.tail.arr.right hd, trivial⟩) (by rw [hfl]; simp; omega) rfl)) ?_
  rintro v44 _ ⟨_, ⟨a44, c44, rfl, rfl⟩, rfl⟩
  try simp only [zx1, zx2, zx3]
  rw [hfl]
  refine ODx.nil <| S.ownIs (T := Rp.str) (e := 9) (v' := .slice a35 (s.seen ++ [evdB v]).length c35) (xs' := s.seen ++ [evdB v]) (by repeat (first | exact zh | apply zt)) (by simp) rfl ?_
  refine S.foldS (A := WrB b { s with seen := s.seen ++ [evdB v], out := s.out ++ bytesOf (evdB v) }) (bs := [obj b 186 [.slice a44 (s.out ++ bytesOf (evdB v)).length c44, .string (str s.key), .int .i64 s.rep, .int .i64 s.shard, .int .i64 p.2.1, .slice p.2.2.1.1 p.2.2.1.2.1 p.2.2.1.2.2, .slice p.2.2.2.1 p.2.2.2.2.1 p.2.2.2.2.2, .int .i64 s.last, .slice a35 (s.seen ++ [evdB v]).length c35], OwnP Rp.u8 5 (.slice a44 (s.out ++ bytesOf (evdB v)).length c44) (s.out ++ bytesOf (evdB v)), OwnP Rp.str 9 (.slice a35 (s.seen ++ [evdB v]).length c35) (s.seen ++ [evdB v])]) (by repeat (first | exact zsn | (apply zsc; focus (repeat (first | exact zh | apply zt))))) (fun m y => ⟨(((a44, c44), (a35, c35)), p.2), y⟩) ?_
  refine S.end0 Tryz.results150 fun w hw => Holds.end_ hR hw ?_
  exact pk ⟨rfl, _, hyes, rfl⟩
theorem wshut_c {r : Fr} {b : Nat} {s : WSt} (n : Int) (hb : s.out.length ≤ 140000000000000) :
  Con Tryz.prog 152 #[.pointer (some ⟨b, 0, none⟩), .int .i64 n] r [WrB b s] (StepP shutStep b s n) := by
 refine Con.of (n := 26) _ rfl Tryz.func152 rfl rfl rfl fun g hg R hR => ?_
 have hfl : [be n].flatten = be n := by simp
 refine S.open (A := WrB b s) (by repeat (first | exact zh | apply zt)) (fun m x => x) fun p => ?_
 simp only [List.cons_append, List.nil_append]
 by_cases n1 : ¬ s.last < n
 ·have hno : shutStep s n = none := if_neg fun q => n1 q.1
  refine S.seq <| S.region rfl <| O.q 2 rfl <| O.op (.p rfl) (.nilCheck rfl) <| O.op (.p rfl) (.fieldObj F.fld186x3 rfl) <| O.op (.p rfl) (.lo F.flat3) ?_
  refine O.op (.p rfl) (.gtr rfl rfl) <| O.sF 9 rfl (by exact decide_eq_false (by omega)) ?_
  refine O.q 4 rfl <| O.callP0 (.p rfl) rfl F.ok90 rfl rfl (imust_c _) (fun ch η' w hX hW => by (obtain ⟨hb, rfl, rfl⟩ := hX; exact hR _ _ w ⟨hno, rfl, rfl⟩ hW.drop_all)) ?_
  rintro v14 _ ⟨hb14, rfl, rfl⟩
  try simp only [zx1, zx2, zx3]
  exact absurd hb14 (by simp)
 by_cases n2 : ¬ n ≤ 7
 ·have hno : shutStep s n = none := if_neg fun q => n2 q.2
  refine S.seq <| S.region rfl <| O.q 2 rfl <| O.op (.p rfl) (.nilCheck rfl) <| O.op (.p rfl) (.fieldObj F.fld186x3 rfl) <| O.op (.p rfl) (.lo F.flat3) ?_
  refine O.op (.p rfl) (.gtr rfl rfl) <| O.sT 9 rfl (by exact decide_eq_true (by omega)) ?_
  refine O.q 2 rfl <| O.op (.g rfl rfl) (.leq rfl rfl) <| O.sF 12 rfl (by exact decide_eq_false (by omega)) ?_
  refine O.q 1 rfl <| O.callP0 (.p rfl) rfl F.ok90 rfl rfl (imust_c _) (fun ch η' w hX hW => by (obtain ⟨hb, rfl, rfl⟩ := hX; exact hR _ _ w ⟨hno, rfl, rfl⟩ hW.drop_all)) ?_
  rintro v14 _ ⟨hb14, rfl, rfl⟩
  try simp only [zx1, zx2, zx3]
  exact absurd hb14 (by simp)
 have hyes : shutStep s n = some { s with last := n, out := s.out ++ be n } := if_pos ⟨Classical.not_not.1 n1, Classical.not_not.1 n2⟩
 refine S.seq <| S.region rfl <| O.q 2 rfl <| O.op (.p rfl) (.nilCheck rfl) <| O.op (.p rfl) (.fieldObj F.fld186x3 rfl) <| O.op (.p rfl) (.lo F.flat3) ?_
 refine O.op (.p rfl) (.gtr rfl rfl) <| O.sT 9 rfl (by exact decide_eq_true (by omega)) ?_
 refine O.q 2 rfl <| O.op (.g rfl rfl) (.leq rfl rfl) <| O.sT 12 rfl (by exact decide_eq_true (by omega)) ?_
 refine O.q 1 rfl <| O.callP0 (.p rfl) rfl F.ok90 rfl rfl (imust_c _) (fun ch η' w hX hW => by (exact absurd hX.1 (by simp))) ?_
 rintro v14 _ ⟨hb14, rfl, rfl⟩
 try simp only [zx1, zx2, zx3]
 refine O.nil <| S.seq <| S.region rfl <| O.q 2 rfl <| O.op (.p rfl) (.nilCheck rfl) <| O.op (.p rfl) (.fieldObj F.fld186x3 rfl) <| O.opU rfl (.store1 F.flat3 rfl rfl (by first | rfl | assumption) (by repeat (first | exact zh | apply zt)) (by first | (simp; done) | (simp [Value.cells]; done))) ?_
 refine O.nil <| S.objIs (b := b) (cs' := [.slice p.1.1.1 s.out.length p.1.1.2, .string (str s.key), .int .i64 s.rep, .int .i64 s.shard, .int .i64 p.2.1, .slice p.2.2.1.1 p.2.2.1.2.1 p.2.2.1.2.2, .slice p.2.2.2.1 p.2.2.2.2.1 p.2.2.2.2.2, .int .i64 n, .slice p.1.2.1 s.seen.length p.1.2.2]) (by repeat (first | exact zh | apply zt)) rfl ?_
 refine S.regionD (L := [0, 1, 2, 3, 4, 5, 6]) F.mixed (by kernel_rfl) ?_
 refine OD.q 1 rfl <| .quiet (.p rfl) rfl (fun _ => .nilCheck rfl) <| .quiet (.p rfl) rfl (fun _ => .fieldObj F.fld186x0 rfl) <| OD.q 1 rfl <| OD.call0 (.p rfl) (by kernel_rfl) rfl F.ok117 rfl rfl (wNumber_c _) ?_
 rintro v23 _ ⟨a23, c23, rfl, rfl⟩
 try simp only [zx1, zx2, zx3]
 refine OD.litP (T := Rp.val) (ys := [_]) (.p rfl) (by kernel_rfl) Tryz.underlying39 F.elem31 (by decide) rfl rfl ⟨⟨rfl, rfl⟩, trivial⟩ (by decide) (fun a24 c24 => ?_)
 refine OD.callSs (.p rfl) (by kernel_rfl) rfl F.ok236 rfl rfl (by repeat (first | exact zsn | (apply zsc; focus (repeat (first | exact zh | apply zt))))) (Con.lentW (η := [obj b 186 [.slice p.1.1.1 s.out.length p.1.1.2, .string (str s.key), .int .i64 s.rep, .int .i64 s.shard, .int .i64 p.2.1, .slice p.2.2.1.1 p.2.2.1.2.1 p.2.2.1.2.2, .slice p.2.2.2.1 p.2.2.2.2.1 p.2.2.2.2.2, .int .i64 n, .slice p.1.2.1 s.seen.length p.1.2.2], OwnP Rp.u8 5 (.slice p.1.1.1 s.out.length p.1.1.2) s.out]) (bs := [OwnP Rp.val 31 (.slice a24 1 c24) [.slice a23 8 c23], OwnP Rp.u8 5 (.slice a23 8 c23) (be n)]) (fun m hm hd => bput_c (xss := [be n]) ((hm.arr.right hd).rows ⟨hm.tail.arr.right hd, trivial⟩) (by rw [hfl]; simp; omega) rfl)) ?_
 rintro v25 _ ⟨_, ⟨a25, c25, rfl, rfl⟩, rfl⟩
 try simp only [zx1, zx2, zx3]
 rw [hfl]
 refine ODx.nil <| S.foldS (A := WrB b { s with last := n, out := s.out ++ be n }) (bs := [obj b 186 [.slice a25 (s.out ++ be n).length c25, .string (str s.key), .int .i64 s.rep, .int .i64 s.shard, .int .i64 p.2.1, .slice p.2.2.1.1 p.2.2.1.2.1 p.2.2.1.2.2, .slice p.2.2.2.1 p.2.2.2.2.1 p.2.2.2.2.2, .int .i64 n, .slice p.1.2.1 s.seen.length p.1.2.2], OwnP Rp.u8 5 (.slice a25 (s.out ++ be n).length c25) (s.out ++ be n), OwnP Rp.str 9 (.slice p.1.2.1 s.seen.length p.1.2.2) s.seen]) (by repeat (first | exact zsn | (apply zsc; focus (repeat (first | exact zh | apply zt))))) (fun m y => ⟨(((a25, c25), p.1.2), p.2), y⟩) ?_
 refine S.end0 Tryz.results152 fun w hw => Holds.end_ hR hw ?_
 exact pk ⟨rfl, _, hyes, rfl⟩
end Go.Proofs.YtodhbhanmdfdeaaGreat
