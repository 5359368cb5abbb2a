/- Texts of this proof. -/
import Derived.Test.YtodhbhanmdfdeaaGreatQFc
import Derived.Test.YtodhbhanmdfdeaaGreatQWire1
import Derived.Test.YtodhbhanmdfdeaaGreatQSib4
import Derived.Test.YtodhbhanmdfdeaaGreatQSpRoot
import Derived.Test.YtodhbhanmdfdeaaGreatQSpAuto
open Go Go.Sp
set_option maxRecDepth 100000
attribute [local irreducible] obj Own OwnP
namespace Go.Proofs.YtodhbhanmdfdeaaGreat
theorem pshape_c {r : Fr} {cs : List Value} {x : RootT} (h : RootRp.rel r cs x) : Con Tryz.prog 328 #[.agg cs.toArray] r [] (Ret fun v η => v = .bool (rootShape x) ∧ η = []) := by
 obtain ⟨xa3, xa4, xc3, xc4, rfl, k0, k1, k2, k3, k4⟩ := RootRp.sh h
 refine Con.of (n := 44) _ rfl Tryz.func328 rfl rfl rfl fun g hg R hR => ?_
 refine S.seq <| S.region rfl <| O.opE (.p rfl) (.box (cs := [_, _, _, _, _]) rfl rfl) ?_
 rintro _ _ ⟨b1, rfl, rfl⟩
 refine O.q 1 rfl <| O.nil <| S.seq <| S.region rfl <| O.op (.p rfl) (.fieldObj F.fld345x0 rfl) <| O.op (.p rfl) (.fieldObj F.fld52x0 rfl) <| O.op (.p rfl) (.lo F.flat3) ?_
 refine O.op (.p rfl) (.geq rfl rfl) <| O.q 1 rfl ?_
 first | refine O.caseD 7 rfl (fun h7 => ?_) (fun h7 => ?_) | refine O.caseB 7 rfl (fun h7 => ?_) (fun h7 => ?_)
 ·refine O.op (.g rfl rfl) (.fieldObj F.fld345x0 rfl) <| O.op (.g rfl rfl) (.fieldObj F.fld52x0 rfl) <| O.op (.g rfl rfl) (.lo F.flat3) ?_
  refine O.op (.g rfl rfl) (.leq rfl rfl) <| O.q 2 rfl ?_
  first | refine O.caseD 13 rfl (fun h13 => ?_) (fun h13 => ?_) | refine O.caseB 13 rfl (fun h13 => ?_) (fun h13 => ?_)
  ·refine O.op (.g rfl rfl) (.fieldObj F.fld345x0 rfl) <| O.op (.g rfl rfl) (.fieldObj F.fld52x1 rfl) <| O.op (.g rfl rfl) (.lo F.flat3) ?_
   refine O.op (.g rfl rfl) (.geq rfl rfl) <| O.q 2 rfl ?_
   first | refine O.caseD 19 rfl (fun h19 => ?_) (fun h19 => ?_) | refine O.caseB 19 rfl (fun h19 => ?_) (fun h19 => ?_)
   ·refine O.op (.g rfl rfl) (.fieldObj F.fld345x0 rfl) <| O.op (.g rfl rfl) (.fieldObj F.fld52x1 rfl) <| O.op (.g rfl rfl) (.lo F.flat3) ?_
    refine O.op (.g rfl rfl) (.lss rfl rfl) <| O.q 2 rfl ?_
    first | refine O.caseD 25 rfl (fun h25 => ?_) (fun h25 => ?_) | refine O.caseB 25 rfl (fun h25 => ?_) (fun h25 => ?_)
    ·refine O.op (.g rfl rfl) (.fieldObj F.fld345x0 rfl) <| O.op (.g rfl rfl) (.fieldObj F.fld52x2 rfl) <| O.op (.g rfl rfl) (.lo F.flat3) ?_
     refine O.op (.g rfl rfl) (.geq rfl rfl) <| O.q 2 rfl ?_
     first | refine O.caseD 31 rfl (fun h31 => ?_) (fun h31 => ?_) | refine O.caseB 31 rfl (fun h31 => ?_) (fun h31 => ?_)
     ·refine O.op (.g rfl rfl) (.fieldObj F.fld345x0 rfl) <| O.op (.g rfl rfl) (.fieldObj F.fld52x2 rfl) <| O.op (.g rfl rfl) (.lo F.flat3) ?_
      refine O.op (.g rfl rfl) (.leq rfl rfl) <| O.q 2 rfl ?_
      first | refine O.caseD 37 rfl (fun h37 => ?_) (fun h37 => ?_) | refine O.caseB 37 rfl (fun h37 => ?_) (fun h37 => ?_)
      ·refine O.op (.g rfl rfl) (.fieldObj F.fld345x0 rfl) <| O.op (.g rfl rfl) (.fieldObj F.fld52x3 rfl) <| O.op (.g rfl rfl) (.lo F.flat31) ?_
       refine O.op (.g rfl rfl) (.len rfl Tryz.underlying31 rfl) <| O.op (.g rfl rfl) (.eql rfl rfl) <| O.q 2 rfl <| O.nil <| S.ret Tryz.results328 rfl fun w hw => Holds.end_ hR hw ?_
       first | exact ⟨_, ⟨congrArg _ (decide_eq_false (by omega)).symm, rfl⟩, by repeat (first | exact zpa | exact zpn | (apply zpc; focus (repeat (first | exact zh | apply zt))) | apply zps)⟩ | exact ⟨_, ⟨congrArg _ (decide_eq_decide.2 (by omega)), rfl⟩, by repeat (first | exact zpa | exact zpn | (apply zpc; focus (repeat (first | exact zh | apply zt))) | apply zps)⟩
      ·refine O.q 7 rfl <| O.nil <| S.ret Tryz.results328 rfl fun w hw => Holds.end_ hR hw ?_
       first | exact ⟨_, ⟨congrArg _ (decide_eq_false (by omega)).symm, rfl⟩, by repeat (first | exact zpa | exact zpn | (apply zpc; focus (repeat (first | exact zh | apply zt))) | apply zps)⟩ | exact ⟨_, ⟨congrArg _ (decide_eq_decide.2 (by omega)), rfl⟩, by repeat (first | exact zpa | exact zpn | (apply zpc; focus (repeat (first | exact zh | apply zt))) | apply zps)⟩
     ·refine O.q 13 rfl <| O.nil <| S.ret Tryz.results328 rfl fun w hw => Holds.end_ hR hw ?_
      first | exact ⟨_, ⟨congrArg _ (decide_eq_false (by omega)).symm, rfl⟩, by repeat (first | exact zpa | exact zpn | (apply zpc; focus (repeat (first | exact zh | apply zt))) | apply zps)⟩ | exact ⟨_, ⟨congrArg _ (decide_eq_decide.2 (by omega)), rfl⟩, by repeat (first | exact zpa | exact zpn | (apply zpc; focus (repeat (first | exact zh | apply zt))) | apply zps)⟩
    ·refine O.q 19 rfl <| O.nil <| S.ret Tryz.results328 rfl fun w hw => Holds.end_ hR hw ?_
     first | exact ⟨_, ⟨congrArg _ (decide_eq_false (by omega)).symm, rfl⟩, by repeat (first | exact zpa | exact zpn | (apply zpc; focus (repeat (first | exact zh | apply zt))) | apply zps)⟩ | exact ⟨_, ⟨congrArg _ (decide_eq_decide.2 (by omega)), rfl⟩, by repeat (first | exact zpa | exact zpn | (apply zpc; focus (repeat (first | exact zh | apply zt))) | apply zps)⟩
   ·refine O.q 25 rfl <| O.nil <| S.ret Tryz.results328 rfl fun w hw => Holds.end_ hR hw ?_
    first | exact ⟨_, ⟨congrArg _ (decide_eq_false (by omega)).symm, rfl⟩, by repeat (first | exact zpa | exact zpn | (apply zpc; focus (repeat (first | exact zh | apply zt))) | apply zps)⟩ | exact ⟨_, ⟨congrArg _ (decide_eq_decide.2 (by omega)), rfl⟩, by repeat (first | exact zpa | exact zpn | (apply zpc; focus (repeat (first | exact zh | apply zt))) | apply zps)⟩
  ·refine O.q 31 rfl <| O.nil <| S.ret Tryz.results328 rfl fun w hw => Holds.end_ hR hw ?_
   first | exact ⟨_, ⟨congrArg _ (decide_eq_false (by omega)).symm, rfl⟩, by repeat (first | exact zpa | exact zpn | (apply zpc; focus (repeat (first | exact zh | apply zt))) | apply zps)⟩ | exact ⟨_, ⟨congrArg _ (decide_eq_decide.2 (by omega)), rfl⟩, by repeat (first | exact zpa | exact zpn | (apply zpc; focus (repeat (first | exact zh | apply zt))) | apply zps)⟩
 ·refine O.q 37 rfl <| O.nil <| S.ret Tryz.results328 rfl fun w hw => Holds.end_ hR hw ?_
  first | exact ⟨_, ⟨congrArg _ (decide_eq_false (by omega)).symm, rfl⟩, by repeat (first | exact zpa | exact zpn | (apply zpc; focus (repeat (first | exact zh | apply zt))) | apply zps)⟩ | exact ⟨_, ⟨congrArg _ (decide_eq_decide.2 (by omega)), rfl⟩, by repeat (first | exact zpa | exact zpn | (apply zpc; focus (repeat (first | exact zh | apply zt))) | apply zps)⟩
theorem pright_c {r : Fr} {cs : List Value} {x : RootT} (h : RootRp.rel r cs x) : Con Tryz.prog 299 #[.agg cs.toArray] r [] (Ret fun v η => v = .bool (rootOk x) ∧ η = []) := by
 obtain ⟨xa3, xa4, xc3, xc4, rfl, k0, k1, k2, k3, k4⟩ := RootRp.sh h
 refine Con.of (n := 12) _ rfl Tryz.func299 rfl rfl rfl fun g hg R hR => ?_
 have h := h.mono hg
 cases e : rootShape x with
 | false =>
  refine S.seq <| S.region rfl <| O.opE (.p rfl) (.box (cs := [_, _, _, _, _]) rfl rfl) ?_
  rintro _ _ ⟨b1, rfl, rfl⟩
  refine O.q 1 rfl <| O.nil <| S.seq <| S.region rfl <| O.op (.p rfl) (.loA (news := [_, _, _, _, _]) Tryz.isAgg345) ?_
  refine O.call0 (.p rfl) rfl F.ok328 rfl rfl (pshape_c h) ?_
  rintro v4 _ ⟨rfl, rfl⟩
  try simp only [zx1, zx2, zx3]
  refine O.sF 4 rfl (by exact e) ?_
  refine O.q 8 rfl <| O.nil ?_
  exact S.rt Tryz.results299 rfl hR ⟨by simp [rootOk, e], rfl⟩
 | true =>
  refine S.seq <| S.region rfl <| O.opE (.p rfl) (.box (cs := [_, _, _, _, _]) rfl rfl) ?_
  rintro _ _ ⟨b1, rfl, rfl⟩
  refine O.q 1 rfl <| O.nil <| S.seq <| S.region rfl <| O.op (.p rfl) (.loA (news := [_, _, _, _, _]) Tryz.isAgg345) ?_
  refine O.call0 (.p rfl) rfl F.ok328 rfl rfl (pshape_c h) ?_
  rintro v4 _ ⟨rfl, rfl⟩
  try simp only [zx1, zx2, zx3]
  refine O.sT 4 rfl (by exact e) ?_
  refine O.q 1 rfl <| O.op (.g rfl rfl) (.fieldObj F.fld345x0 rfl) <| O.op (.g rfl rfl) (.fieldObj F.fld52x4 rfl) <| O.op (.g rfl rfl) (.lo F.flat31) ?_
  refine O.op (.g rfl rfl) (.len rfl Tryz.underlying31 rfl) <| O.op (.g rfl rfl) (.eql rfl rfl) <| O.q 2 rfl <| O.nil ?_
  exact S.rt Tryz.results299 rfl hR ⟨by simp [rootOk, e]; omega, rfl⟩
theorem tRight_c {r : Fr} {cs : List Value} {x : RootT} (h : RootRp.rel r cs x) : Con Tryz.prog 270 #[.agg cs.toArray] r [] (Ret fun v η => v = .bool (rootOk x) ∧ η = []) := by
 obtain ⟨xa3, xa4, xc3, xc4, rfl, k0, k1, k2, k3, k4⟩ := RootRp.sh h
 refine Con.of (n := 6) _ rfl Tryz.func270 rfl rfl rfl fun g hg R hR => ?_
 have h := h.mono hg
 refine S.seq <| S.region rfl <| O.opE (.p rfl) (.box (cs := [_, _, _, _, _]) rfl rfl) ?_
 rintro _ _ ⟨b1, rfl, rfl⟩
 refine O.q 1 rfl <| O.nil <| S.seq <| S.region rfl <| O.op (.p rfl) (.loA (news := [_, _, _, _, _]) Tryz.isAgg52) ?_
 refine O.op (.p rfl) (.build (cs := [_, _, _, _, _]) Tryz.underlying345 rfl rfl rfl rfl rfl) <| O.call0 (.p rfl) rfl F.ok299 rfl rfl (pright_c h) ?_
 rintro v5 _ ⟨rfl, rfl⟩
 try simp only [zx1, zx2, zx3]
 refine O.q 1 rfl <| O.nil ?_
 exact S.rt Tryz.results270 rfl hR ⟨rfl, rfl⟩
theorem tmust_c {r : Fr} (b : Bool) (z : Int) : Con Tryz.prog 268 #[.bool b, .int .i64 z] r [] (RetP (fun v η => b = true ∧ v = .tuple #[] ∧ η = []) (fun ch η => b = false ∧ ch = errP 32 z ∧ η = [])) := by
 refine Con.of (n := 8) _ rfl Tryz.func268 rfl rfl rfl fun g hg R hR => ?_
 refine S.seq <| S.region rfl <| O.q 1 rfl <| O.op (.p rfl) ((by first | exact .notD rfl | exact .not rfl)) ?_
 refine O.nil ?_
 first | refine S.condD rfl (fun h5 => ?_) (fun h5 => ?_) | refine S.condB rfl (fun h5 => ?_) (fun h5 => ?_)
 ·refine S.region rfl <| O.q 1 rfl <| O.op (.p rfl) (.mkIface Tryz.underlying32 rfl) <| O.panic rfl rfl (fun w hw => ?_)
  exact hR _ [] w ⟨by simpa using h5, rfl, rfl⟩ hw
 ·refine S.skip <| S.end0 Tryz.results268 fun w hw => hR _ _ w ?_ hw
  exact ⟨by simpa using h5, rfl, rfl⟩
theorem numbers_c {r : Fr} {va : Value} {l : List Int} (ha : Arr Rp.i64 r va l) (hl : l.length ≤ 1000000000) : Con Tryz.prog 329 #[va] r [] (Ret fun v η => ∃ a c, v = .slice a (l.map be).flatten.length c ∧ η = [OwnP Rp.u8 5 (.slice a (l.map be).flatten.length c) (l.map be).flatten]) := by
 refine Con.of (n := 18) _ rfl Tryz.func329 rfl rfl rfl fun g hg R hR => ?_
 have ha := ha.mono hg
 obtain ⟨a1, c1, rfl⟩ := ha.shape
 have hlen : ∀ m : List Int, (m.map be).flatten.length = 8 * m.length := by
  intro m
  induction m with
  | nil => rfl
  | cons a m ih => rw [List.map_cons, List.flatten_cons, List.length_append, ih, be_length, List.length_cons]; omega
 refine S.addNil (T := Rp.u8) (e := 5) ?_
 refine S.seq <| S.region rfl <| O.q 1 rfl <| O.nil <| S.seq <| S.region rfl <| O.q 1 rfl <| O.nil <| S.seq <| S.seq <| S.region rfl <| O.q 1 rfl <| O.op (.p rfl) (.len rfl Tryz.underlying25 rfl) <| O.q 1 rfl <| O.nil <| S.block <| S.loopK2 (ι := Nat) (κ := Option Addr × Nat) (fun i p => i ≤ l.length) (fun i p => [(8, .int .i64 (i : Int)), (3, .slice p.1 ((l.take i).map be).flatten.length p.2)]) [(6, _), (7, _)] (fun i p => [OwnP Rp.u8 5 (.slice p.1 ((l.take i).map be).flatten.length p.2) ((l.take i).map be).flatten]) (fun i p => l.length - i) (0) ((none, 0)) (by simp) (.cons rfl (.cons rfl (.nil))) (.cons rfl (.cons rfl (.nil))) rfl fun i p hx ih => ?_
 have hm1 := meltRefl (g := g)
 refine S.seq <| S.region rfl <| O.op (.p rfl) (.lss rfl rfl) <| O.nil (S.seq ?_)
 first | refine S.condD rfl (fun h9 => ?_) (fun h9 => ?_) | refine S.condB rfl (fun h9 => ?_) (fun h9 => ?_)
 ·have hi : i < l.length := by omega
  have htk : ((l.take i).map be).flatten ++ be l[i] = ((l.take (i + 1)).map be).flatten := by rw [List.take_succ_eq_append_getElem hi, List.map_append, List.flatten_append]; simp
  have hb := hlen (l.take i)
  rw [List.length_take, Nat.min_eq_left hx] at hb
  generalize ((l.take i).map be).flatten = so at htk hb ⊢
  refine S.skip <| S.seq <| S.block <| S.seq <| S.region rfl <| O.ia (.p rfl) Tryz.underlying25 F.size3 rfl rfl rfl (by first | assumption | exact Arr.mono hg (by assumption) | exact Arr.left (by assumption) | exact Arr.left (Arr.mono hg (by assumption))) (h := fun p10 cs10 hp10 hr10 => ?_)
  obtain ⟨rfl, hz10⟩ := hr10
  refine O.op (.p rfl) (.loadAt F.flat3 rfl hp10 rfl) ?_
  refine O.q 1 rfl <| O.nil <| S.region rfl <| O.q 2 rfl <| O.call0 (.p rfl) rfl F.ok117 rfl rfl (wNumber_c _) ?_
  rintro v14 _ ⟨a14, c14, rfl, rfl⟩
  try simp only [zx1, zx2, zx3]
  refine O.frzA (by repeat (first | exact zh | apply zt)) fun g hs hm ha14 => ?_
  replace hg := Fr.sub_trans hg hs
  replace hR := melted hR hm
  try replace hp10 := hp10.mono hs
  replace hm1 := meltTrans hm1 hm
  clear hs hm
  refine O.opE (.p rfl) (.appendP (T := Rp.u8) pure_u8 Tryz.underlying31 F.elem5 (by decide) rfl rfl (by repeat (first | exact zh | apply zt)) (by first | assumption | exact Arr.mono hg (by assumption) | exact Arr.left (by assumption) | exact Arr.left (Arr.mono hg (by assumption))) (by first | omega | (simp; done) | (simp; omega) | decide) (by first | omega | (simp; done) | (simp; omega) | decide)) ?_
  rintro _ _ ⟨a15, c15, rfl, rfl⟩
  refine O.q 1 rfl <| O.nil <| S.inBlock <| S.region rfl <| O.op (.p rfl) (.add rfl rfl (IntWalk.i64_in _ (by omega))) <| O.q 1 rfl <| O.nil ?_
  rw [← List.length_append, htk]
  exact S.melt hm1 (S.pw (ih (i + 1) ((a15, c15)) (by omega) (by omega)))
 ·clear ih
  have hi : i = l.length := by omega
  subst hi
  rw [List.take_length]
  refine S.exit rfl <| S.seq <| S.region rfl <| O.q 2 rfl <| O.nil ?_
  exact S.rt Tryz.results329 rfl hR ⟨p.1, p.2, rfl, rfl⟩
theorem ptext_c {r : Fr} {cs : List Value} {x : RootT} (h : RootRp.rel r cs x) (hs : rootShape x = true) : Con Tryz.prog 300 #[.agg cs.toArray] r [] (Ret fun v η => ∃ a c, v = .slice a (rootText x).length c ∧ η = [OwnP Rp.u8 5 (.slice a (rootText x).length c) (rootText x)]) := by
 have hl := rootText_length hs
 have hnum : ([x.1, x.2.1, x.2.2.1].map be).flatten = be x.1 ++ (be x.2.1 ++ be x.2.2.1) := by simp
 have hfl : [[2], be x.1 ++ (be x.2.1 ++ be x.2.2.1), x.2.2.2.1].flatten = rootText x := by simp [rootText]
 obtain ⟨xa3, xa4, xc3, xc4, rfl, k0, k1, k2, k3, k4⟩ := RootRp.sh h
 refine Con.of (n := 20) _ rfl Tryz.func300 rfl rfl rfl fun g hg R hR => ?_
 have h := h.mono hg
 have k3 := k3.mono hg
 refine S.seq <| S.region rfl <| O.opE (.p rfl) (.box (cs := [_, _, _, _, _]) rfl rfl) ?_
 rintro _ _ ⟨b1, rfl, rfl⟩
 refine O.q 1 rfl <| O.nil <| S.seq <| S.frzO (by repeat (first | exact zh | apply zt)) fun g hs hm hbx => ?_
 replace hg := Fr.sub_trans hg hs
 replace hR := melted hR hm
 try replace h := h.mono hs
 try replace k3 := k3.mono hs
 clear hs hm
 refine S.regionJ (L := [1, 2, 3, 4, 5, 6, 7, 8, 9, 12, 13, 14, 0, 10, 11, 15, 16, 17]) (fun (s : Option Addr × Nat) => [(2, .slice s.1 (rootText x).length s.2)]) [] (fun (s : Option Addr × Nat) => [OwnP Rp.u8 5 (.slice s.1 (rootText x).length s.2) (rootText x)]) (.nil) F.mixed (by kernel_rfl) (fun kk key => ?_) (fun s => ?_)
 ·refine .quiet (.p rfl) rfl (fun _ => .fieldAddr F.fld345x0 rfl) <| .quiet (.p rfl) rfl (fun _ => .fieldAddr F.fld52x0 rfl) <| .quiet (.p rfl) rfl (fun _ => .loadAt F.flat3 rfl hbx rfl) ?_
  refine .quiet (.p rfl) rfl (fun _ => .fieldAddr F.fld345x0 rfl) <| .quiet (.p rfl) rfl (fun _ => .fieldAddr F.fld52x1 rfl) <| .quiet (.p rfl) rfl (fun _ => .loadAt F.flat3 rfl (hbx.drop 1) rfl) ?_
  refine .quiet (.p rfl) rfl (fun _ => .fieldAddr F.fld345x0 rfl) <| .quiet (.p rfl) rfl (fun _ => .fieldAddr F.fld52x2 rfl) <| .quiet (.p rfl) rfl (fun _ => .loadAt F.flat3 rfl (hbx.drop 2) rfl) ?_
  refine .quiet (.p rfl) rfl (fun _ => .fieldAddr F.fld345x0 rfl) <| .quiet (.p rfl) rfl (fun _ => .fieldAddr F.fld52x3 rfl) <| .quiet (.p rfl) rfl (fun _ => .loadAt F.flat31 rfl (hbx.drop 3) rfl) ?_
  refine OD.alt2 0 10 [10, 11, 15, 16, 17] [0, 11, 15, 16, 17] (by kernel_rfl) rfl rfl ?_ ?_
  ·refine ODt.litP (T := Rp.u8) (ys := [2]) (.p rfl) (by kernel_rfl) Tryz.underlying31 F.elem5 (by decide) rfl rfl ⟨rfl, trivial⟩ (by decide) (fun a3 c3 => ?_)
   refine OD.litP (T := Rp.i64) (ys := [_, _, _]) (.p rfl) (by kernel_rfl) Tryz.underlying25 F.elem3 (by decide) rfl rfl ⟨⟨rfl, by first | assumption | (constructor <;> omega)⟩, ⟨rfl, by first | assumption | (constructor <;> omega)⟩, ⟨rfl, by first | assumption | (constructor <;> omega)⟩, trivial⟩ (by decide) (fun a13 c13 => ?_)
   refine OD.callB (.p rfl) (by kernel_rfl) rfl F.ok329 rfl rfl (bs := [OwnP Rp.i64 3 (.slice a13 3 c13) [x.1, x.2.1, x.2.2.1]]) (by repeat (first | exact zsn | (apply zsc; focus (repeat (first | exact zh | apply zt))))) (fun m hm hd => numbers_c (hm.arr.right hd) (by simp)) ?_
   rintro v14 _ ⟨a14, c14, rfl, rfl⟩
   try simp only [zx1, zx2, zx3]
   rw [hnum]
   refine OD.litP (T := Rp.val) (ys := [_, _, _]) (.p rfl) (by kernel_rfl) Tryz.underlying39 F.elem31 (by decide) rfl rfl ⟨⟨rfl, rfl⟩, ⟨rfl, rfl⟩, ⟨rfl, rfl⟩, trivial⟩ (by decide) (fun a18 c18 => ?_)
   refine OD.callB (.p rfl) (by kernel_rfl) rfl F.ok118 rfl rfl (bs := [OwnP Rp.val 31 (.slice a18 3 c18) [.slice a3 1 c3, .slice a14 (be x.1 ++ (be x.2.1 ++ be x.2.2.1)).length c14, .slice xa3 x.2.2.2.1.length xc3], OwnP Rp.u8 5 (.slice a3 1 c3) [2], OwnP Rp.u8 5 (.slice a14 (be x.1 ++ (be x.2.1 ++ be x.2.2.1)).length c14) (be x.1 ++ (be x.2.1 ++ be x.2.2.1))]) (by repeat (first | exact zsn | (apply zsc; focus (repeat (first | exact zh | apply zt))))) (fun m hm hd => wJoin_c (xss := [[2], be x.1 ++ (be x.2.1 ++ be x.2.2.1), x.2.2.2.1]) ((hm.arr.right hd).rows ⟨hm.tail.arr.right hd, hm.tail.tail.arr.right hd, k3.left, trivial⟩) (by rw [hfl]; omega)) ?_
   rintro v19 _ ⟨a19, c19, rfl, rfl⟩
   try simp only [zx1, zx2, zx3]
   rw [hfl]
   refine OD.q 1 rfl <| ODx.nil <| S.pk ?_ (S.weaken (Sub.app (.cons rfl (.nil)) (.nil)) (key (a19, c19)))
   try dsimp only
   repeat (first | exact zpa | exact zpn | (apply zpc; focus (repeat (first | exact zh | apply zt))) | apply zps)
  ·refine ODt.litP (T := Rp.i64) (ys := [_, _, _]) (.p rfl) (by kernel_rfl) Tryz.underlying25 F.elem3 (by decide) rfl rfl ⟨⟨rfl, by first | assumption | (constructor <;> omega)⟩, ⟨rfl, by first | assumption | (constructor <;> omega)⟩, ⟨rfl, by first | assumption | (constructor <;> omega)⟩, trivial⟩ (by decide) (fun a13 c13 => ?_)
   refine OD.alt2 0 11 [11, 15, 16, 17] [0, 15, 16, 17] (by kernel_rfl) rfl rfl ?_ ?_
   ·refine ODt.litP (T := Rp.u8) (ys := [2]) (.p rfl) (by kernel_rfl) Tryz.underlying31 F.elem5 (by decide) rfl rfl ⟨rfl, trivial⟩ (by decide) (fun a3 c3 => ?_)
    refine OD.callB (.p rfl) (by kernel_rfl) rfl F.ok329 rfl rfl (bs := [OwnP Rp.i64 3 (.slice a13 3 c13) [x.1, x.2.1, x.2.2.1]]) (by repeat (first | exact zsn | (apply zsc; focus (repeat (first | exact zh | apply zt))))) (fun m hm hd => numbers_c (hm.arr.right hd) (by simp)) ?_
    rintro v14 _ ⟨a14, c14, rfl, rfl⟩
    try simp only [zx1, zx2, zx3]
    rw [hnum]
    refine OD.litP (T := Rp.val) (ys := [_, _, _]) (.p rfl) (by kernel_rfl) Tryz.underlying39 F.elem31 (by decide) rfl rfl ⟨⟨rfl, rfl⟩, ⟨rfl, rfl⟩, ⟨rfl, rfl⟩, trivial⟩ (by decide) (fun a18 c18 => ?_)
    refine OD.callB (.p rfl) (by kernel_rfl) rfl F.ok118 rfl rfl (bs := [OwnP Rp.val 31 (.slice a18 3 c18) [.slice a3 1 c3, .slice a14 (be x.1 ++ (be x.2.1 ++ be x.2.2.1)).length c14, .slice xa3 x.2.2.2.1.length xc3], OwnP Rp.u8 5 (.slice a3 1 c3) [2], OwnP Rp.u8 5 (.slice a14 (be x.1 ++ (be x.2.1 ++ be x.2.2.1)).length c14) (be x.1 ++ (be x.2.1 ++ be x.2.2.1))]) (by repeat (first | exact zsn | (apply zsc; focus (repeat (first | exact zh | apply zt))))) (fun m hm hd => wJoin_c (xss := [[2], be x.1 ++ (be x.2.1 ++ be x.2.2.1), x.2.2.2.1]) ((hm.arr.right hd).rows ⟨hm.tail.arr.right hd, hm.tail.tail.arr.right hd, k3.left, trivial⟩) (by rw [hfl]; omega)) ?_
    rintro v19 _ ⟨a19, c19, rfl, rfl⟩
    try simp only [zx1, zx2, zx3]
    rw [hfl]
    refine OD.q 1 rfl <| ODx.nil <| S.pk ?_ (S.weaken (Sub.app (.cons rfl (.nil)) (.nil)) (key (a19, c19)))
    try dsimp only
    repeat (first | exact zpa | exact zpn | (apply zpc; focus (repeat (first | exact zh | apply zt))) | apply zps)
   ·refine ODt.callB (.p rfl) (by kernel_rfl) rfl F.ok329 rfl rfl (bs := [OwnP Rp.i64 3 (.slice a13 3 c13) [x.1, x.2.1, x.2.2.1]]) (by repeat (first | exact zsn | (apply zsc; focus (repeat (first | exact zh | apply zt))))) (fun m hm hd => numbers_c (hm.arr.right hd) (by simp)) ?_
    rintro v14 _ ⟨a14, c14, rfl, rfl⟩
    try simp only [zx1, zx2, zx3]
    rw [hnum]
    refine OD.litP (T := Rp.u8) (ys := [2]) (.p rfl) (by kernel_rfl) Tryz.underlying31 F.elem5 (by decide) rfl rfl ⟨rfl, trivial⟩ (by decide) (fun a3 c3 => ?_)
    refine OD.litP (T := Rp.val) (ys := [_, _, _]) (.p rfl) (by kernel_rfl) Tryz.underlying39 F.elem31 (by decide) rfl rfl ⟨⟨rfl, rfl⟩, ⟨rfl, rfl⟩, ⟨rfl, rfl⟩, trivial⟩ (by decide) (fun a18 c18 => ?_)
    refine OD.callB (.p rfl) (by kernel_rfl) rfl F.ok118 rfl rfl (bs := [OwnP Rp.val 31 (.slice a18 3 c18) [.slice a3 1 c3, .slice a14 (be x.1 ++ (be x.2.1 ++ be x.2.2.1)).length c14, .slice xa3 x.2.2.2.1.length xc3], OwnP Rp.u8 5 (.slice a3 1 c3) [2], OwnP Rp.u8 5 (.slice a14 (be x.1 ++ (be x.2.1 ++ be x.2.2.1)).length c14) (be x.1 ++ (be x.2.1 ++ be x.2.2.1))]) (by repeat (first | exact zsn | (apply zsc; focus (repeat (first | exact zh | apply zt))))) (fun m hm hd => wJoin_c (xss := [[2], be x.1 ++ (be x.2.1 ++ be x.2.2.1), x.2.2.2.1]) ((hm.arr.right hd).rows ⟨hm.tail.arr.right hd, hm.tail.tail.arr.right hd, k3.left, trivial⟩) (by rw [hfl]; omega)) ?_
    rintro v19 _ ⟨a19, c19, rfl, rfl⟩
    try simp only [zx1, zx2, zx3]
    rw [hfl]
    refine OD.q 1 rfl <| ODx.nil <| S.pk ?_ (S.weaken (Sub.app (.cons rfl (.nil)) (.nil)) (key (a19, c19)))
    try dsimp only
    repeat (first | exact zpa | exact zpn | (apply zpc; focus (repeat (first | exact zh | apply zt))) | apply zps)
 exact S.rt Tryz.results300 rfl hR ⟨s.1, s.2, rfl, rfl⟩
theorem tput1_c {r : Fr} {b : Nat} {cs : List Value} {x : RootT} (hb : At r ⟨b, 0, none⟩ cs) (h : RootRp.rel r cs x) :
  Con Tryz.prog 298 (#[] ++ #[] ++ #[.pointer (some ⟨b, 0, none⟩)]) r [] (RetP (fun v η => rootOk x = true ∧ ∃ a c, v = .slice a (rootB x).length c ∧ η = [OwnP Rp.u8 5 (.slice a (rootB x).length c) (rootB x)]) (fun ch η => ∃ z, ch = errP 32 z ∧ (rootOk x = false ∧ z = 4) ∧ η = [])) := by
 obtain ⟨xa3, xa4, xc3, xc4, rfl, k0, k1, k2, k3, k4⟩ := RootRp.sh h
 refine Con.of (n := 15) [.pointer (some ⟨b, 0, none⟩)] rfl Tryz.func298 rfl rfl rfl fun g hg R hR => ?_
 have hb := hb.mono hg
 have h := h.mono hg
 have k4 := k4.mono hg
 cases e : rootOk x with
 | false =>
  refine S.seq <| S.region rfl <| O.q 1 rfl <| O.nil <| S.seq <| S.region rfl <| O.op (.p rfl) (.loadAgg Tryz.isAgg52 (by kernel_rfl) rfl hb) ?_
  refine O.op (.p rfl) (.build (cs := [_, _, _, _, _]) Tryz.underlying345 rfl rfl rfl rfl rfl) <| O.opE (.p rfl) (.alloc (cs := [.int .i64 0, .int .i64 0, .int .i64 0, .slice none 0 0, .slice none 0 0]) Tryz.zeroValue345 rfl) ?_
  rintro _ _ ⟨b2, rfl, rfl⟩
  refine O.opU rfl (.storeObj (by kernel_rfl) rfl rfl rfl rfl (by repeat (first | exact zh | apply zt)) (by first | (simp; done) | (simp [Value.cells]; done))) ?_
  refine O.nil <| S.seq <| S.region rfl <| O.op (.p rfl) (.loA (news := [_, _, _, _, _]) Tryz.isAgg345) ?_
  refine O.call0 (.p rfl) rfl F.ok299 rfl rfl (pright_c h) ?_
  rintro v6 _ ⟨rfl, rfl⟩
  try simp only [zx1, zx2, zx3]
  refine O.sF 6 rfl (by exact e) ?_
  refine O.callP0 (.p rfl) rfl F.ok268 rfl rfl (tmust_c _ _) (fun ch η' w hX hW => by (obtain ⟨hb, rfl, rfl⟩ := hX; exact hR _ _ w ⟨4, rfl, ⟨e, rfl⟩, rfl⟩ hW.drop_all)) ?_
  rintro v7 _ ⟨hb7, rfl, rfl⟩
  try simp only [zx1, zx2, zx3]
  exact absurd hb7 (by simp)
 | true =>
  have hl := rootB_length e
  have hfl : [rootText x, x.2.2.2.2.1].flatten = rootB x := by simp [rootB]
  refine S.seq <| S.region rfl <| O.q 1 rfl <| O.nil <| S.seq <| S.region rfl <| O.op (.p rfl) (.loadAgg Tryz.isAgg52 (by kernel_rfl) rfl hb) ?_
  refine O.op (.p rfl) (.build (cs := [_, _, _, _, _]) Tryz.underlying345 rfl rfl rfl rfl rfl) <| O.opE (.p rfl) (.alloc (cs := [.int .i64 0, .int .i64 0, .int .i64 0, .slice none 0 0, .slice none 0 0]) Tryz.zeroValue345 rfl) ?_
  rintro _ _ ⟨b2, rfl, rfl⟩
  refine O.opU rfl (.storeObj (by kernel_rfl) rfl rfl rfl rfl (by repeat (first | exact zh | apply zt)) (by first | (simp; done) | (simp [Value.cells]; done))) ?_
  refine O.nil <| S.seq <| S.region rfl <| O.op (.p rfl) (.loA (news := [_, _, _, _, _]) Tryz.isAgg345) ?_
  refine O.call0 (.p rfl) rfl F.ok299 rfl rfl (pright_c h) ?_
  rintro v6 _ ⟨rfl, rfl⟩
  try simp only [zx1, zx2, zx3]
  refine O.sT 6 rfl (by exact e) ?_
  refine O.callP0 (.p rfl) rfl F.ok268 rfl rfl (tmust_c _ _) (fun ch η' w hX hW => by (exact absurd hX.1 (by simp))) ?_
  rintro v7 _ ⟨hb7, rfl, rfl⟩
  try simp only [zx1, zx2, zx3]
  refine O.nil <| S.seq <| S.frzO (by repeat (first | exact zh | apply zt)) fun g hs hm hb2 => ?_
  replace hg := Fr.sub_trans hg hs
  replace hR := melted hR hm
  try replace hb := hb.mono hs
  try replace h := h.mono hs
  try replace k4 := k4.mono hs
  clear hs hm
  refine S.regionD (L := [0, 2, 3, 4, 1, 5, 6, 7]) F.mixed (by kernel_rfl) ?_
  refine .quiet (.p rfl) rfl (fun _ => .loadAgg Tryz.isAgg345 (by kernel_rfl) rfl hb2) ?_
  refine .quiet (.p rfl) rfl (fun _ => .fieldAddr F.fld345x0 rfl) <| .quiet (.p rfl) rfl (fun _ => .fieldAddr F.fld52x4 rfl) <| .quiet (.p rfl) rfl (fun _ => .loadAt F.flat31 rfl (hb2.drop 4) rfl) ?_
  refine OD.call0 (.p rfl) (by kernel_rfl) rfl F.ok300 rfl rfl ((ptext_c h (rootOk_iff.1 e).1)) ?_
  rintro v9 _ ⟨a9, c9, rfl, rfl⟩
  try simp only [zx1, zx2, zx3]
  refine OD.litP (T := Rp.val) (ys := [_, _]) (.p rfl) (by kernel_rfl) Tryz.underlying39 F.elem31 (by decide) rfl rfl ⟨⟨rfl, rfl⟩, ⟨rfl, rfl⟩, trivial⟩ (by decide) (fun a13 c13 => ?_)
  refine OD.callB (.p rfl) (by kernel_rfl) rfl F.ok118 rfl rfl (bs := [OwnP Rp.val 31 (.slice a13 2 c13) [.slice a9 (rootText x).length c9, .slice xa4 x.2.2.2.2.1.length xc4], OwnP Rp.u8 5 (.slice a9 (rootText x).length c9) (rootText x)]) (by repeat (first | exact zsn | (apply zsc; focus (repeat (first | exact zh | apply zt))))) (fun m hm hd => wJoin_c (xss := [rootText x, x.2.2.2.2.1]) ((hm.arr.right hd).rows ⟨hm.tail.arr.right hd, k4.left, trivial⟩) (by rw [hfl]; omega)) ?_
  rintro v14 _ ⟨a14, c14, rfl, rfl⟩
  try simp only [zx1, zx2, zx3]
  rw [hfl]
  refine OD.q 1 rfl <| ODx.nil ?_
  exact S.rt Tryz.results298 rfl hR ⟨e, a14, c14, rfl, rfl⟩
theorem tTried_c {r : Fr} {first cap : Array Value} {x : RootT} (con : Con Tryz.prog 298 (first ++ #[] ++ cap) r [] (RetP (fun v η => rootOk x = true ∧ ∃ a c, v = .slice a (rootB x).length c ∧ η = [OwnP Rp.u8 5 (.slice a (rootB x).length c) (rootB x)]) (fun ch η => ∃ z, ch = errP 32 z ∧ (rootOk x = false ∧ z = 4) ∧ η = []))) (h1 : (Value.func (.func 298) first cap).oneCell' = true := by rfl) :
  Con Tryz.prog 297 #[.func (.func 298) first cap] r [] (Ret fun v η => ∃ a c, v = .tuple #[.slice a (rootOut x).length c, .int .i64 (rootErr x)] ∧ η = [OwnP Rp.u8 5 (.slice a (rootOut x).length c) (rootOut x)]) :=
 (triedRB_c F.ok298 h1 (fun _ _ h => by obtain ⟨_, _, _, rfl, _⟩ := h; rfl) con).post fun e η h w g hw => by
  cases e with
  | returned v =>
   rcases h with ⟨u, ⟨hs, a, c, rfl, rfl⟩, rfl⟩ | ⟨z, ⟨hs, rfl⟩, rfl, rfl⟩
   ·exact ⟨_, ⟨a, c, by simp [rootOut, rootErr, hs], rfl⟩, by simpa [rootOut, hs] using hw⟩
   ·exact ⟨_, ⟨none, 0, by simp [rootOut, rootErr, hs], rfl⟩, by simp only [rootOut, hs]; exact hw.imp fun m x => ⟨Fr.emp, m, Fr.emp_disj _, Fr.emp_sub _, Fr.sub_refl _, ownP_nil _, x⟩⟩
  | panicked _ => exact h.elim
  | outgrown => exact h.elim
theorem tPut_c {r : Fr} {cs : List Value} {x : RootT} (h : RootRp.rel r cs x) :
  Con Tryz.prog 238 #[.agg cs.toArray] r [] (Ret fun v η => ∃ a c, v = .tuple #[.slice a (rootOut x).length c, .int .i64 (rootErr x)] ∧ η = [OwnP Rp.u8 5 (.slice a (rootOut x).length c) (rootOut x)]) := by
 obtain ⟨xa3, xa4, xc3, xc4, rfl, k0, k1, k2, k3, k4⟩ := RootRp.sh h
 refine Con.of (n := 8) _ rfl Tryz.func238 rfl rfl rfl fun g hg R hR => ?_
 have h := h.mono hg
 refine S.seq <| S.region rfl <| O.opE (.p rfl) (.box (cs := [_, _, _, _, _]) rfl rfl) ?_
 rintro _ _ ⟨b1, rfl, rfl⟩
 refine O.q 2 rfl <| O.nil <| S.seq <| S.frzO (by repeat (first | exact zh | apply zt)) fun g hs hm hb1 => ?_
 replace hg := Fr.sub_trans hg hs
 replace hR := melted hR hm
 try replace h := h.mono hs
 clear hs hm
 refine S.region rfl <| O.op (.p rfl) (.mkFunc rfl rfl) <| O.call0 (.p rfl) rfl F.ok297 rfl rfl ((tTried_c (tput1_c hb1 h))) ?_
 rintro v5 _ ⟨a5, c5, rfl, rfl⟩
 try simp only [zx1, zx2, zx3]
 refine O.q 4 rfl <| O.nil <| S.ret2 Tryz.results238 rfl rfl fun w hw => Holds.end_ hR hw ?_
 exact pk ⟨a5, c5, rfl, rfl⟩
end Go.Proofs.YtodhbhanmdfdeaaGreat
