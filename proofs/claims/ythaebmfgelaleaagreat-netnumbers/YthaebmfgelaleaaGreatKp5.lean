import Derived.Test.YthaebmfgelaleaaGreatKp4
open Go Go.Sp
set_option maxRecDepth 100000
attribute [local irreducible] obj Own OwnP
namespace Go.Proofs.YthaebmfgelaleaaGreat
theorem FactKp5.elem35 : elemIs Go.Proofs.Tryz.prog 35 3 40 [.int .i64 0, .int .i64 0, .slice none 0 0] := elemIs.mk (by kernel_rfl) rfl
theorem FactKp5.flat33 : Go.Sp.flat1 Go.Proofs.Tryz.prog 33 = true := by kernel_rfl
theorem FactKp5.fld35x2 : fieldOff Go.Proofs.Tryz.prog 35 2 = some 2 := by kernel_rfl
theorem FactKp5.ok12 : callable Go.Proofs.Tryz.prog 12 = true := by kernel_rfl
theorem FactKp5.ok35 : callable Go.Proofs.Tryz.prog 35 = true := by kernel_rfl
theorem FactKp5.ok36 : callable Go.Proofs.Tryz.prog 36 = true := by kernel_rfl
theorem FactKp5.ok49 : callable Go.Proofs.Tryz.prog 49 = true := by kernel_rfl
theorem FactKp5.ok53 : callable Go.Proofs.Tryz.prog 53 = true := by kernel_rfl
theorem FactKp5.ok54 : callable Go.Proofs.Tryz.prog 54 = true := by kernel_rfl
theorem FactKp5.size35 : (Go.Proofs.Tryz.prog.info? 35).map (·.size) = some 3 := by kernel_rfl

theorem LentP.own {e : TypeId} {a : Option Addr} {c n : Nat} {xs : List UInt8} {h : Fr} (x : LentP e (.slice a n c) xs h) : OwnP Rp.u8 e (.slice a n c) xs h := by
  obtain ⟨a', c', _, h2, h3⟩ := x
  cases h2
  exact OwnP.take rfl h3
theorem lentPacket_c {r : Fr} {p q : Int} {va : Value} {xs : List UInt8} (ha : Arr Rp.u8 r va xs) (hl : xs.length ≤ 100000000000000) :
    Con Go.Proofs.Tryz.prog 35 #[.agg #[.int .i64 p, .int .i64 q, va]] r [] (Ret fun v η => ∃ a c, v = .agg #[.int .i64 p, .int .i64 q, .slice a xs.length c] ∧ η = [LentP 5 (.slice a xs.length c) xs]) := by
  refine Con.of (n := 8) [.agg #[.int .i64 p, .int .i64 q, va]] rfl Go.Proofs.Tryz.func35 rfl rfl rfl fun g hg R hR => ?_
  have ha := ha.mono hg
  obtain ⟨a1, c1, rfl⟩ := ha.shape
  refine S.seq (S.region rfl ?_)
  refine O.opE (.p rfl) (.box (cs := [_, _, _]) rfl rfl) ?_
  rintro _ _ ⟨b1, rfl, rfl⟩
  refine O.opE (.p rfl) (.alloc (cs := [.int .i64 0, .int .i64 0, .slice none 0 0]) Go.Proofs.Tryz.zeroValue35 rfl) ?_
  rintro _ _ ⟨b2, rfl, rfl⟩
  refine O.nil ?_
  refine S.seq (S.region rfl ?_)
  refine O.op (.p rfl) (.fieldObj FactKp5.fld35x2 rfl) ?_
  refine O.op (.p rfl) (.loadObj FactKp5.flat33 rfl (by repeat (first | exact Sel.here | apply Sel.there)) rfl) ?_
  refine O.call0 (.p rfl) rfl FactKp5.ok49 rfl rfl (LentBytes_c (by first | assumption | exact Arr.mono hg (by assumption) | exact Arr.left (by assumption) | exact Arr.left (Arr.mono hg (by assumption))) (by first | omega | (simp; done) | (simp; omega) | decide)) ?_
  rintro v5 _ ⟨a5, c5, rfl, rfl⟩
  try simp only [List.cons_append, List.nil_append, List.append_nil]
  refine O.op (.p rfl) (.fieldObj FactKp5.fld35x2 rfl) ?_
  refine O.opU rfl (.store1 FactKp5.flat33 rfl rfl (by first | rfl | assumption) (by repeat (first | exact Sel.here | apply Sel.there)) (by first | (simp; done) | (simp [Value.cells]; done))) ?_
  refine O.nil ?_
  refine S.seq (S.region rfl ?_)
  refine O.op (.p rfl) (.loadObjAgg (news := [_, _, _]) Go.Proofs.Tryz.isAgg35 (by kernel_rfl) rfl (by repeat (first | exact Sel.here | apply Sel.there)) rfl) ?_
  refine O.opU rfl (.storeObj (by kernel_rfl) rfl rfl rfl rfl (by repeat (first | exact Sel.here | apply Sel.there)) (by first | (simp; done) | (simp [Value.cells]; done))) ?_
  refine O.nil ?_
  refine S.retCellAgg Go.Proofs.Tryz.results35 Go.Proofs.Tryz.isAgg35 (by kernel_rfl) rfl (by repeat (first | exact Sel.here | apply Sel.there)) fun w hw => Holds.end_ hR hw ?_
  exact ⟨_, ⟨a5, c5, rfl, rfl⟩, by repeat (first | exact Picks.all | exact Picks.nil | (apply Picks.cons; focus (repeat (first | exact Sel.here | apply Sel.there))) | apply Picks.skip)⟩
theorem keptPacket_c {r : Fr} {p q : Int} {va vb : Value} {xs : List UInt8} (hz : LentA r va xs) (hl : Arr Rp.u8 r vb xs) (hb : xs.length ≤ 100000000000000) :
    Con Go.Proofs.Tryz.prog 38 #[.agg #[.int .i64 p, .int .i64 q, va], .agg #[.int .i64 p, .int .i64 q, vb]] r [] (Ret fun v η => v = .bool true ∧ η = []) := by
  refine Con.of (n := 15) [.agg #[.int .i64 p, .int .i64 q, va], .agg #[.int .i64 p, .int .i64 q, vb]] rfl Go.Proofs.Tryz.func38 rfl rfl rfl fun g hg R hR => ?_
  replace hz : LentA g.h va xs := hz.mono hg
  have hl := hl.mono hg
  have hza := hz.arr
  obtain ⟨a1, c1, hr, rfl, hzz⟩ := hz
  obtain ⟨a2, c2, rfl⟩ := hl.shape
  refine S.seq (S.region rfl ?_)
  refine O.opE (.p rfl) (.box (cs := [_, _, _]) rfl rfl) ?_
  rintro _ _ ⟨b2, rfl, rfl⟩
  refine O.opE (.p rfl) (.box (cs := [_, _, _]) rfl rfl) ?_
  rintro _ _ ⟨b3, rfl, rfl⟩
  refine O.op (.p rfl) (.as rfl) ?_
  refine O.nil ?_
  refine S.seq (S.region rfl ?_)
  refine O.op (.p rfl) (.loadObjAgg (news := [_, _, _]) Go.Proofs.Tryz.isAgg35 (by kernel_rfl) rfl (by repeat (first | exact Sel.here | apply Sel.there)) rfl) ?_
  refine O.op (.p rfl) (.loadObjAgg (news := [_, _, _]) Go.Proofs.Tryz.isAgg35 (by kernel_rfl) rfl (by repeat (first | exact Sel.here | apply Sel.there)) rfl) ?_
  refine O.call0 (.p rfl) rfl FactKp5.ok12 rfl rfl (samePacket_c hza hl) ?_
  rintro v7 _ ⟨rfl, rfl⟩
  try simp only [List.cons_append, List.nil_append, List.append_nil]
  refine O.slot 7 (v' := .bool true) rfl (congrArg Value.bool (by simp)) ?_
  refine O.op (.p rfl) (.mv rfl) ?_
  refine O.op (.g rfl rfl) (.fieldObj FactKp5.fld35x2 rfl) ?_
  refine O.op (.g rfl rfl) (.loadObj FactKp5.flat33 rfl (by repeat (first | exact Sel.here | apply Sel.there)) rfl) ?_
  refine O.op (.g rfl rfl) (.fieldObj FactKp5.fld35x2 rfl) ?_
  refine O.op (.g rfl rfl) (.loadObj FactKp5.flat33 rfl (by repeat (first | exact Sel.here | apply Sel.there)) rfl) ?_
  refine O.call0 (.g rfl rfl) rfl FactKp5.ok53 rfl rfl (KeptBytes_c hzz hl (by omega)) ?_
  rintro v13 _ ⟨rfl, rfl⟩
  try simp only [List.cons_append, List.nil_append, List.append_nil]
  refine O.slot 13 (v' := .bool true) rfl (congrArg Value.bool (by simp)) ?_
  refine O.op (.p rfl) (.pickT rfl rfl) ?_
  refine O.op (.p rfl) (.as rfl) ?_
  refine O.nil ?_
  refine S.ret Go.Proofs.Tryz.results38 rfl fun w hw => Holds.end_ hR hw ?_
  exact ⟨_, ⟨rfl, rfl⟩, by repeat (first | exact Picks.all | exact Picks.nil | (apply Picks.cons; focus (repeat (first | exact Sel.here | apply Sel.there))) | apply Picks.skip)⟩
theorem overPacket_c {r : Fr} {p q : Int} {a : Option Addr} {c : Nat} {xs : List UInt8} (hb : xs.length ≤ 100000000000) :
    Con Go.Proofs.Tryz.prog 39 #[.agg #[.int .i64 p, .int .i64 q, .slice a xs.length c]] r [LentP 5 (.slice a xs.length c) xs] (Ret fun v η => v = .tuple #[] ∧ η = []) := by
  refine Con.of (n := 5) [.agg #[.int .i64 p, .int .i64 q, .slice a xs.length c]] rfl Go.Proofs.Tryz.func39 rfl rfl rfl fun g hg R hR => ?_
  refine S.seq (S.region rfl ?_)
  refine O.opE (.p rfl) (.box (cs := [_, _, _]) rfl rfl) ?_
  rintro _ _ ⟨b1, rfl, rfl⟩
  refine O.nil ?_
  refine S.region rfl ?_
  refine O.op (.p rfl) (.fieldObj FactKp5.fld35x2 rfl) ?_
  refine O.op (.p rfl) (.loadObj FactKp5.flat33 rfl (by repeat (first | exact Sel.here | apply Sel.there)) rfl) ?_
  refine O.callS (.p rfl) rfl FactKp5.ok54 rfl rfl (by repeat (first | exact Sel.here | apply Sel.there)) (OverBytes_c hb) ?_
  rintro v4 _ ⟨rfl, rfl⟩
  try simp only [List.cons_append, List.nil_append, List.append_nil]
  refine O.nil ?_
  refine S.end0 Go.Proofs.Tryz.results39 fun w hw => Holds.end_ hR hw ?_
  exact ⟨_, ⟨rfl, rfl⟩, by repeat (first | exact Picks.all | exact Picks.nil | (apply Picks.cons; focus (repeat (first | exact Sel.here | apply Sel.there))) | apply Picks.skip)⟩
/-- marks behind a list of packets that is lent -/
def pktMarks (n : Nat) : List Pkt := (List.range n).map fun (i : Nat) => markPkt 1 (i : Int)
@[simp] theorem pktMarks_length (n : Nat) : (pktMarks n).length = n := by simp [pktMarks]
theorem pktMarks_succ (n : Nat) : pktMarks n ++ [markPkt 1 (n : Int)] = pktMarks (n + 1) := by simp [pktMarks, List.range_succ]
def LentPW (cs : List Value) (x : Pkt) : SProp := fun m => ∃ v, cs = [.int .i64 x.1, .int .i64 x.2.1, v] ∧ InI64 x.1 ∧ InI64 x.2.1 ∧ LentP 5 v x.2.2.1 m
def LentPA (h : Fr) (cs : List Value) (x : Pkt) : Prop := ∃ v, cs = [.int .i64 x.1, .int .i64 x.2.1, v] ∧ InI64 x.1 ∧ InI64 x.2.1 ∧ LentA h v x.2.2.1
def MarkC (cs : List Value) (x : Pkt) : Prop := cs = [.int .i64 x.1, .int .i64 x.2.1, .slice none 0 0] ∧ InI64 x.1 ∧ InI64 x.2.1 ∧ x.2.2.1 = []
theorem MarkC.mk {k i : Int} (hk : Mk k) (hi : Mk i) : MarkC [.int .i64 (markZ k i), .int .i64 0, .slice none 0 0] (markPkt k i) := ⟨rfl, markZ64 hk hi, show InI64 (0 : Int) by constructor <;> decide, rfl⟩
theorem MarkC.rel {cs : List Value} {x : Pkt} {h : Fr} : MarkC cs x → PktRp.rel h cs x
  | ⟨a, b, c, d⟩ => by
    obtain ⟨p, q, xs, ⟨⟩⟩ := x
    simp only at a b c d
    subst a; subst d
    exact PktRp.mk b c Arr.nil
theorem LentPA.mono {cs : List Value} {x : Pkt} {h k : Fr} (s : h.sub k) : LentPA h cs x → LentPA k cs x
  | ⟨v, a, b, c, d⟩ => ⟨v, a, b, c, d.mono s⟩
theorem LentPA.rel {cs : List Value} {x : Pkt} {h : Fr} : LentPA h cs x → PktRp.rel h cs x
  | ⟨v, a, b, c, d⟩ => by obtain ⟨p, q, xs, ⟨⟩⟩ := x; subst a; exact PktRp.mk b c d.arr
theorem LentPW.lentPA {cs : List Value} {x : Pkt} {m : Fr} : LentPW cs x m → LentPA m cs x
  | ⟨v, a, b, c, d⟩ => ⟨v, a, b, c, d.lentA⟩
/-- packets that are lent -/
def LentKP (v : Value) (es : List Pkt) : SProp := fun m => ∃ a c css dss, v = .slice a es.length c ∧ es.length + 12 ≤ c ∧ css.length = es.length ∧ All2 MarkC dss (pktMarks 12) ∧ Sat [OwnP (Rp.cells 3) 35 (.slice a (es.length + 12) c) (css ++ dss), EachP LentPW css es] m
theorem lentPackets_c {r : Fr} {va : Value} {es : List Pkt} (ha : Arr PktRp r va es) (hq : ∀ x ∈ es, x.2.2.1.length ≤ 100000000000000) (hl : es.length ≤ 1000000000000) :
    Con Go.Proofs.Tryz.prog 15 #[va] r [] (Ret fun v η => ∃ a c, v = .slice a es.length c ∧ η = [LentKP (.slice a es.length c) es]) := by
  refine Con.of (n := 39) [va] rfl Go.Proofs.Tryz.func15 rfl rfl rfl fun g hg R hR => ?_
  have ha := ha.mono hg
  obtain ⟨a1, c1, rfl⟩ := ha.shape
  refine S.seq (S.region rfl ?_)
  refine O.op (.p rfl) (.as rfl) ?_
  refine O.nil ?_
  refine S.seq (S.region rfl ?_)
  refine O.op (.p rfl) (.mv rfl) ?_
  refine O.op (.p rfl) (.len rfl Go.Proofs.Tryz.underlying29 rfl) ?_
  refine O.op (.p rfl) (.add rfl rfl (IntWalk.i64_in _ (by omega))) ?_
  refine O.opE (.p rfl) (.makeP0 (T := Rp.cells 3) (c := es.length + 12) Go.Proofs.Tryz.underlying29 FactKp5.elem35 rfl rfl rfl rfl (by omega) (by omega)) ?_
  rintro v10 _ ⟨a10, c10, rfl, rfl⟩
  refine O.op (.p rfl) (.as rfl) ?_
  refine O.nil ?_
  refine S.seq (S.seq (S.region rfl ?_))
  refine O.op (.p rfl) (.as rfl) ?_
  refine O.nil ?_
  refine S.block ?_
  refine S.each0 LentPW ?_
  refine S.loopK4 (ι := Nat) (κ := Option Addr) (υ := Nat) (τ := List (List Value)) (fun i a c css => i ≤ es.length ∧ css.length = i) (fun i a c css => [(4, .int .i64 (i : Int)), (3, .slice a i c)]) [(0, _)] (fun i a c css => [EachP LentPW css (es.take i), OwnP (Rp.cells 3) 35 (.slice a i c) css]) (fun i a c css => es.length - i) (0) (a10) (c10) ([]) (by exact ⟨by simp, rfl⟩) (.cons rfl (.cons rfl (.nil))) (.cons rfl (.nil)) rfl fun i a c css hx ih => ?_
  have hm1 := meltRefl (g := g)
  obtain ⟨hx1, hvs⟩ := hx
  refine S.seq (S.seq (S.region rfl ?_))
  refine O.op (.p rfl) (.mv rfl) ?_
  refine O.op (.p rfl) (.mv rfl) ?_
  refine O.op (.p rfl) (.len rfl Go.Proofs.Tryz.underlying29 rfl) ?_
  refine O.op (.p rfl) (.lss rfl rfl) ?_
  refine O.nil ?_
  first | refine S.condD rfl (fun h14 => ?_) (fun h14 => ?_) | refine S.condB rfl (fun h14 => ?_) (fun h14 => ?_)
  · have hi : i < es.length := by omega
    have hrow := hq es[i] (List.getElem_mem hi)
    refine S.skip (S.seq (S.block (S.seq (S.region rfl ?_))))
    refine O.op (.p rfl) (.mv rfl) ?_
    refine O.op (.p rfl) (.mv rfl) ?_
    refine O.idx' (.p rfl) Go.Proofs.Tryz.underlying29 FactKp5.size35 rfl rfl rfl (by first | assumption | exact Arr.mono hg (by assumption) | exact Arr.left (by assumption) | exact Arr.left (Arr.mono hg (by assumption))) (by decide) (by first | omega | (simp; done) | (simp; omega) | decide) (fun p19 cs19 hp19 hr19 => ?_)
    obtain ⟨v19, rfl, hi19, hj19, ha19⟩ := PktRp.open hr19; obtain ⟨a19, c19, rfl⟩ := ha19.shape
    refine O.op (.p rfl) (.loadAgg Go.Proofs.Tryz.isAgg35 (by kernel_rfl) rfl hp19) ?_
    refine O.call0 (.p rfl) rfl FactKp5.ok35 rfl rfl (lentPacket_c (by first | assumption | exact Arr.mono hg (by assumption) | exact Arr.left (by assumption) | exact Arr.left (Arr.mono hg (by assumption))) (by first | omega | (simp; done) | (simp; omega) | decide)) ?_
    rintro v21 _ ⟨a21, c21, rfl, rfl⟩
    try simp only [List.cons_append, List.nil_append, List.append_nil]
    refine O.opE (.p rfl) (.alloc (cs := [.int .i64 0, .int .i64 0, .slice none 0 0]) Go.Proofs.Tryz.zeroValue35 rfl) ?_
    rintro _ _ ⟨b5, rfl, rfl⟩
    refine O.opU rfl (.storeObj (by kernel_rfl) rfl rfl rfl rfl (by repeat (first | exact Sel.here | apply Sel.there)) (by first | (simp; done) | (simp [Value.cells]; done))) ?_
    refine O.nil ?_
    refine S.region rfl ?_
    refine O.op (.p rfl) (.mv rfl) ?_
    refine O.op (.p rfl) (.loadObjAgg (news := [_, _, _]) Go.Proofs.Tryz.isAgg35 (by kernel_rfl) rfl (by repeat (first | exact Sel.here | apply Sel.there)) rfl) ?_
    refine O.opE (.p rfl) (.litP (T := (Rp.cells 3)) (ys := [_]) Go.Proofs.Tryz.underlying29 FactKp5.elem35 (by decide) rfl rfl ⟨⟨rfl, rfl, by first | (simp; done) | (intro v hv; simp [Value.cells] at hv; rcases hv with rfl | rfl <;> rfl) | (refine List.forall_mem_cons.2 ⟨rfl, ?_⟩; repeat (first | exact (fun _ h => absurd h List.not_mem_nil) | refine List.forall_mem_cons.2 ⟨rfl, ?_⟩))⟩, trivial⟩ (by decide)) ?_
    rintro _ _ ⟨a24, c24, rfl, rfl⟩
    refine O.opE (.p rfl) (.appendO (T := (Rp.cells 3)) Go.Proofs.Tryz.underlying29 FactKp5.elem35 (by decide) rfl rfl (by repeat (first | exact Sel.here | apply Sel.there)) (by repeat (first | exact Sel.here | apply Sel.there)) (by first | omega | (simp; done) | (simp; omega) | decide) (by first | omega | (simp; done) | (simp; omega) | decide)) ?_
    rintro _ _ ⟨a25, c25, rfl, rfl⟩
    refine O.op (.p rfl) (.as rfl) ?_
    refine O.nil ?_
    refine S.inBlock (S.region rfl ?_)
    refine O.op (.p rfl) (.mv rfl) ?_
    refine O.op (.p rfl) (.add rfl rfl (IntWalk.i64_in _ (by omega))) ?_
    refine O.op (.p rfl) (.as rfl) ?_
    refine O.nil ?_
    have hcs : (Value.agg #[.int .i64 es[i].1, .int .i64 es[i].2.1, .slice a21 es[i].2.2.1.length c21]).cells.toList = [.int .i64 es[i].1, .int .i64 es[i].2.1, .slice a21 es[i].2.2.1.length c21] := by simp [Value.cells]
    simp only [hcs]
    refine S.conv (B := LentP 5 (.slice a21 es[i].2.2.1.length c21) es[i].2.2.1) (C := LentPW [.int .i64 es[i].1, .int .i64 es[i].2.1, .slice a21 es[i].2.2.1.length c21] es[i]) (by repeat (first | exact Sel.here | apply Sel.there)) (fun m x => ⟨m, Fr.sub_refl _, ⟨_, rfl, hi19, hj19, x⟩⟩) ?_
    refine S.each (A := LentPW) (bs := css) (b := [.int .i64 es[i].1, .int .i64 es[i].2.1, .slice a21 es[i].2.2.1.length c21]) (a := es[i]) (by repeat (first | exact Sel.here | apply Sel.there)) (by repeat (first | exact Sel.here | apply Sel.there)) ?_
    rw [← List.take_succ_eq_append_getElem hi, hvs]
    refine S.pk ?_ (S.weaken ?_ (ih (i + 1) (a25) (c25) (css ++ [[.int .i64 es[i].1, .int .i64 es[i].2.1, .slice a21 es[i].2.2.1.length c21]]) (by exact ⟨by omega, by simp; omega⟩) (by omega)))
    · repeat (first | exact Picks.all | exact Picks.nil | (apply Picks.cons; focus (repeat (first | exact Sel.here | apply Sel.there))) | apply Picks.skip)
    repeat (first | exact Sub.nil | refine Sub.cons rfl ?_)
  · have hi : i = es.length := by omega
    subst hi
    rw [List.take_length]
    refine S.exit rfl ?_
    refine S.seq (S.seq (S.region rfl ?_))
    refine O.op (.p rfl) (.as rfl) ?_
    refine O.nil ?_
    refine S.block ?_
    refine S.conv (B := OwnP (Rp.cells 3) 35 (.slice a es.length c) css) (C := OwnP (Rp.cells 3) 35 (.slice a es.length c) (css ++ [])) (by repeat (first | exact Sel.here | apply Sel.there)) (fun m x => ⟨m, Fr.sub_refl _, by rw [List.append_nil]; exact x⟩) ?_
    refine S.loopK4 (ι := Nat) (κ := Option Addr) (υ := Nat) (τ := List (List Value)) (fun i a c dss => i ≤ 12 ∧ All2 MarkC dss (pktMarks i)) (fun i a c dss => [(6, .int .i64 (i : Int)), (3, .slice a (es.length + i) c)]) [(0, _)] (fun i a c dss => [OwnP (Rp.cells 3) 35 (.slice a (es.length + i) c) (css ++ dss), EachP LentPW css es]) (fun i a c dss => 12 - i) (0) (a) (c) ([]) (by exact ⟨by simp, trivial⟩) (.cons rfl (.cons rfl (.nil))) (.cons rfl (.nil)) rfl fun i a c dss hx ih => ?_
    have hm2 := meltRefl (g := g)
    obtain ⟨hx1, hus⟩ := hx
    have hul := hus.len2
    rw [pktMarks_length] at hul
    refine S.seq (S.seq (S.region rfl ?_))
    refine O.op (.p rfl) (.mv rfl) ?_
    refine O.op (.p rfl) (.lss rfl rfl) ?_
    refine O.nil ?_
    first | refine S.condD rfl (fun h27 => ?_) (fun h27 => ?_) | refine S.condB rfl (fun h27 => ?_) (fun h27 => ?_)
    · refine S.skip (S.seq (S.block (S.region rfl ?_)))
      refine O.op (.p rfl) (.mv rfl) ?_
      refine O.op (.p rfl) (.mv rfl) ?_
      refine O.call0 (.p rfl) rfl FactKp5.ok36 rfl rfl ((markPacket_c _ _ (by constructor <;> omega) (by constructor <;> omega))) ?_
      rintro v32 _ ⟨rfl, rfl⟩
      try simp only [List.cons_append, List.nil_append, List.append_nil]
      refine O.opE (.p rfl) (.litP (T := (Rp.cells 3)) (ys := [_]) Go.Proofs.Tryz.underlying29 FactKp5.elem35 (by decide) rfl rfl ⟨⟨rfl, rfl, by first | (simp; done) | (intro v hv; simp [Value.cells] at hv; rcases hv with rfl | rfl <;> rfl) | (refine List.forall_mem_cons.2 ⟨rfl, ?_⟩; repeat (first | exact (fun _ h => absurd h List.not_mem_nil) | refine List.forall_mem_cons.2 ⟨rfl, ?_⟩))⟩, trivial⟩ (by decide)) ?_
      rintro _ _ ⟨a33, c33, rfl, rfl⟩
      refine O.opE (.p rfl) (.appendO (T := (Rp.cells 3)) Go.Proofs.Tryz.underlying29 FactKp5.elem35 (by decide) rfl rfl (by repeat (first | exact Sel.here | apply Sel.there)) (by repeat (first | exact Sel.here | apply Sel.there)) (by first | omega | (simp; done) | (simp; omega) | decide) (by first | omega | (simp; done) | (simp; omega) | decide)) ?_
      rintro _ _ ⟨a34, c34, rfl, rfl⟩
      refine O.op (.p rfl) (.as rfl) ?_
      refine O.nil ?_
      refine S.inBlock (S.region rfl ?_)
      refine O.op (.p rfl) (.mv rfl) ?_
      refine O.op (.p rfl) (.add rfl rfl (IntWalk.i64_in _ (by omega))) ?_
      refine O.op (.p rfl) (.as rfl) ?_
      refine O.nil ?_
      have hcs : (Value.agg #[.int .i64 (markZ 1 (i : Int)), .int .i64 0, .slice none 0 0]).cells.toList = [.int .i64 (markZ 1 (i : Int)), .int .i64 0, .slice none 0 0] := by simp [Value.cells]
      simp only [hcs]
      rw [List.append_assoc]
      simp only [List.length_append, hvs, hul]
      refine S.pk ?_ (S.weaken ?_ (ih (i + 1) (a34) (c34) ((dss ++ [[.int .i64 (markZ 1 (i : Int)), .int .i64 0, .slice none 0 0]])) (by exact ⟨by omega, by rw [← pktMarks_succ]; exact All2.append hus ⟨MarkC.mk (by constructor <;> omega) (by constructor <;> omega), trivial⟩⟩) (by omega)))
      · repeat (first | exact Picks.all | exact Picks.nil | (apply Picks.cons; focus (repeat (first | exact Sel.here | apply Sel.there))) | apply Picks.skip)
      repeat (first | exact Sub.nil | refine Sub.cons rfl ?_)
    · have hi : i = 12 := by omega
      subst hi
      refine S.factS (by repeat (first | exact Sel.here | apply Sel.there)) (fun _ x => OwnP.room (T := Rp.cells 3) (e := 35) (xs := css ++ dss) (a := a) (c := c) (m := es.length + 12) x) fun hroom => ?_
      refine S.exit rfl ?_
      refine S.seq (S.region rfl ?_)
      refine O.op (.p rfl) (.mv rfl) ?_
      refine O.op (.p rfl) (.mv rfl) ?_
      refine O.op (.p rfl) (.len rfl Go.Proofs.Tryz.underlying29 rfl) ?_
      refine O.slice0 (q := es.length) (Rp.cells 3) (.p rfl) Go.Proofs.Tryz.underlying29 FactKp5.size35 rfl rfl rfl (by omega) ?_
      refine O.op (.p rfl) (.as rfl) ?_
      refine O.nil ?_
      refine S.pk (ζ := [OwnP (Rp.cells 3) 35 (.slice a (es.length + 12) c) (css ++ dss), EachP LentPW css es]) (by repeat (first | exact Picks.all | exact Picks.nil | (apply Picks.cons; focus (repeat (first | exact Sel.here | apply Sel.there))) | apply Picks.skip)) ?_
      refine S.fold (A := LentKP (.slice a es.length c) es) (bs := [OwnP (Rp.cells 3) 35 (.slice a (es.length + 12) c) (css ++ dss), EachP LentPW css es]) (fun m x => ⟨a, c, css, dss, rfl, hroom.2, hvs, hus, x⟩) ?_
      refine S.ret Go.Proofs.Tryz.results15 rfl fun w hw => Holds.end_ hR hw ?_
      exact ⟨_, ⟨a, c, rfl, rfl⟩, by repeat (first | exact Picks.all | exact Picks.nil | (apply Picks.cons; focus (repeat (first | exact Sel.here | apply Sel.there))) | apply Picks.skip)⟩

end Go.Proofs.YthaebmfgelaleaaGreat
