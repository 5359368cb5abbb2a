import Derived.Test.YthaebmfgelaleaaNet3
open Go Go.Sp
set_option maxRecDepth 100000
attribute [local irreducible] obj Own OwnP
namespace Go.Proofs.Ythaebmfgelaleaa
theorem FactNet4.elem24 : elemIs Go.Proofs.Try.prog 24 3 40 [.int .i64 0, .int .i64 0, .slice none 0 0] := elemIs.mk (by kernel_rfl) rfl
theorem FactNet4.flat26 : Go.Sp.flat1 Go.Proofs.Try.prog 26 = true := by kernel_rfl
theorem FactNet4.flat3 : Go.Sp.flat1 Go.Proofs.Try.prog 3 = true := by kernel_rfl
theorem FactNet4.fld24x0 : fieldOff Go.Proofs.Try.prog 24 0 = some 0 := by kernel_rfl
theorem FactNet4.fld24x1 : fieldOff Go.Proofs.Try.prog 24 1 = some 1 := by kernel_rfl
theorem FactNet4.fld28x0 : fieldOff Go.Proofs.Try.prog 28 0 = some 0 := by kernel_rfl
theorem FactNet4.mixed : Go.Proofs.Try.prog.follows .mixedOrders = true := by kernel_rfl
theorem FactNet4.ok30 : callable Go.Proofs.Try.prog 30 = true := by kernel_rfl
theorem FactNet4.size3 : (Go.Proofs.Try.prog.info? 3).map (·.size) = some 1 := by kernel_rfl

/-- what a put reads -/
def PutB (r : Fr) (es : List (KEnt (Int × Int))) (ls : NetM) (v : Value) (xs : List UInt8) (B : SProp) : Prop := ∀ m, B m → EachP linkO es ls m ∧ (Arr Rp.u8 r v xs ∨ Arr Rp.u8 m v xs)
theorem PutB.mono {r r' : Fr} {es : List (KEnt (Int × Int))} {ls : NetM} {v : Value} {xs : List UInt8} {B : SProp} (h : PutB r es ls v xs B) (s : r.sub r') : PutB r' es ls v xs B := fun m x => ⟨(h m x).1, (h m x).2.imp (fun q => q.mono s) id⟩
theorem put_o {r : Fr} {d b c : Nat} {es : List (KEnt (Int × Int))} {ls : NetM} {p : Pkt} {v : Value} {B : SProp} (hat : At r ⟨d, 0, none⟩ [.map (some b)]) (hwf : WfK es c) (hk : es.map (·.1) = ls.map (·.1)) (hB : PutB r es ls v p.2.2.1 B)
    (h1 : InI64 p.1) (h2 : InI64 p.2.1) (hl : p.2.2.1.length ≤ 140737488355328) :
    Con Go.Proofs.Try.prog 21 #[.pointer (some ⟨d, 0, none⟩), .agg #[.int .i64 p.1, .int .i64 p.2.1, v]] r [MapK enc2 b es c, B] (Ret fun u η => u = .bool (!fullL ls p) ∧ η = [linksW b (sendL ls p)]) := by
  refine Con.of (n := 31) [.pointer (some ⟨d, 0, none⟩), .agg #[.int .i64 p.1, .int .i64 p.2.1, v]] rfl Go.Proofs.Try.func21 rfl rfl rfl fun g hg R hR => ?_
  replace hat : At g.h ⟨d, 0, none⟩ [.map (some b)] := At.mono hg hat
  replace hB := hB.mono hg
  refine S.factS (.there .here) (fun _ x => link_shape (keyP p) (hB _ x).1) fun ⟨a, c0, hsh⟩ => ?_
  replace hsh : (getK es (keyP p)).getD (.slice none 0 0) = .slice a (atL ls (keyP p)).length c0 := hsh
  refine S.seq (S.region rfl ?_)
  refine O.opE (.p rfl) (.box (cs := [_, _, _]) rfl rfl) ?_
  rintro _ _ ⟨b3, rfl, rfl⟩
  refine O.op (.p rfl) (.as rfl) ?_
  refine O.nil ?_
  refine S.seq (S.region rfl ?_)
  refine O.op (.p rfl) (.fieldObj FactNet4.fld24x0 rfl) ?_
  refine O.op (.p rfl) (.loadObj FactNet4.flat3 rfl (by repeat (first | exact Sel.here | apply Sel.there)) rfl) ?_
  refine O.op (.p rfl) (.fieldObj FactNet4.fld24x1 rfl) ?_
  refine O.op (.p rfl) (.loadObj FactNet4.flat3 rfl (by repeat (first | exact Sel.here | apply Sel.there)) rfl) ?_
  refine O.op (.p rfl) (.build2 Go.Proofs.Try.underlying53 FactNet4.size3 Go.Proofs.Try.zeroValue53 rfl rfl) ?_
  refine O.opE (.p rfl) (.alloc (cs := [.int .i64 0, .int .i64 0]) Go.Proofs.Try.zeroValue53 rfl) ?_
  rintro _ _ ⟨b5, rfl, rfl⟩
  refine O.opU rfl (.storeObj (by kernel_rfl) rfl rfl rfl rfl (by repeat (first | exact Sel.here | apply Sel.there)) (by first | (simp; done) | (simp [Value.cells]; done))) ?_
  refine O.nil ?_
  refine S.seq (S.seq ?_)
  refine S.frzO (by repeat (first | exact Sel.here | apply Sel.there)) fun g hs hm h5 => ?_
  replace hg := Fr.sub_trans hg hs
  replace hR := melted hR hm
  try replace hat := hat.mono hs
  try replace hB := hB.mono hs
  clear hs hm
  refine S.frzO (by repeat (first | exact Sel.here | apply Sel.there)) fun g hs hm h3 => ?_
  replace hg := Fr.sub_trans hg hs
  replace hR := melted hR hm
  try replace hat := hat.mono hs
  try replace hB := hB.mono hs
  try replace h5 := h5.mono hs
  clear hs hm
  refine S.regionD (L := [0, 1, 2, 3, 4, 5, 6, 7]) FactNet4.mixed (by kernel_rfl) ?_
  refine .quiet (.p rfl) rfl (fun _ => .mv rfl) ?_
  refine .quiet (.p rfl) rfl (fun _ => .nilCheck rfl) ?_
  refine .quiet (.p rfl) rfl (fun _ => .fieldAddr FactNet4.fld28x0 rfl) ?_
  refine .quiet (.p rfl) rfl (fun _ => .loadAt FactNet4.flat26 rfl hat rfl) ?_
  refine .quiet (.p rfl) rfl (fun _ => .loadAgg Go.Proofs.Try.isAgg53 (by kernel_rfl) rfl h5) ?_
  refine OD.slot 15 (v' := enc2 (keyP p)) rfl (by rfl) ?_
  refine OD.doesL (.p rfl) rfl (by kernel_rfl) (fun _ => .lookupK Go.Proofs.Try.underlying26 (keyOk2 Go.Proofs.Try.underlying53 Go.Proofs.Try.underlying3 FactNet4.size3) Go.Proofs.Try.zeroValue47 rfl rfl (by repeat (first | exact Sel.here | apply Sel.there))) ?_
  refine OD.slot 16 (v' := .slice a (atL ls (keyP p)).length c0) rfl (by exact hsh) ?_
  refine .quiet (.p rfl) rfl (fun _ => .len rfl Go.Proofs.Try.underlying47 rfl) ?_
  refine .quiet (.p rfl) rfl (fun _ => .geq rfl rfl) ?_
  refine .nil ?_
  first | refine S.condD rfl (fun h18 => ?_) (fun h18 => ?_) | refine S.condB rfl (fun h18 => ?_) (fun h18 => ?_)
  · have hf : fullL ls p = true := decide_eq_true (by omega)
    have e : sendL ls p = ls := by rw [sendL, hf]; rfl
    refine S.conv (B := B) (C := EachP linkO es ls) (by repeat (first | exact Sel.here | apply Sel.there)) (fun m x => ⟨m, Fr.sub_refl _, (hB m x).1⟩) ?_
    refine S.linksShut hwf (by repeat (first | exact Sel.here | apply Sel.there)) (by repeat (first | exact Sel.here | apply Sel.there)) ?_
    refine S.seq (S.region rfl ?_)
    refine O.op (.p rfl) (.as rfl) ?_
    refine O.nil ?_
    refine S.ret Go.Proofs.Try.results21 rfl fun w hw => Holds.end_ hR hw ?_
    exact ⟨_, ⟨by rw [hf]; rfl, by rw [e]⟩, by repeat (first | exact Picks.all | exact Picks.nil | (apply Picks.cons; focus (repeat (first | exact Sel.here | apply Sel.there))) | apply Picks.skip)⟩
  · have hlt : (atL ls (keyP p)).length < 64 := by omega
    have hf : fullL ls p = false := decide_eq_false (by omega)
    have e : sendL ls p = putA ls (keyP p) (atL ls (keyP p) ++ [p]) := by rw [sendL, hf]; rfl
    refine S.skip (S.seq (S.regionD (L := [0, 1, 2, 3, 4, 5, 6, 7, 8, 9, 11, 10, 12]) FactNet4.mixed (by kernel_rfl) ?_))
    refine .quiet (.p rfl) rfl (fun _ => .mv rfl) ?_
    refine .quiet (.p rfl) rfl (fun _ => .nilCheck rfl) ?_
    refine .quiet (.p rfl) rfl (fun _ => .fieldAddr FactNet4.fld28x0 rfl) ?_
    refine .quiet (.p rfl) rfl (fun _ => .loadAt FactNet4.flat26 rfl hat rfl) ?_
    refine .quiet (.p rfl) rfl (fun _ => .loadAgg Go.Proofs.Try.isAgg53 (by kernel_rfl) rfl h5) ?_
    refine OD.slot 23 (v' := enc2 (keyP p)) rfl (by rfl) ?_
    refine .quiet (.p rfl) rfl (fun _ => .loadAgg Go.Proofs.Try.isAgg24 (by kernel_rfl) rfl h3) ?_
    refine OD.callS (.p rfl) (by kernel_rfl) rfl FactNet4.ok30 rfl rfl (by repeat (first | exact Sel.here | apply Sel.there)) (own_put (k := keyP p) hB hl hsh) ?_
    rintro v26 _ ⟨a26, c26, css, rfl, hcl, rfl⟩
    try simp only [List.cons_append, List.nil_append, List.append_nil]
    refine OD.litP (T := (Rp.cells 3)) (ys := [_]) (.p rfl) (by kernel_rfl) Go.Proofs.Try.underlying47 FactNet4.elem24 (by decide) rfl rfl ⟨⟨rfl, rfl, by first | (simp; done) | (intro v hv; simp [Value.cells] at hv; rcases hv with rfl | rfl <;> rfl) | (refine List.forall_mem_cons.2 ⟨rfl, ?_⟩; repeat (first | exact (fun _ h => absurd h List.not_mem_nil) | refine List.forall_mem_cons.2 ⟨rfl, ?_⟩))⟩, trivial⟩ (by decide) (fun a27 c27 => ?_)
    refine OD.mapEntryK (.p rfl) (by kernel_rfl) Go.Proofs.Try.underlying26 (keyOk2 Go.Proofs.Try.underlying53 Go.Proofs.Try.underlying3 FactNet4.size3) Go.Proofs.Try.zeroValue47 rfl rfl (by repeat (first | exact Sel.here | apply Sel.there)) ?_
    refine .quiet (.p rfl) rfl (fun _ => .extract rfl rfl) ?_
    refine OD.slot 24 (v' := .slice a (atL ls (keyP p)).length c0) rfl (by exact hsh) ?_
    refine .quiet (.p rfl) rfl (fun _ => .extract rfl rfl) ?_
    refine OD.appendO (.p rfl) (by kernel_rfl) (T := (Rp.cells 3)) Go.Proofs.Try.underlying47 FactNet4.elem24 (by decide) rfl rfl (by repeat (first | exact Sel.here | apply Sel.there)) (by repeat (first | exact Sel.here | apply Sel.there)) (by first | omega | (simp; done) | (simp; omega) | decide) (by first | omega | (simp; done) | (simp; omega) | decide) (fun a29 c29 => ?_)
    refine OD.entryStoreK rfl (by kernel_rfl) (by assumption) rfl rfl rfl (by repeat (first | exact Sel.here | apply Sel.there)) ?_
    refine .nil ?_
    refine S.seq (S.region rfl ?_)
    refine O.op (.p rfl) (.as rfl) ?_
    refine O.nil ?_
    refine S.conv (B := OwnP Rp.u8 5 (.slice a26 p.2.2.1.length c26) p.2.2.1) (C := pktG.own [.int .i64 p.1, .int .i64 p.2.1, .slice a26 p.2.2.1.length c26] p) (by repeat (first | exact Sel.here | apply Sel.there)) (fun m x => ⟨m, Fr.sub_refl _, PktG.mk h1 h2 x⟩) ?_
    refine S.listPut (G := pktG) (k' := 3) rfl (by repeat (first | exact Sel.here | apply Sel.there)) (by repeat (first | exact Sel.here | apply Sel.there)) (by repeat (first | exact Sel.here | apply Sel.there)) ?_
    refine S.linkIn (keyP p) hk c (by repeat (first | exact Sel.here | apply Sel.there)) (by repeat (first | exact Sel.here | apply Sel.there)) ?_
    refine S.linksShut (putK_wf hwf _ _) (by repeat (first | exact Sel.here | apply Sel.there)) (by repeat (first | exact Sel.here | apply Sel.there)) ?_
    refine S.ret Go.Proofs.Try.results21 rfl fun w hw => Holds.end_ hR hw ?_
    exact ⟨_, ⟨by rw [hf]; rfl, by rw [e]⟩, by repeat (first | exact Picks.all | exact Picks.nil | (apply Picks.cons; focus (repeat (first | exact Sel.here | apply Sel.there))) | apply Picks.skip)⟩
theorem put_g {r : Fr} {d b : Nat} {ls : NetM} {p : Pkt} {v : Value} (hat : At r ⟨d, 0, none⟩ [.map (some b)]) (ha : Arr Rp.u8 r v p.2.2.1) (h1 : InI64 p.1) (h2 : InI64 p.2.1) (hl : p.2.2.1.length ≤ 140737488355328) :
    Con Go.Proofs.Try.prog 21 #[.pointer (some ⟨d, 0, none⟩), .agg #[.int .i64 p.1, .int .i64 p.2.1, v]] r [linksW b ls] (Ret fun u η => u = .bool (!fullL ls p) ∧ η = [linksW b (sendL ls p)]) :=
  Con.links fun _ _ hwf hk => put_o hat hwf hk (fun _ x => ⟨x, .inl ha⟩) h1 h2 hl

end Go.Proofs.Ythaebmfgelaleaa
