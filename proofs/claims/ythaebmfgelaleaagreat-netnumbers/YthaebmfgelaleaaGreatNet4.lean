/- Texts of this proof, one behind the other. -/
import Derived.Test.YthaebmfgelaleaaGreatNet2
section
open Go Go.Sp
set_option maxRecDepth 100000
attribute [local irreducible] obj Own OwnP
namespace Go.Proofs.YthaebmfgelaleaaGreat
theorem FactNet3.flat55 : Go.Sp.flat1 Go.Proofs.Tryz.prog 55 = true := by kernel_rfl
theorem FactNet3.fld57x0 : fieldOff Go.Proofs.Tryz.prog 57 0 = some 0 := by kernel_rfl
theorem FactNet3.fld59x0 : fieldOff Go.Proofs.Tryz.prog 59 0 = some 0 := by kernel_rfl
theorem FactNet3.mixed : Go.Proofs.Tryz.prog.follows .mixedOrders = true := by kernel_rfl
theorem FactNet3.ok28 : callable Go.Proofs.Tryz.prog 28 = true := by kernel_rfl
theorem FactNet3.size3 : (Go.Proofs.Tryz.prog.info? 3).map (·.size) = some 1 := by kernel_rfl

theorem has_g {r : Fr} {d b c n : Nat} {es : List (KEnt (Int × Int))} {k : Int × Int} {i : Int} {a : Option Addr} {c0 : Nat} (hat : At r ⟨d, 0, none⟩ [.map (some b)]) (hsh : (getK es k).getD (.slice none 0 0) = .slice a n c0) :
    Con Go.Proofs.Tryz.prog 29 #[.pointer (some ⟨d, 0, none⟩), enc2 k, .int .i64 i] r [MapK enc2 b es c] (Ret fun u η => u = .bool (decide (0 ≤ i) && decide (i < (n : Int))) ∧ η = [MapK enc2 b es c]) := by
  refine Con.of (n := 20) [.pointer (some ⟨d, 0, none⟩), enc2 k, .int .i64 i] rfl Go.Proofs.Tryz.func29 rfl rfl rfl fun g hg R hR => ?_
  replace hat : At g.h ⟨d, 0, none⟩ [.map (some b)] := At.mono hg hat
  refine S.seq (S.region rfl ?_)
  refine O.opE (.p rfl) (.box (cs := [_, _]) rfl rfl) ?_
  rintro _ _ ⟨b4, rfl, rfl⟩
  refine O.op (.p rfl) (.as rfl) ?_
  refine O.nil ?_
  refine S.seq ?_
  refine S.frzO (by repeat (first | exact Sel.here | apply Sel.there)) fun g hs hm h4 => ?_
  replace hg := Fr.sub_trans hg hs
  replace hR := melted hR hm
  try replace hat := hat.mono hs
  clear hs hm
  refine S.regionD (L := [0, 1, 2, 3, 4, 5, 6, 7, 8, 9, 10, 11, 12, 13]) FactNet3.mixed (by kernel_rfl) ?_
  refine .quiet (.p rfl) rfl (fun _ => .mv rfl) ?_
  refine .quiet (.p rfl) rfl (fun _ => .geq rfl rfl) ?_
  refine .quiet (.p rfl) rfl (fun _ => .mv rfl) ?_
  first | refine OD.caseD 9 rfl (fun h9 => ?_) (fun h9 => ?_) | refine OD.caseB 9 rfl (fun h9 => ?_) (fun h9 => ?_)
  · refine .quiet (.g rfl rfl) rfl (fun _ => .mv rfl) ?_
    refine .quiet (.g rfl rfl) rfl (fun _ => .mv rfl) ?_
    refine .quiet (.g rfl rfl) rfl (fun _ => .nilCheck rfl) ?_
    refine .quiet (.g rfl rfl) rfl (fun _ => .fieldAddr FactNet3.fld57x0 rfl) ?_
    refine .quiet (.g rfl rfl) rfl (fun _ => .loadAt FactNet3.flat55 rfl hat rfl) ?_
    refine .quiet (.g rfl rfl) rfl (fun _ => .loadAgg Go.Proofs.Tryz.isAgg62 (by kernel_rfl) rfl h4) ?_
    refine OD.slot 15 (v' := enc2 k) rfl (by rfl) ?_
    refine OD.doesL (.g rfl rfl) rfl (by kernel_rfl) (fun _ => .lookupK Go.Proofs.Tryz.underlying55 (keyOk2 Go.Proofs.Tryz.underlying62 Go.Proofs.Tryz.underlying3 FactNet3.size3) Go.Proofs.Tryz.zeroValue29 rfl rfl (by repeat (first | exact Sel.here | apply Sel.there))) ?_
    refine OD.slot 16 (v' := .slice a n c0) rfl (by exact hsh) ?_
    refine .quiet (.g rfl rfl) rfl (fun _ => .len rfl Go.Proofs.Tryz.underlying29 rfl) ?_
    refine .quiet (.g rfl rfl) rfl (fun _ => .lss rfl rfl) ?_
    refine .quiet (.p rfl) rfl (fun _ => .pickT rfl rfl) ?_
    refine .quiet (.p rfl) rfl (fun _ => .as rfl) ?_
    refine .nil ?_
    refine S.ret Go.Proofs.Tryz.results29 rfl fun w hw => Holds.end_ hR hw ?_
    exact ⟨_, ⟨by rw [decide_eq_true h9]; rfl, rfl⟩, by repeat (first | exact Picks.all | exact Picks.nil | (apply Picks.cons; focus (repeat (first | exact Sel.here | apply Sel.there))) | apply Picks.skip)⟩
  · refine .no rfl rfl rfl rfl ?_
    refine .no rfl rfl rfl rfl ?_
    refine .no rfl rfl rfl rfl ?_
    refine .no rfl rfl rfl rfl ?_
    refine .no rfl rfl rfl rfl ?_
    refine .no rfl rfl rfl rfl ?_
    refine .no rfl rfl rfl rfl ?_
    refine .no rfl rfl rfl rfl ?_
    refine .no rfl rfl rfl rfl ?_
    refine .quiet (.p rfl) rfl (fun _ => .pickF rfl rfl) ?_
    refine .quiet (.p rfl) rfl (fun _ => .as rfl) ?_
    refine .nil ?_
    refine S.ret Go.Proofs.Tryz.results29 rfl fun w hw => Holds.end_ hR hw ?_
    exact ⟨_, ⟨by rw [decide_eq_false h9]; rfl, rfl⟩, by repeat (first | exact Picks.all | exact Picks.nil | (apply Picks.cons; focus (repeat (first | exact Sel.here | apply Sel.there))) | apply Picks.skip)⟩
theorem many_g {r : Fr} {d b : Nat} {ls : NetM} {f t : Int} (hat : At r ⟨d, 0, none⟩ [.map (some b)]) :
    Con Go.Proofs.Tryz.prog 23 #[.pointer (some ⟨d, 0, none⟩), .int .i64 f, .int .i64 t] r [linksW b ls] (Ret fun u η => u = .int .i64 ((atL ls (f, t)).length : Int) ∧ η = [linksW b ls]) := by
  refine Con.of (n := 20) [.pointer (some ⟨d, 0, none⟩), .int .i64 f, .int .i64 t] rfl Go.Proofs.Tryz.func23 rfl rfl rfl fun g hg R hR => ?_
  replace hat : At g.h ⟨d, 0, none⟩ [.map (some b)] := At.mono hg hat
  refine S.linksOpen .here fun es c hwf hk => ?_
  refine S.linkShape (f, t) (by repeat (first | exact Sel.here | apply Sel.there)) fun a c0 hsh => ?_
  refine S.seq (S.region rfl ?_)
  refine O.op (.p rfl) (.as rfl) ?_
  refine O.nil ?_
  refine S.seq (S.seq (S.region rfl ?_))
  refine O.op (.p rfl) (.mv rfl) ?_
  refine O.call0 (.p rfl) rfl FactNet3.ok28 rfl rfl (known_g (by assumption)) ?_
  rintro v8 _ ⟨rfl, rfl⟩
  try simp only [List.cons_append, List.nil_append, List.append_nil]
  refine O.op (.p rfl) (.not rfl) ?_
  refine O.nil ?_
  refine S.condF rfl ?_
  refine S.skip (S.seq (S.region rfl ?_))
  refine O.op (.p rfl) (.mv rfl) ?_
  refine O.op (.p rfl) (.nilCheck rfl) ?_
  refine O.op (.p rfl) (.fieldAddr FactNet3.fld59x0 rfl) ?_
  refine O.op (.p rfl) (.fieldAddr FactNet3.fld57x0 rfl) ?_
  refine O.op (.p rfl) (.loadAt FactNet3.flat55 rfl hat rfl) ?_
  refine O.op (.p rfl) (.mv rfl) ?_
  refine O.op (.p rfl) (.mv rfl) ?_
  refine O.op (.p rfl) (.build2 Go.Proofs.Tryz.underlying62 FactNet3.size3 Go.Proofs.Tryz.zeroValue62 rfl rfl) ?_
  refine O.slot 17 (v' := enc2 (f, t)) rfl (by rfl) ?_
  refine O.op (.p rfl) (.lookupK Go.Proofs.Tryz.underlying55 (keyOk2 Go.Proofs.Tryz.underlying62 Go.Proofs.Tryz.underlying3 FactNet3.size3) Go.Proofs.Tryz.zeroValue29 rfl rfl (by repeat (first | exact Sel.here | apply Sel.there))) ?_
  refine O.slot 18 (v' := .slice a (atL ls (f, t)).length c0) rfl (by exact hsh) ?_
  refine O.op (.p rfl) (.len rfl Go.Proofs.Tryz.underlying29 rfl) ?_
  refine O.op (.p rfl) (.as rfl) ?_
  refine O.nil ?_
  refine S.linksShut hwf (by repeat (first | exact Sel.here | apply Sel.there)) (by repeat (first | exact Sel.here | apply Sel.there)) ?_
  refine S.ret Go.Proofs.Tryz.results23 rfl fun w hw => Holds.end_ hR hw ?_
  exact ⟨_, ⟨rfl, rfl⟩, by repeat (first | exact Picks.all | exact Picks.nil | (apply Picks.cons; focus (repeat (first | exact Sel.here | apply Sel.there))) | apply Picks.skip)⟩
theorem many_0 {r : Fr} {f t : Int} : Con Go.Proofs.Tryz.prog 23 #[.pointer none, .int .i64 f, .int .i64 t] r [] (Ret fun u η => u = .int .i64 0 ∧ η = []) := by
  refine Con.of (n := 20) [.pointer none, .int .i64 f, .int .i64 t] rfl Go.Proofs.Tryz.func23 rfl rfl rfl fun g hg R hR => ?_
  refine S.seq (S.region rfl ?_)
  refine O.op (.p rfl) (.as rfl) ?_
  refine O.nil ?_
  refine S.seq (S.seq (S.region rfl ?_))
  refine O.op (.p rfl) (.mv rfl) ?_
  refine O.call0 (.p rfl) rfl FactNet3.ok28 rfl rfl ((known_0)) ?_
  rintro v8 _ ⟨rfl, rfl⟩
  try simp only [List.cons_append, List.nil_append, List.append_nil]
  refine O.op (.p rfl) (.not rfl) ?_
  refine O.nil ?_
  refine S.condT rfl ?_
  refine S.seq (S.region rfl ?_)
  refine O.op (.p rfl) (.as rfl) ?_
  refine O.nil ?_
  refine S.ret Go.Proofs.Tryz.results23 rfl fun w hw => Holds.end_ hR hw ?_
  exact ⟨_, ⟨rfl, rfl⟩, by repeat (first | exact Picks.all | exact Picks.nil | (apply Picks.cons; focus (repeat (first | exact Sel.here | apply Sel.there))) | apply Picks.skip)⟩
theorem many_n {r : Fr} {d : Nat} {f t : Int} (hat : At r ⟨d, 0, none⟩ [.map none]) : Con Go.Proofs.Tryz.prog 23 #[.pointer (some ⟨d, 0, none⟩), .int .i64 f, .int .i64 t] r [] (Ret fun u η => u = .int .i64 0 ∧ η = []) := by
  refine Con.of (n := 20) [.pointer (some ⟨d, 0, none⟩), .int .i64 f, .int .i64 t] rfl Go.Proofs.Tryz.func23 rfl rfl rfl fun g hg R hR => ?_
  replace hat : At g.h ⟨d, 0, none⟩ [.map none] := At.mono hg hat
  refine S.seq (S.region rfl ?_)
  refine O.op (.p rfl) (.as rfl) ?_
  refine O.nil ?_
  refine S.seq (S.seq (S.region rfl ?_))
  refine O.op (.p rfl) (.mv rfl) ?_
  refine O.call0 (.p rfl) rfl FactNet3.ok28 rfl rfl ((known_n hat)) ?_
  rintro v8 _ ⟨rfl, rfl⟩
  try simp only [List.cons_append, List.nil_append, List.append_nil]
  refine O.op (.p rfl) (.not rfl) ?_
  refine O.nil ?_
  refine S.condT rfl ?_
  refine S.seq (S.region rfl ?_)
  refine O.op (.p rfl) (.as rfl) ?_
  refine O.nil ?_
  refine S.ret Go.Proofs.Tryz.results23 rfl fun w hw => Holds.end_ hR hw ?_
  exact ⟨_, ⟨rfl, rfl⟩, by repeat (first | exact Picks.all | exact Picks.nil | (apply Picks.cons; focus (repeat (first | exact Sel.here | apply Sel.there))) | apply Picks.skip)⟩
/-- is a link full? -/
def fullL (ls : NetM) (p : Pkt) : Bool := decide (64 ≤ (atL ls (keyP p)).length)
def sendL (ls : NetM) (p : Pkt) : NetM := if fullL ls p then ls else putA ls (keyP p) (atL ls (keyP p) ++ [p])
theorem own_put {r : Fr} {a b : Int} {v : Value} {xs : List UInt8} {es : List (KEnt (Int × Int))} {ls : NetM} {k : Int × Int} {ad : Option Addr} {n c0 : Nat} {B : SProp} (hB : ∀ m, B m → EachP linkO es ls m ∧ (Arr Rp.u8 r v xs ∨ Arr Rp.u8 m v xs)) (hl : xs.length ≤ 140737488355328)
    (hsh : (getK es k).getD (.slice none 0 0) = .slice ad n c0) :
    Con Go.Proofs.Tryz.prog 47 #[.agg #[.int .i64 a, .int .i64 b, v]] r [B] (Ret fun u η => ∃ ad' c' css, u = .agg #[.int .i64 a, .int .i64 b, .slice ad' xs.length c'] ∧ css.length = (atL ls k).length ∧
      η = [OwnP Rp.u8 5 (.slice ad' xs.length c') xs, OwnP (Rp.cells 3) 35 (.slice ad n c0) css, EachP pktG.own css (atL ls k), EachP linkO (delK es k) (delA ls k)]) := by
  have hcon : Con Go.Proofs.Tryz.prog 47 #[.agg #[.int .i64 a, .int .i64 b, v]] r ([] ++ [B]) (Ret fun u η => ∃ η₁, (∃ ad c, u = .agg #[.int .i64 a, .int .i64 b, .slice ad xs.length c] ∧ η₁ = [OwnP Rp.u8 5 (.slice ad xs.length c) xs]) ∧ η = η₁ ++ [B]) := by
    refine Con.lentW (η := []) (bs := [B]) (fun m hm hd => ?_)
    have hb : Arr Rp.u8 r v xs ∨ Arr Rp.u8 m v xs := by
      obtain ⟨m1, _, _, s1, _, p, _⟩ := hm
      exact (hB m1 p).2.imp id fun q => q.mono s1
    exact pown_c (hb.elim (fun q => q.mono (Fr.sub_add_left _ _)) fun q => q.mono (Fr.sub_add_right hd)) hl
  refine Con.post hcon ?_
  · intro e η' hp w g hw
    cases e with
    | panicked _ => exact hp.elim
    | outgrown => exact hp.elim
    | returned u =>
      obtain ⟨η₁, ⟨ad', c', rfl, rfl⟩, rfl⟩ := hp
      have h1 : Holds w g [OwnP Rp.u8 5 (.slice ad' xs.length c') xs, EachP linkO es ls] := hw.imp fun _ x => Sat.cons_imp (fun _ y => y) (fun _ y => Sat.cons_imp (fun _ z => (hB _ z).1) (fun _ z => z) y) x
      have h2 := h1.sel (.there .here)
      have h3 : Holds w g [ListP pktG 35 (.slice ad n c0) (atL ls k), EachP linkO (delK es k) (delA ls k), OwnP Rp.u8 5 (.slice ad' xs.length c') xs] := h2.imp fun _ x => Sat.part2 (fun _ y => hsh ▸ link_out k y) x
      obtain ⟨css, h4⟩ := Holds.exi (A := fun css m => Sat [OwnP (Rp.cells pktG.rp.k) 35 (.slice ad n c0) css, EachP pktG.own css (atL ls k)] m) h3
      have h5 := h4.imp fun _ x => Sat.part2 (fun _ y => y) x
      have hcl : css.length = (atL ls k).length := by
        obtain ⟨_, _, _, _, _, _, _, _, _, _, _, _, hE, _⟩ := h5.sel (.there .here)
        exact hE.len
      exact ⟨_, ⟨ad', c', css, rfl, hcl, rfl⟩, h5.picks (by repeat (first | exact Picks.all | exact Picks.nil | (apply Picks.cons; focus (repeat (first | exact Sel.here | apply Sel.there))) | apply Picks.skip))⟩

end Go.Proofs.YthaebmfgelaleaaGreat
end
section
open Go Go.Sp
set_option maxRecDepth 100000
attribute [local irreducible] obj Own OwnP
namespace Go.Proofs.YthaebmfgelaleaaGreat
theorem FactNet4.elem35 : elemIs Go.Proofs.Tryz.prog 35 3 40 [.int .i64 0, .int .i64 0, .slice none 0 0] := elemIs.mk (by kernel_rfl) rfl
theorem FactNet4.flat3 : Go.Sp.flat1 Go.Proofs.Tryz.prog 3 = true := by kernel_rfl
theorem FactNet4.flat55 : Go.Sp.flat1 Go.Proofs.Tryz.prog 55 = true := by kernel_rfl
theorem FactNet4.fld35x0 : fieldOff Go.Proofs.Tryz.prog 35 0 = some 0 := by kernel_rfl
theorem FactNet4.fld35x1 : fieldOff Go.Proofs.Tryz.prog 35 1 = some 1 := by kernel_rfl
theorem FactNet4.fld57x0 : fieldOff Go.Proofs.Tryz.prog 57 0 = some 0 := by kernel_rfl
theorem FactNet4.mixed : Go.Proofs.Tryz.prog.follows .mixedOrders = true := by kernel_rfl
theorem FactNet4.ok47 : callable Go.Proofs.Tryz.prog 47 = true := by kernel_rfl
theorem FactNet4.size3 : (Go.Proofs.Tryz.prog.info? 3).map (·.size) = some 1 := by kernel_rfl

/-- what a put reads -/
def PutB (r : Fr) (es : List (KEnt (Int × Int))) (ls : NetM) (v : Value) (xs : List UInt8) (B : SProp) : Prop := ∀ m, B m → EachP linkO es ls m ∧ (Arr Rp.u8 r v xs ∨ Arr Rp.u8 m v xs)
theorem PutB.mono {r r' : Fr} {es : List (KEnt (Int × Int))} {ls : NetM} {v : Value} {xs : List UInt8} {B : SProp} (h : PutB r es ls v xs B) (s : r.sub r') : PutB r' es ls v xs B := fun m x => ⟨(h m x).1, (h m x).2.imp (fun q => q.mono s) id⟩
theorem put_o {r : Fr} {d b c : Nat} {es : List (KEnt (Int × Int))} {ls : NetM} {p : Pkt} {v : Value} {B : SProp} (hat : At r ⟨d, 0, none⟩ [.map (some b)]) (hwf : WfK es c) (hk : es.map (·.1) = ls.map (·.1)) (hB : PutB r es ls v p.2.2.1 B)
    (h1 : InI64 p.1) (h2 : InI64 p.2.1) (hl : p.2.2.1.length ≤ 140737488355328) :
    Con Go.Proofs.Tryz.prog 33 #[.pointer (some ⟨d, 0, none⟩), .agg #[.int .i64 p.1, .int .i64 p.2.1, v]] r [MapK enc2 b es c, B] (Ret fun u η => u = .bool (!fullL ls p) ∧ η = [linksW b (sendL ls p)]) := by
  refine Con.of (n := 31) [.pointer (some ⟨d, 0, none⟩), .agg #[.int .i64 p.1, .int .i64 p.2.1, v]] rfl Go.Proofs.Tryz.func33 rfl rfl rfl fun g hg R hR => ?_
  replace hat : At g.h ⟨d, 0, none⟩ [.map (some b)] := At.mono hg hat
  replace hB := hB.mono hg
  refine S.factS (.there .here) (fun _ x => link_shape (keyP p) (hB _ x).1) fun ⟨a, c0, hsh⟩ => ?_
  replace hsh : (getK es (keyP p)).getD (.slice none 0 0) = .slice a (atL ls (keyP p)).length c0 := hsh
  refine S.seq (S.region rfl ?_)
  refine O.opE (.p rfl) (.box (cs := [_, _, _]) rfl rfl) ?_
  rintro _ _ ⟨b3, rfl, rfl⟩
  refine O.op (.p rfl) (.as rfl) ?_
  refine O.nil ?_
  refine S.seq (S.region rfl ?_)
  refine O.op (.p rfl) (.fieldObj FactNet4.fld35x0 rfl) ?_
  refine O.op (.p rfl) (.loadObj FactNet4.flat3 rfl (by repeat (first | exact Sel.here | apply Sel.there)) rfl) ?_
  refine O.op (.p rfl) (.fieldObj FactNet4.fld35x1 rfl) ?_
  refine O.op (.p rfl) (.loadObj FactNet4.flat3 rfl (by repeat (first | exact Sel.here | apply Sel.there)) rfl) ?_
  refine O.op (.p rfl) (.build2 Go.Proofs.Tryz.underlying62 FactNet4.size3 Go.Proofs.Tryz.zeroValue62 rfl rfl) ?_
  refine O.opE (.p rfl) (.alloc (cs := [.int .i64 0, .int .i64 0]) Go.Proofs.Tryz.zeroValue62 rfl) ?_
  rintro _ _ ⟨b5, rfl, rfl⟩
  refine O.opU rfl (.storeObj (by kernel_rfl) rfl rfl rfl rfl (by repeat (first | exact Sel.here | apply Sel.there)) (by first | (simp; done) | (simp [Value.cells]; done))) ?_
  refine O.nil ?_
  refine S.seq (S.seq ?_)
  refine S.frzO (by repeat (first | exact Sel.here | apply Sel.there)) fun g hs hm h5 => ?_
  replace hg := Fr.sub_trans hg hs
  replace hR := melted hR hm
  try replace hat := hat.mono hs
  try replace hB := hB.mono hs
  clear hs hm
  refine S.frzO (by repeat (first | exact Sel.here | apply Sel.there)) fun g hs hm h3 => ?_
  replace hg := Fr.sub_trans hg hs
  replace hR := melted hR hm
  try replace hat := hat.mono hs
  try replace hB := hB.mono hs
  try replace h5 := h5.mono hs
  clear hs hm
  refine S.regionD (L := [0, 1, 2, 3, 4, 5, 6, 7]) FactNet4.mixed (by kernel_rfl) ?_
  refine .quiet (.p rfl) rfl (fun _ => .mv rfl) ?_
  refine .quiet (.p rfl) rfl (fun _ => .nilCheck rfl) ?_
  refine .quiet (.p rfl) rfl (fun _ => .fieldAddr FactNet4.fld57x0 rfl) ?_
  refine .quiet (.p rfl) rfl (fun _ => .loadAt FactNet4.flat55 rfl hat rfl) ?_
  refine .quiet (.p rfl) rfl (fun _ => .loadAgg Go.Proofs.Tryz.isAgg62 (by kernel_rfl) rfl h5) ?_
  refine OD.slot 15 (v' := enc2 (keyP p)) rfl (by rfl) ?_
  refine OD.doesL (.p rfl) rfl (by kernel_rfl) (fun _ => .lookupK Go.Proofs.Tryz.underlying55 (keyOk2 Go.Proofs.Tryz.underlying62 Go.Proofs.Tryz.underlying3 FactNet4.size3) Go.Proofs.Tryz.zeroValue29 rfl rfl (by repeat (first | exact Sel.here | apply Sel.there))) ?_
  refine OD.slot 16 (v' := .slice a (atL ls (keyP p)).length c0) rfl (by exact hsh) ?_
  refine .quiet (.p rfl) rfl (fun _ => .len rfl Go.Proofs.Tryz.underlying29 rfl) ?_
  refine .quiet (.p rfl) rfl (fun _ => .geq rfl rfl) ?_
  refine .nil ?_
  first | refine S.condD rfl (fun h18 => ?_) (fun h18 => ?_) | refine S.condB rfl (fun h18 => ?_) (fun h18 => ?_)
  · have hf : fullL ls p = true := decide_eq_true (by omega)
    have e : sendL ls p = ls := by rw [sendL, hf]; rfl
    refine S.conv (B := B) (C := EachP linkO es ls) (by repeat (first | exact Sel.here | apply Sel.there)) (fun m x => ⟨m, Fr.sub_refl _, (hB m x).1⟩) ?_
    refine S.linksShut hwf (by repeat (first | exact Sel.here | apply Sel.there)) (by repeat (first | exact Sel.here | apply Sel.there)) ?_
    refine S.seq (S.region rfl ?_)
    refine O.op (.p rfl) (.as rfl) ?_
    refine O.nil ?_
    refine S.ret Go.Proofs.Tryz.results33 rfl fun w hw => Holds.end_ hR hw ?_
    exact ⟨_, ⟨by rw [hf]; rfl, by rw [e]⟩, by repeat (first | exact Picks.all | exact Picks.nil | (apply Picks.cons; focus (repeat (first | exact Sel.here | apply Sel.there))) | apply Picks.skip)⟩
  · have hlt : (atL ls (keyP p)).length < 64 := by omega
    have hf : fullL ls p = false := decide_eq_false (by omega)
    have e : sendL ls p = putA ls (keyP p) (atL ls (keyP p) ++ [p]) := by rw [sendL, hf]; rfl
    refine S.skip (S.seq (S.regionD (L := [0, 1, 2, 3, 4, 5, 6, 7, 8, 9, 11, 10, 12]) FactNet4.mixed (by kernel_rfl) ?_))
    refine .quiet (.p rfl) rfl (fun _ => .mv rfl) ?_
    refine .quiet (.p rfl) rfl (fun _ => .nilCheck rfl) ?_
    refine .quiet (.p rfl) rfl (fun _ => .fieldAddr FactNet4.fld57x0 rfl) ?_
    refine .quiet (.p rfl) rfl (fun _ => .loadAt FactNet4.flat55 rfl hat rfl) ?_
    refine .quiet (.p rfl) rfl (fun _ => .loadAgg Go.Proofs.Tryz.isAgg62 (by kernel_rfl) rfl h5) ?_
    refine OD.slot 23 (v' := enc2 (keyP p)) rfl (by rfl) ?_
    refine .quiet (.p rfl) rfl (fun _ => .loadAgg Go.Proofs.Tryz.isAgg35 (by kernel_rfl) rfl h3) ?_
    refine OD.callS (.p rfl) (by kernel_rfl) rfl FactNet4.ok47 rfl rfl (by repeat (first | exact Sel.here | apply Sel.there)) (own_put (k := keyP p) hB hl hsh) ?_
    rintro v26 _ ⟨a26, c26, css, rfl, hcl, rfl⟩
    try simp only [List.cons_append, List.nil_append, List.append_nil]
    refine OD.litP (T := (Rp.cells 3)) (ys := [_]) (.p rfl) (by kernel_rfl) Go.Proofs.Tryz.underlying29 FactNet4.elem35 (by decide) rfl rfl ⟨⟨rfl, rfl, by first | (simp; done) | (intro v hv; simp [Value.cells] at hv; rcases hv with rfl | rfl <;> rfl) | (refine List.forall_mem_cons.2 ⟨rfl, ?_⟩; repeat (first | exact (fun _ h => absurd h List.not_mem_nil) | refine List.forall_mem_cons.2 ⟨rfl, ?_⟩))⟩, trivial⟩ (by decide) (fun a27 c27 => ?_)
    refine OD.mapEntryK (.p rfl) (by kernel_rfl) Go.Proofs.Tryz.underlying55 (keyOk2 Go.Proofs.Tryz.underlying62 Go.Proofs.Tryz.underlying3 FactNet4.size3) Go.Proofs.Tryz.zeroValue29 rfl rfl (by repeat (first | exact Sel.here | apply Sel.there)) ?_
    refine .quiet (.p rfl) rfl (fun _ => .extract rfl rfl) ?_
    refine OD.slot 24 (v' := .slice a (atL ls (keyP p)).length c0) rfl (by exact hsh) ?_
    refine .quiet (.p rfl) rfl (fun _ => .extract rfl rfl) ?_
    refine OD.appendO (.p rfl) (by kernel_rfl) (T := (Rp.cells 3)) Go.Proofs.Tryz.underlying29 FactNet4.elem35 (by decide) rfl rfl (by repeat (first | exact Sel.here | apply Sel.there)) (by repeat (first | exact Sel.here | apply Sel.there)) (by first | omega | (simp; done) | (simp; omega) | decide) (by first | omega | (simp; done) | (simp; omega) | decide) (fun a29 c29 => ?_)
    refine OD.entryStoreK rfl (by kernel_rfl) (by assumption) rfl rfl rfl (by repeat (first | exact Sel.here | apply Sel.there)) ?_
    refine .nil ?_
    refine S.seq (S.region rfl ?_)
    refine O.op (.p rfl) (.as rfl) ?_
    refine O.nil ?_
    refine S.conv (B := OwnP Rp.u8 5 (.slice a26 p.2.2.1.length c26) p.2.2.1) (C := pktG.own [.int .i64 p.1, .int .i64 p.2.1, .slice a26 p.2.2.1.length c26] p) (by repeat (first | exact Sel.here | apply Sel.there)) (fun m x => ⟨m, Fr.sub_refl _, PktG.mk h1 h2 x⟩) ?_
    refine S.listPut (G := pktG) (k' := 3) rfl (by repeat (first | exact Sel.here | apply Sel.there)) (by repeat (first | exact Sel.here | apply Sel.there)) (by repeat (first | exact Sel.here | apply Sel.there)) ?_
    refine S.linkIn (keyP p) hk c (by repeat (first | exact Sel.here | apply Sel.there)) (by repeat (first | exact Sel.here | apply Sel.there)) ?_
    refine S.linksShut (putK_wf hwf _ _) (by repeat (first | exact Sel.here | apply Sel.there)) (by repeat (first | exact Sel.here | apply Sel.there)) ?_
    refine S.ret Go.Proofs.Tryz.results33 rfl fun w hw => Holds.end_ hR hw ?_
    exact ⟨_, ⟨by rw [hf]; rfl, by rw [e]⟩, by repeat (first | exact Picks.all | exact Picks.nil | (apply Picks.cons; focus (repeat (first | exact Sel.here | apply Sel.there))) | apply Picks.skip)⟩
theorem put_g {r : Fr} {d b : Nat} {ls : NetM} {p : Pkt} {v : Value} (hat : At r ⟨d, 0, none⟩ [.map (some b)]) (ha : Arr Rp.u8 r v p.2.2.1) (h1 : InI64 p.1) (h2 : InI64 p.2.1) (hl : p.2.2.1.length ≤ 140737488355328) :
    Con Go.Proofs.Tryz.prog 33 #[.pointer (some ⟨d, 0, none⟩), .agg #[.int .i64 p.1, .int .i64 p.2.1, v]] r [linksW b ls] (Ret fun u η => u = .bool (!fullL ls p) ∧ η = [linksW b (sendL ls p)]) :=
  Con.links fun _ _ hwf hk => put_o hat hwf hk (fun _ x => ⟨x, .inl ha⟩) h1 h2 hl

end Go.Proofs.YthaebmfgelaleaaGreat
end
