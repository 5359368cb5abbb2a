import Derived.Test.YthaebmfgelaleaaNet2
open Go Go.Sp
set_option maxRecDepth 100000
attribute [local irreducible] obj Own OwnP
namespace Go.Proofs.Ythaebmfgelaleaa
theorem FactNet3.flat26 : Go.Sp.flat1 Go.Proofs.Try.prog 26 = true := by kernel_rfl
theorem FactNet3.fld28x0 : fieldOff Go.Proofs.Try.prog 28 0 = some 0 := by kernel_rfl
theorem FactNet3.fld30x0 : fieldOff Go.Proofs.Try.prog 30 0 = some 0 := by kernel_rfl
theorem FactNet3.mixed : Go.Proofs.Try.prog.follows .mixedOrders = true := by kernel_rfl
theorem FactNet3.ok16 : callable Go.Proofs.Try.prog 16 = true := by kernel_rfl
theorem FactNet3.size3 : (Go.Proofs.Try.prog.info? 3).map (·.size) = some 1 := by kernel_rfl

theorem has_g {r : Fr} {d b c n : Nat} {es : List (KEnt (Int × Int))} {k : Int × Int} {i : Int} {a : Option Addr} {c0 : Nat} (hat : At r ⟨d, 0, none⟩ [.map (some b)]) (hsh : (getK es k).getD (.slice none 0 0) = .slice a n c0) :
    Con Go.Proofs.Try.prog 17 #[.pointer (some ⟨d, 0, none⟩), enc2 k, .int .i64 i] r [MapK enc2 b es c] (Ret fun u η => u = .bool (decide (0 ≤ i) && decide (i < (n : Int))) ∧ η = [MapK enc2 b es c]) := by
  refine Con.of (n := 20) [.pointer (some ⟨d, 0, none⟩), enc2 k, .int .i64 i] rfl Go.Proofs.Try.func17 rfl rfl rfl fun g hg R hR => ?_
  replace hat : At g.h ⟨d, 0, none⟩ [.map (some b)] := At.mono hg hat
  refine S.seq (S.region rfl ?_)
  refine O.opE (.p rfl) (.box (cs := [_, _]) rfl rfl) ?_
  rintro _ _ ⟨b4, rfl, rfl⟩
  refine O.op (.p rfl) (.as rfl) ?_
  refine O.nil ?_
  refine S.seq ?_
  refine S.frzO (by repeat (first | exact Sel.here | apply Sel.there)) fun g hs hm h4 => ?_
  replace hg := Fr.sub_trans hg hs
  replace hR := melted hR hm
  try replace hat := hat.mono hs
  clear hs hm
  refine S.regionD (L := [0, 1, 2, 3, 4, 5, 6, 7, 8, 9, 10, 11, 12, 13]) FactNet3.mixed (by kernel_rfl) ?_
  refine .quiet (.p rfl) rfl (fun _ => .mv rfl) ?_
  refine .quiet (.p rfl) rfl (fun _ => .geq rfl rfl) ?_
  refine .quiet (.p rfl) rfl (fun _ => .mv rfl) ?_
  first | refine OD.caseD 9 rfl (fun h9 => ?_) (fun h9 => ?_) | refine OD.caseB 9 rfl (fun h9 => ?_) (fun h9 => ?_)
  · refine .quiet (.g rfl rfl) rfl (fun _ => .mv rfl) ?_
    refine .quiet (.g rfl rfl) rfl (fun _ => .mv rfl) ?_
    refine .quiet (.g rfl rfl) rfl (fun _ => .nilCheck rfl) ?_
    refine .quiet (.g rfl rfl) rfl (fun _ => .fieldAddr FactNet3.fld28x0 rfl) ?_
    refine .quiet (.g rfl rfl) rfl (fun _ => .loadAt FactNet3.flat26 rfl hat rfl) ?_
    refine .quiet (.g rfl rfl) rfl (fun _ => .loadAgg Go.Proofs.Try.isAgg53 (by kernel_rfl) rfl h4) ?_
    refine OD.slot 15 (v' := enc2 k) rfl (by rfl) ?_
    refine OD.doesL (.g rfl rfl) rfl (by kernel_rfl) (fun _ => .lookupK Go.Proofs.Try.underlying26 (keyOk2 Go.Proofs.Try.underlying53 Go.Proofs.Try.underlying3 FactNet3.size3) Go.Proofs.Try.zeroValue47 rfl rfl (by repeat (first | exact Sel.here | apply Sel.there))) ?_
    refine OD.slot 16 (v' := .slice a n c0) rfl (by exact hsh) ?_
    refine .quiet (.g rfl rfl) rfl (fun _ => .len rfl Go.Proofs.Try.underlying47 rfl) ?_
    refine .quiet (.g rfl rfl) rfl (fun _ => .lss rfl rfl) ?_
    refine .quiet (.p rfl) rfl (fun _ => .pickT rfl rfl) ?_
    refine .quiet (.p rfl) rfl (fun _ => .as rfl) ?_
    refine .nil ?_
    refine S.ret Go.Proofs.Try.results17 rfl fun w hw => Holds.end_ hR hw ?_
    exact ⟨_, ⟨by rw [decide_eq_true h9]; rfl, rfl⟩, by repeat (first | exact Picks.all | exact Picks.nil | (apply Picks.cons; focus (repeat (first | exact Sel.here | apply Sel.there))) | apply Picks.skip)⟩
  · refine .no rfl rfl rfl rfl ?_
    refine .no rfl rfl rfl rfl ?_
    refine .no rfl rfl rfl rfl ?_
    refine .no rfl rfl rfl rfl ?_
    refine .no rfl rfl rfl rfl ?_
    refine .no rfl rfl rfl rfl ?_
    refine .no rfl rfl rfl rfl ?_
    refine .no rfl rfl rfl rfl ?_
    refine .no rfl rfl rfl rfl ?_
    refine .quiet (.p rfl) rfl (fun _ => .pickF rfl rfl) ?_
    refine .quiet (.p rfl) rfl (fun _ => .as rfl) ?_
    refine .nil ?_
    refine S.ret Go.Proofs.Try.results17 rfl fun w hw => Holds.end_ hR hw ?_
    exact ⟨_, ⟨by rw [decide_eq_false h9]; rfl, rfl⟩, by repeat (first | exact Picks.all | exact Picks.nil | (apply Picks.cons; focus (repeat (first | exact Sel.here | apply Sel.there))) | apply Picks.skip)⟩
theorem many_g {r : Fr} {d b : Nat} {ls : NetM} {f t : Int} (hat : At r ⟨d, 0, none⟩ [.map (some b)]) :
    Con Go.Proofs.Try.prog 10 #[.pointer (some ⟨d, 0, none⟩), .int .i64 f, .int .i64 t] r [linksW b ls] (Ret fun u η => u = .int .i64 ((atL ls (f, t)).length : Int) ∧ η = [linksW b ls]) := by
  refine Con.of (n := 20) [.pointer (some ⟨d, 0, none⟩), .int .i64 f, .int .i64 t] rfl Go.Proofs.Try.func10 rfl rfl rfl fun g hg R hR => ?_
  replace hat : At g.h ⟨d, 0, none⟩ [.map (some b)] := At.mono hg hat
  refine S.linksOpen .here fun es c hwf hk => ?_
  refine S.linkShape (f, t) (by repeat (first | exact Sel.here | apply Sel.there)) fun a c0 hsh => ?_
  refine S.seq (S.region rfl ?_)
  refine O.op (.p rfl) (.as rfl) ?_
  refine O.nil ?_
  refine S.seq (S.seq (S.region rfl ?_))
  refine O.op (.p rfl) (.mv rfl) ?_
  refine O.call0 (.p rfl) rfl FactNet3.ok16 rfl rfl (known_g (by assumption)) ?_
  rintro v8 _ ⟨rfl, rfl⟩
  try simp only [List.cons_append, List.nil_append, List.append_nil]
  refine O.op (.p rfl) (.not rfl) ?_
  refine O.nil ?_
  refine S.condF rfl ?_
  refine S.skip (S.seq (S.region rfl ?_))
  refine O.op (.p rfl) (.mv rfl) ?_
  refine O.op (.p rfl) (.nilCheck rfl) ?_
  refine O.op (.p rfl) (.fieldAddr FactNet3.fld30x0 rfl) ?_
  refine O.op (.p rfl) (.fieldAddr FactNet3.fld28x0 rfl) ?_
  refine O.op (.p rfl) (.loadAt FactNet3.flat26 rfl hat rfl) ?_
  refine O.op (.p rfl) (.mv rfl) ?_
  refine O.op (.p rfl) (.mv rfl) ?_
  refine O.op (.p rfl) (.build2 Go.Proofs.Try.underlying53 FactNet3.size3 Go.Proofs.Try.zeroValue53 rfl rfl) ?_
  refine O.slot 17 (v' := enc2 (f, t)) rfl (by rfl) ?_
  refine O.op (.p rfl) (.lookupK Go.Proofs.Try.underlying26 (keyOk2 Go.Proofs.Try.underlying53 Go.Proofs.Try.underlying3 FactNet3.size3) Go.Proofs.Try.zeroValue47 rfl rfl (by repeat (first | exact Sel.here | apply Sel.there))) ?_
  refine O.slot 18 (v' := .slice a (atL ls (f, t)).length c0) rfl (by exact hsh) ?_
  refine O.op (.p rfl) (.len rfl Go.Proofs.Try.underlying47 rfl) ?_
  refine O.op (.p rfl) (.as rfl) ?_
  refine O.nil ?_
  refine S.linksShut hwf (by repeat (first | exact Sel.here | apply Sel.there)) (by repeat (first | exact Sel.here | apply Sel.there)) ?_
  refine S.ret Go.Proofs.Try.results10 rfl fun w hw => Holds.end_ hR hw ?_
  exact ⟨_, ⟨rfl, rfl⟩, by repeat (first | exact Picks.all | exact Picks.nil | (apply Picks.cons; focus (repeat (first | exact Sel.here | apply Sel.there))) | apply Picks.skip)⟩
theorem many_0 {r : Fr} {f t : Int} : Con Go.Proofs.Try.prog 10 #[.pointer none, .int .i64 f, .int .i64 t] r [] (Ret fun u η => u = .int .i64 0 ∧ η = []) := by
  refine Con.of (n := 20) [.pointer none, .int .i64 f, .int .i64 t] rfl Go.Proofs.Try.func10 rfl rfl rfl fun g hg R hR => ?_
  refine S.seq (S.region rfl ?_)
  refine O.op (.p rfl) (.as rfl) ?_
  refine O.nil ?_
  refine S.seq (S.seq (S.region rfl ?_))
  refine O.op (.p rfl) (.mv rfl) ?_
  refine O.call0 (.p rfl) rfl FactNet3.ok16 rfl rfl ((known_0)) ?_
  rintro v8 _ ⟨rfl, rfl⟩
  try simp only [List.cons_append, List.nil_append, List.append_nil]
  refine O.op (.p rfl) (.not rfl) ?_
  refine O.nil ?_
  refine S.condT rfl ?_
  refine S.seq (S.region rfl ?_)
  refine O.op (.p rfl) (.as rfl) ?_
  refine O.nil ?_
  refine S.ret Go.Proofs.Try.results10 rfl fun w hw => Holds.end_ hR hw ?_
  exact ⟨_, ⟨rfl, rfl⟩, by repeat (first | exact Picks.all | exact Picks.nil | (apply Picks.cons; focus (repeat (first | exact Sel.here | apply Sel.there))) | apply Picks.skip)⟩
theorem many_n {r : Fr} {d : Nat} {f t : Int} (hat : At r ⟨d, 0, none⟩ [.map none]) : Con Go.Proofs.Try.prog 10 #[.pointer (some ⟨d, 0, none⟩), .int .i64 f, .int .i64 t] r [] (Ret fun u η => u = .int .i64 0 ∧ η = []) := by
  refine Con.of (n := 20) [.pointer (some ⟨d, 0, none⟩), .int .i64 f, .int .i64 t] rfl Go.Proofs.Try.func10 rfl rfl rfl fun g hg R hR => ?_
  replace hat : At g.h ⟨d, 0, none⟩ [.map none] := At.mono hg hat
  refine S.seq (S.region rfl ?_)
  refine O.op (.p rfl) (.as rfl) ?_
  refine O.nil ?_
  refine S.seq (S.seq (S.region rfl ?_))
  refine O.op (.p rfl) (.mv rfl) ?_
  refine O.call0 (.p rfl) rfl FactNet3.ok16 rfl rfl ((known_n hat)) ?_
  rintro v8 _ ⟨rfl, rfl⟩
  try simp only [List.cons_append, List.nil_append, List.append_nil]
  refine O.op (.p rfl) (.not rfl) ?_
  refine O.nil ?_
  refine S.condT rfl ?_
  refine S.seq (S.region rfl ?_)
  refine O.op (.p rfl) (.as rfl) ?_
  refine O.nil ?_
  refine S.ret Go.Proofs.Try.results10 rfl fun w hw => Holds.end_ hR hw ?_
  exact ⟨_, ⟨rfl, rfl⟩, by repeat (first | exact Picks.all | exact Picks.nil | (apply Picks.cons; focus (repeat (first | exact Sel.here | apply Sel.there))) | apply Picks.skip)⟩
/-- is a link full? -/
def fullL (ls : NetM) (p : Pkt) : Bool := decide (64 ≤ (atL ls (keyP p)).length)
def sendL (ls : NetM) (p : Pkt) : NetM := if fullL ls p then ls else putA ls (keyP p) (atL ls (keyP p) ++ [p])
theorem own_put {r : Fr} {a b : Int} {v : Value} {xs : List UInt8} {es : List (KEnt (Int × Int))} {ls : NetM} {k : Int × Int} {ad : Option Addr} {n c0 : Nat} {B : SProp} (hB : ∀ m, B m → EachP linkO es ls m ∧ (Arr Rp.u8 r v xs ∨ Arr Rp.u8 m v xs)) (hl : xs.length ≤ 140737488355328)
    (hsh : (getK es k).getD (.slice none 0 0) = .slice ad n c0) :
    Con Go.Proofs.Try.prog 30 #[.agg #[.int .i64 a, .int .i64 b, v]] r [B] (Ret fun u η => ∃ ad' c' css, u = .agg #[.int .i64 a, .int .i64 b, .slice ad' xs.length c'] ∧ css.length = (atL ls k).length ∧
      η = [OwnP Rp.u8 5 (.slice ad' xs.length c') xs, OwnP (Rp.cells 3) 24 (.slice ad n c0) css, EachP pktG.own css (atL ls k), EachP linkO (delK es k) (delA ls k)]) := by
  have hcon : Con Go.Proofs.Try.prog 30 #[.agg #[.int .i64 a, .int .i64 b, v]] r ([] ++ [B]) (Ret fun u η => ∃ η₁, (∃ ad c, u = .agg #[.int .i64 a, .int .i64 b, .slice ad xs.length c] ∧ η₁ = [OwnP Rp.u8 5 (.slice ad xs.length c) xs]) ∧ η = η₁ ++ [B]) := by
    refine Con.lentW (η := []) (bs := [B]) (fun m hm hd => ?_)
    have hb : Arr Rp.u8 r v xs ∨ Arr Rp.u8 m v xs := by
      obtain ⟨m1, _, _, s1, _, p, _⟩ := hm
      exact (hB m1 p).2.imp id fun q => q.mono s1
    exact pown_c (hb.elim (fun q => q.mono (Fr.sub_add_left _ _)) fun q => q.mono (Fr.sub_add_right hd)) hl
  refine Con.post hcon ?_
  · intro e η' hp w g hw
    cases e with
    | panicked _ => exact hp.elim
    | outgrown => exact hp.elim
    | returned u =>
      obtain ⟨η₁, ⟨ad', c', rfl, rfl⟩, rfl⟩ := hp
      have h1 : Holds w g [OwnP Rp.u8 5 (.slice ad' xs.length c') xs, EachP linkO es ls] := hw.imp fun _ x => Sat.cons_imp (fun _ y => y) (fun _ y => Sat.cons_imp (fun _ z => (hB _ z).1) (fun _ z => z) y) x
      have h2 := h1.sel (.there .here)
      have h3 : Holds w g [ListP pktG 24 (.slice ad n c0) (atL ls k), EachP linkO (delK es k) (delA ls k), OwnP Rp.u8 5 (.slice ad' xs.length c') xs] := h2.imp fun _ x => Sat.part2 (fun _ y => hsh ▸ link_out k y) x
      obtain ⟨css, h4⟩ := Holds.exi (A := fun css m => Sat [OwnP (Rp.cells pktG.rp.k) 24 (.slice ad n c0) css, EachP pktG.own css (atL ls k)] m) h3
      have h5 := h4.imp fun _ x => Sat.part2 (fun _ y => y) x
      have hcl : css.length = (atL ls k).length := by
        obtain ⟨_, _, _, _, _, _, _, _, _, _, _, _, hE, _⟩ := h5.sel (.there .here)
        exact hE.len
      exact ⟨_, ⟨ad', c', css, rfl, hcl, rfl⟩, h5.picks (by repeat (first | exact Picks.all | exact Picks.nil | (apply Picks.cons; focus (repeat (first | exact Sel.here | apply Sel.there))) | apply Picks.skip))⟩

end Go.Proofs.Ythaebmfgelaleaa
