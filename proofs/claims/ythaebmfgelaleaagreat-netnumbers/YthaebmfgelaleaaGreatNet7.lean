import Derived.Test.YthaebmfgelaleaaGreatNet6
open Go Go.Sp
set_option maxRecDepth 100000
attribute [local irreducible] obj Own OwnP
namespace Go.Proofs.YthaebmfgelaleaaGreat
theorem FactNet7.flat55 : Go.Sp.flat1 Go.Proofs.Tryz.prog 55 = true := by kernel_rfl
theorem FactNet7.fld57x0 : fieldOff Go.Proofs.Tryz.prog 57 0 = some 0 := by kernel_rfl
theorem FactNet7.fld59x0 : fieldOff Go.Proofs.Tryz.prog 59 0 = some 0 := by kernel_rfl
theorem FactNet7.mixed : Go.Proofs.Tryz.prog.follows .mixedOrders = true := by kernel_rfl
theorem FactNet7.ok28 : callable Go.Proofs.Tryz.prog 28 = true := by kernel_rfl
theorem FactNet7.ok29 : callable Go.Proofs.Tryz.prog 29 = true := by kernel_rfl
theorem FactNet7.ok33 : callable Go.Proofs.Tryz.prog 33 = true := by kernel_rfl
theorem FactNet7.size3 : (Go.Proofs.Tryz.prog.info? 3).map (·.size) = some 1 := by kernel_rfl
theorem FactNet7.size35 : (Go.Proofs.Tryz.prog.info? 35).map (·.size) = some 3 := by kernel_rfl

theorem twice_no {r : Fr} {d b : Nat} {ls : NetM} {f t z : Int} (hat : At r ⟨d, 0, none⟩ [.map (some b)]) (hno : takeOk ls (f, t) z = false) :
    Con Go.Proofs.Tryz.prog 13 #[.pointer (some ⟨d, 0, none⟩), .int .i64 f, .int .i64 t, .int .i64 z] r [linksW b ls] (Ret fun u η => u = .bool false ∧ η = [linksW b ls]) := by
  refine Con.of (n := 39) [.pointer (some ⟨d, 0, none⟩), .int .i64 f, .int .i64 t, .int .i64 z] rfl Go.Proofs.Tryz.func13 rfl rfl rfl fun g hg R hR => ?_
  replace hat : At g.h ⟨d, 0, none⟩ [.map (some b)] := At.mono hg hat
  refine S.linksOpen .here fun es c hwf hk => ?_
  refine S.linkShape (f, t) (by repeat (first | exact Sel.here | apply Sel.there)) fun a c0 hsh => ?_
  refine S.seq (S.region rfl ?_)
  refine O.op (.p rfl) (.as rfl) ?_
  refine O.nil ?_
  refine S.seq (S.region rfl ?_)
  refine O.op (.p rfl) (.mv rfl) ?_
  refine O.op (.p rfl) (.mv rfl) ?_
  refine O.op (.p rfl) (.build2 Go.Proofs.Tryz.underlying62 FactNet7.size3 Go.Proofs.Tryz.zeroValue62 rfl rfl) ?_
  refine O.opE (.p rfl) (.alloc (cs := [.int .i64 0, .int .i64 0]) Go.Proofs.Tryz.zeroValue62 rfl) ?_
  rintro _ _ ⟨b9, rfl, rfl⟩
  refine O.opU rfl (.storeObj (by kernel_rfl) rfl rfl rfl rfl (by repeat (first | exact Sel.here | apply Sel.there)) (by first | (simp; done) | (simp [Value.cells]; done))) ?_
  refine O.nil ?_
  refine S.seq ?_
  refine S.frzO (by repeat (first | exact Sel.here | apply Sel.there)) fun g hs hm h9 => ?_
  replace hg := Fr.sub_trans hg hs
  replace hR := melted hR hm
  try replace hat := hat.mono hs
  clear hs hm
  refine S.regionD (L := [0, 1, 2, 3, 4, 5, 6, 7, 8, 9, 10, 11, 12, 13, 14, 15, 16, 17, 18, 19, 21, 20, 22, 23, 24, 25, 26]) FactNet7.mixed (by kernel_rfl) ?_
  refine .quiet (.p rfl) rfl (fun _ => .mv rfl) ?_
  refine OD.call0 (.p rfl) (by kernel_rfl) rfl FactNet7.ok28 rfl rfl (known_g (by assumption)) ?_
  rintro v14 _ ⟨rfl, rfl⟩
  try simp only [List.cons_append, List.nil_append, List.append_nil]
  refine .quiet (.p rfl) rfl (fun _ => .mv rfl) ?_
  refine .quiet (.g rfl rfl) rfl (fun _ => .mv rfl) ?_
  refine .quiet (.g rfl rfl) rfl (fun _ => .nilCheck rfl) ?_
  refine .quiet (.g rfl rfl) rfl (fun _ => .fieldAddr FactNet7.fld59x0 rfl) ?_
  refine .quiet (.g rfl rfl) rfl (fun _ => .loadAgg Go.Proofs.Tryz.isAgg62 (by kernel_rfl) rfl h9) ?_
  refine OD.slot 19 (v' := enc2 (f, t)) rfl (by rfl) ?_
  refine .quiet (.g rfl rfl) rfl (fun _ => .mv rfl) ?_
  refine OD.callS (.g rfl rfl) (by kernel_rfl) rfl FactNet7.ok29 rfl rfl (by repeat (first | exact Sel.here | apply Sel.there)) (has_g hat hsh) ?_
  rintro v21 _ ⟨rfl, rfl⟩
  try simp only [List.cons_append, List.nil_append, List.append_nil]
  refine OD.slot 21 (v' := .bool false) rfl (congrArg Value.bool (by exact hno)) ?_
  refine .quiet (.p rfl) rfl (fun _ => .pickT rfl rfl) ?_
  refine .quiet (.p rfl) rfl (fun _ => .mv rfl) ?_
  refine .no rfl rfl rfl rfl ?_
  refine .no rfl rfl rfl rfl ?_
  refine .no rfl rfl rfl rfl ?_
  refine .no rfl rfl rfl rfl ?_
  refine .no rfl rfl rfl rfl ?_
  refine .no rfl rfl rfl rfl ?_
  refine .no rfl rfl rfl rfl ?_
  refine .no rfl rfl rfl rfl ?_
  refine .no rfl rfl rfl rfl ?_
  refine .no rfl rfl rfl rfl ?_
  refine .no rfl rfl rfl rfl ?_
  refine .no rfl rfl rfl rfl ?_
  refine .no rfl rfl rfl rfl ?_
  refine .no rfl rfl rfl rfl ?_
  refine .quiet (.p rfl) rfl (fun _ => .pickF rfl rfl) ?_
  refine .quiet (.p rfl) rfl (fun _ => .as rfl) ?_
  refine .nil ?_
  refine S.linksShut hwf (by repeat (first | exact Sel.here | apply Sel.there)) (by repeat (first | exact Sel.here | apply Sel.there)) ?_
  refine S.ret Go.Proofs.Tryz.results13 rfl fun w hw => Holds.end_ hR hw ?_
  exact ⟨_, ⟨rfl, rfl⟩, by repeat (first | exact Picks.all | exact Picks.nil | (apply Picks.cons; focus (repeat (first | exact Sel.here | apply Sel.there))) | apply Picks.skip)⟩
theorem twice_0 {r : Fr} {f t z : Int} : Con Go.Proofs.Tryz.prog 13 #[.pointer none, .int .i64 f, .int .i64 t, .int .i64 z] r [] (Ret fun u η => u = .bool false ∧ η = []) := by
  refine Con.of (n := 39) [.pointer none, .int .i64 f, .int .i64 t, .int .i64 z] rfl Go.Proofs.Tryz.func13 rfl rfl rfl fun g hg R hR => ?_
  refine S.seq (S.region rfl ?_)
  refine O.op (.p rfl) (.as rfl) ?_
  refine O.nil ?_
  refine S.seq (S.region rfl ?_)
  refine O.op (.p rfl) (.mv rfl) ?_
  refine O.op (.p rfl) (.mv rfl) ?_
  refine O.op (.p rfl) (.build2 Go.Proofs.Tryz.underlying62 FactNet7.size3 Go.Proofs.Tryz.zeroValue62 rfl rfl) ?_
  refine O.opE (.p rfl) (.alloc (cs := [.int .i64 0, .int .i64 0]) Go.Proofs.Tryz.zeroValue62 rfl) ?_
  rintro _ _ ⟨b9, rfl, rfl⟩
  refine O.opU rfl (.storeObj (by kernel_rfl) rfl rfl rfl rfl (by repeat (first | exact Sel.here | apply Sel.there)) (by first | (simp; done) | (simp [Value.cells]; done))) ?_
  refine O.nil ?_
  refine S.seq (S.regionD (L := [0, 1, 2, 3, 4, 5, 6, 7, 8, 9, 10, 11, 12, 13, 14, 15, 16, 17, 18, 19, 21, 20, 22, 23, 24, 25, 26]) FactNet7.mixed (by kernel_rfl) ?_)
  refine .quiet (.p rfl) rfl (fun _ => .mv rfl) ?_
  refine OD.call0 (.p rfl) (by kernel_rfl) rfl FactNet7.ok28 rfl rfl ((known_0)) ?_
  rintro v14 _ ⟨rfl, rfl⟩
  try simp only [List.cons_append, List.nil_append, List.append_nil]
  refine .quiet (.p rfl) rfl (fun _ => .mv rfl) ?_
  refine .no rfl rfl rfl rfl ?_
  refine .no rfl rfl rfl rfl ?_
  refine .no rfl rfl rfl rfl ?_
  refine .no rfl rfl rfl rfl ?_
  refine .no rfl rfl rfl rfl ?_
  refine .no rfl rfl rfl rfl ?_
  refine .quiet (.p rfl) rfl (fun _ => .pickF rfl rfl) ?_
  refine .quiet (.p rfl) rfl (fun _ => .mv rfl) ?_
  refine .no rfl rfl rfl rfl ?_
  refine .no rfl rfl rfl rfl ?_
  refine .no rfl rfl rfl rfl ?_
  refine .no rfl rfl rfl rfl ?_
  refine .no rfl rfl rfl rfl ?_
  refine .no rfl rfl rfl rfl ?_
  refine .no rfl rfl rfl rfl ?_
  refine .no rfl rfl rfl rfl ?_
  refine .no rfl rfl rfl rfl ?_
  refine .no rfl rfl rfl rfl ?_
  refine .no rfl rfl rfl rfl ?_
  refine .no rfl rfl rfl rfl ?_
  refine .no rfl rfl rfl rfl ?_
  refine .no rfl rfl rfl rfl ?_
  refine .quiet (.p rfl) rfl (fun _ => .pickF rfl rfl) ?_
  refine .quiet (.p rfl) rfl (fun _ => .as rfl) ?_
  refine .nil ?_
  refine S.ret Go.Proofs.Tryz.results13 rfl fun w hw => Holds.end_ hR hw ?_
  exact ⟨_, ⟨rfl, rfl⟩, by repeat (first | exact Picks.all | exact Picks.nil | (apply Picks.cons; focus (repeat (first | exact Sel.here | apply Sel.there))) | apply Picks.skip)⟩
theorem twice_n {r : Fr} {d : Nat} {f t z : Int} (hat : At r ⟨d, 0, none⟩ [.map none]) : Con Go.Proofs.Tryz.prog 13 #[.pointer (some ⟨d, 0, none⟩), .int .i64 f, .int .i64 t, .int .i64 z] r [] (Ret fun u η => u = .bool false ∧ η = []) := by
  refine Con.of (n := 39) [.pointer (some ⟨d, 0, none⟩), .int .i64 f, .int .i64 t, .int .i64 z] rfl Go.Proofs.Tryz.func13 rfl rfl rfl fun g hg R hR => ?_
  replace hat : At g.h ⟨d, 0, none⟩ [.map none] := At.mono hg hat
  refine S.seq (S.region rfl ?_)
  refine O.op (.p rfl) (.as rfl) ?_
  refine O.nil ?_
  refine S.seq (S.region rfl ?_)
  refine O.op (.p rfl) (.mv rfl) ?_
  refine O.op (.p rfl) (.mv rfl) ?_
  refine O.op (.p rfl) (.build2 Go.Proofs.Tryz.underlying62 FactNet7.size3 Go.Proofs.Tryz.zeroValue62 rfl rfl) ?_
  refine O.opE (.p rfl) (.alloc (cs := [.int .i64 0, .int .i64 0]) Go.Proofs.Tryz.zeroValue62 rfl) ?_
  rintro _ _ ⟨b9, rfl, rfl⟩
  refine O.opU rfl (.storeObj (by kernel_rfl) rfl rfl rfl rfl (by repeat (first | exact Sel.here | apply Sel.there)) (by first | (simp; done) | (simp [Value.cells]; done))) ?_
  refine O.nil ?_
  refine S.seq (S.regionD (L := [0, 1, 2, 3, 4, 5, 6, 7, 8, 9, 10, 11, 12, 13, 14, 15, 16, 17, 18, 19, 21, 20, 22, 23, 24, 25, 26]) FactNet7.mixed (by kernel_rfl) ?_)
  refine .quiet (.p rfl) rfl (fun _ => .mv rfl) ?_
  refine OD.call0 (.p rfl) (by kernel_rfl) rfl FactNet7.ok28 rfl rfl ((known_n hat)) ?_
  rintro v14 _ ⟨rfl, rfl⟩
  try simp only [List.cons_append, List.nil_append, List.append_nil]
  refine .quiet (.p rfl) rfl (fun _ => .mv rfl) ?_
  refine .no rfl rfl rfl rfl ?_
  refine .no rfl rfl rfl rfl ?_
  refine .no rfl rfl rfl rfl ?_
  refine .no rfl rfl rfl rfl ?_
  refine .no rfl rfl rfl rfl ?_
  refine .no rfl rfl rfl rfl ?_
  refine .quiet (.p rfl) rfl (fun _ => .pickF rfl rfl) ?_
  refine .quiet (.p rfl) rfl (fun _ => .mv rfl) ?_
  refine .no rfl rfl rfl rfl ?_
  refine .no rfl rfl rfl rfl ?_
  refine .no rfl rfl rfl rfl ?_
  refine .no rfl rfl rfl rfl ?_
  refine .no rfl rfl rfl rfl ?_
  refine .no rfl rfl rfl rfl ?_
  refine .no rfl rfl rfl rfl ?_
  refine .no rfl rfl rfl rfl ?_
  refine .no rfl rfl rfl rfl ?_
  refine .no rfl rfl rfl rfl ?_
  refine .no rfl rfl rfl rfl ?_
  refine .no rfl rfl rfl rfl ?_
  refine .no rfl rfl rfl rfl ?_
  refine .no rfl rfl rfl rfl ?_
  refine .quiet (.p rfl) rfl (fun _ => .pickF rfl rfl) ?_
  refine .quiet (.p rfl) rfl (fun _ => .as rfl) ?_
  refine .nil ?_
  refine S.ret Go.Proofs.Tryz.results13 rfl fun w hw => Holds.end_ hR hw ?_
  exact ⟨_, ⟨rfl, rfl⟩, by repeat (first | exact Picks.all | exact Picks.nil | (apply Picks.cons; focus (repeat (first | exact Sel.here | apply Sel.there))) | apply Picks.skip)⟩
/-- one packet of a link, where it lies -/
def BvW (es : List (KEnt (Int × Int))) (ls : NetM) (p : Pkt) (q : Addr) (v0 : Value) : SProp := fun m => EachP linkO es ls m ∧ At m q [.int .i64 p.1, .int .i64 p.2.1, v0] ∧ Arr Rp.u8 m v0 p.2.2.1
theorem S.linkElem {ro : Option Nat} {P : Program} {fn : Func} {n : Nat} {R : Ending → World → Prop} {σ : List (Nat × Value)} {D : List Deferred} {g : Gr} {η ζ : List SProp} {todo : List Item} {es : List (KEnt (Int × Int))} {ls : NetM} {k : Int × Int} {i : Nat} (hi : i < (atL ls k).length) (s : Sel η (EachP linkO es ls) ζ)
    (h : ∀ a0 c0 v0, (getK es k).getD (.slice none 0 0) = .slice (some a0) (atL ls k).length c0 → InI64 (atL ls k)[i].1 → InI64 (atL ls k)[i].2.1 → S ro P fn n R todo σ D g (BvW es ls (atL ls k)[i] (a0.add (i * 3)) v0 :: ζ)) : S ro P fn n R todo σ D g η := by
  refine S.sel s (S.imp' (η := EachP linkO es ls :: ζ) (ζ := (fun m => ∃ q : Addr × Nat × Value, (getK es k).getD (.slice none 0 0) = .slice (some q.1) (atL ls k).length q.2.1 ∧ BvW es ls (atL ls k)[i] (q.1.add (i * 3)) q.2.2 m ∧ InI64 (atL ls k)[i].1 ∧ InI64 (atL ls k)[i].2.1) :: ζ) (fun _ => Sat.cons_imp (fun _ x => ?_) fun _ x => x) ?_)
  · obtain ⟨a0, c0, v0, h1, h2, h3⟩ := link_elem x hi
    exact ⟨(a0, c0, v0), h1, h2, h3⟩
  · refine S.exi fun q => ?_
    refine S.factS .here (p := (getK es k).getD (.slice none 0 0) = .slice (some q.1) (atL ls k).length q.2.1 ∧ InI64 (atL ls k)[i].1 ∧ InI64 (atL ls k)[i].2.1) (fun _ x => ⟨x.1, x.2.2⟩) fun ⟨h1, h2, h3⟩ => ?_
    exact S.conv (C := BvW es ls (atL ls k)[i] (q.1.add (i * 3)) q.2.2) .here (fun m x => ⟨m, Fr.sub_refl _, x.2.1⟩) (h _ _ _ h1 h2 h3)
theorem twice_yes {r : Fr} {d b : Nat} {ls : NetM} {f t : Int} {i : Nat} (hat : At r ⟨d, 0, none⟩ [.map (some b)]) (hi : i < (atL ls (f, t)).length) (hl : (atL ls (f, t))[i].2.2.1.length ≤ 262144) :
    Con Go.Proofs.Tryz.prog 13 #[.pointer (some ⟨d, 0, none⟩), .int .i64 f, .int .i64 t, .int .i64 (i : Int)] r [linksW b ls]
      (Ret fun u η => u = .bool (!fullL ls (atL ls (f, t))[i]) ∧ η = [linksW b (sendL ls (atL ls (f, t))[i])]) := by
  refine Con.of (n := 39) [.pointer (some ⟨d, 0, none⟩), .int .i64 f, .int .i64 t, .int .i64 (i : Int)] rfl Go.Proofs.Tryz.func13 rfl rfl rfl fun g hg R hR => ?_
  replace hat : At g.h ⟨d, 0, none⟩ [.map (some b)] := At.mono hg hat
  refine S.linksOpen .here fun es c hwf hk => ?_
  refine S.linkElem (i := i) hi (by repeat (first | exact Sel.here | apply Sel.there)) fun a0 c0 v0 hsh hI1 hI2 => ?_
  have hB : ∀ rr : Fr, PutB rr es ls v0 (atL ls (f, t))[i].2.2.1 (BvW es ls (atL ls (f, t))[i] (a0.add (i * 3)) v0) := fun _ m x => ⟨x.1, .inr x.2.2⟩
  refine S.seq (S.region rfl ?_)
  refine O.op (.p rfl) (.as rfl) ?_
  refine O.nil ?_
  refine S.seq (S.region rfl ?_)
  refine O.op (.p rfl) (.mv rfl) ?_
  refine O.op (.p rfl) (.mv rfl) ?_
  refine O.op (.p rfl) (.build2 Go.Proofs.Tryz.underlying62 FactNet7.size3 Go.Proofs.Tryz.zeroValue62 rfl rfl) ?_
  refine O.opE (.p rfl) (.alloc (cs := [.int .i64 0, .int .i64 0]) Go.Proofs.Tryz.zeroValue62 rfl) ?_
  rintro _ _ ⟨b9, rfl, rfl⟩
  refine O.opU rfl (.storeObj (by kernel_rfl) rfl rfl rfl rfl (by repeat (first | exact Sel.here | apply Sel.there)) (by first | (simp; done) | (simp [Value.cells]; done))) ?_
  refine O.nil ?_
  refine S.seq ?_
  refine S.frzO (by repeat (first | exact Sel.here | apply Sel.there)) fun g hs hm h9 => ?_
  replace hg := Fr.sub_trans hg hs
  replace hR := melted hR hm
  try replace hat := hat.mono hs
  clear hs hm
  refine S.regionD (L := [0, 1, 2, 3, 4, 5, 6, 7, 8, 9, 10, 11, 12, 13, 14, 15, 16, 17, 18, 19, 21, 20, 22, 23, 24, 25, 26]) FactNet7.mixed (by kernel_rfl) ?_
  refine .quiet (.p rfl) rfl (fun _ => .mv rfl) ?_
  refine OD.call0 (.p rfl) (by kernel_rfl) rfl FactNet7.ok28 rfl rfl (known_g (by assumption)) ?_
  rintro v14 _ ⟨rfl, rfl⟩
  try simp only [List.cons_append, List.nil_append, List.append_nil]
  refine .quiet (.p rfl) rfl (fun _ => .mv rfl) ?_
  refine .quiet (.g rfl rfl) rfl (fun _ => .mv rfl) ?_
  refine .quiet (.g rfl rfl) rfl (fun _ => .nilCheck rfl) ?_
  refine .quiet (.g rfl rfl) rfl (fun _ => .fieldAddr FactNet7.fld59x0 rfl) ?_
  refine .quiet (.g rfl rfl) rfl (fun _ => .loadAgg Go.Proofs.Tryz.isAgg62 (by kernel_rfl) rfl h9) ?_
  refine OD.slot 19 (v' := enc2 (f, t)) rfl (by rfl) ?_
  refine .quiet (.g rfl rfl) rfl (fun _ => .mv rfl) ?_
  refine OD.callS (.g rfl rfl) (by kernel_rfl) rfl FactNet7.ok29 rfl rfl (by repeat (first | exact Sel.here | apply Sel.there)) (has_g hat hsh) ?_
  rintro v21 _ ⟨rfl, rfl⟩
  try simp only [List.cons_append, List.nil_append, List.append_nil]
  refine OD.slot 21 (v' := .bool true) rfl (congrArg Value.bool (by rw [decide_eq_true (by omega : (0 : Int) ≤ i), decide_eq_true (by omega : (i : Int) < (atL ls (f, t)).length)]; rfl)) ?_
  refine .quiet (.p rfl) rfl (fun _ => .pickT rfl rfl) ?_
  refine .quiet (.p rfl) rfl (fun _ => .mv rfl) ?_
  refine .quiet (.g rfl rfl) rfl (fun _ => .mv rfl) ?_
  refine .quiet (.g rfl rfl) rfl (fun _ => .nilCheck rfl) ?_
  refine .quiet (.g rfl rfl) rfl (fun _ => .fieldAddr FactNet7.fld59x0 rfl) ?_
  refine .quiet (.g rfl rfl) rfl (fun _ => .mv rfl) ?_
  refine .quiet (.g rfl rfl) rfl (fun _ => .nilCheck rfl) ?_
  refine .quiet (.g rfl rfl) rfl (fun _ => .fieldAddr FactNet7.fld59x0 rfl) ?_
  refine .quiet (.g rfl rfl) rfl (fun _ => .fieldAddr FactNet7.fld57x0 rfl) ?_
  refine .quiet (.g rfl rfl) rfl (fun _ => .loadAt FactNet7.flat55 rfl hat rfl) ?_
  refine .quiet (.g rfl rfl) rfl (fun _ => .loadAgg Go.Proofs.Tryz.isAgg62 (by kernel_rfl) rfl h9) ?_
  refine OD.slot 32 (v' := enc2 (f, t)) rfl (by rfl) ?_
  refine .quiet (.g rfl rfl) rfl (fun _ => .mv rfl) ?_
  refine OD.doesL (.g rfl rfl) rfl (by kernel_rfl) (fun _ => .lookupK Go.Proofs.Tryz.underlying55 (keyOk2 Go.Proofs.Tryz.underlying62 Go.Proofs.Tryz.underlying3 FactNet7.size3) Go.Proofs.Tryz.zeroValue29 rfl rfl (by repeat (first | exact Sel.here | apply Sel.there))) ?_
  refine OD.slot 33 (v' := .slice (some a0) (atL ls (f, t)).length c0) rfl (by exact hsh) ?_
  refine .quiet (.g rfl rfl) rfl (fun _ => .idxV (j := i) Go.Proofs.Tryz.underlying29 FactNet7.size35 rfl rfl rfl hi) ?_
  refine OD.loadL (.g rfl rfl) (by kernel_rfl) (fun _ => .lend (A := BvW es ls (atL ls (f, t))[i] (a0.add (i * 3)) v0) (by repeat (first | exact Sel.here | apply Sel.there)) fun m x hd => .loadAgg (cs := [.int .i64 (atL ls (f, t))[i].1, .int .i64 (atL ls (f, t))[i].2.1, v0]) Go.Proofs.Tryz.isAgg35 (by kernel_rfl) rfl (x.2.1.mono (Fr.sub_add_right hd))) ?_
  refine OD.callSs (.g rfl rfl) (by kernel_rfl) rfl FactNet7.ok33 rfl rfl (by repeat (first | exact Sels.nil | (apply Sels.cons; focus (repeat (first | exact Sel.here | apply Sel.there))))) (put_o hat hwf hk (hB _) hI1 hI2 (by omega)) ?_
  rintro v37 _ ⟨rfl, rfl⟩
  try simp only [List.cons_append, List.nil_append, List.append_nil]
  refine .quiet (.p rfl) rfl (fun _ => .pickT rfl rfl) ?_
  refine .quiet (.p rfl) rfl (fun _ => .as rfl) ?_
  refine .nil ?_
  refine S.ret Go.Proofs.Tryz.results13 rfl fun w hw => Holds.end_ hR hw ?_
  exact ⟨_, ⟨rfl, rfl⟩, by repeat (first | exact Picks.all | exact Picks.nil | (apply Picks.cons; focus (repeat (first | exact Sel.here | apply Sel.there))) | apply Picks.skip)⟩

end Go.Proofs.YthaebmfgelaleaaGreat
