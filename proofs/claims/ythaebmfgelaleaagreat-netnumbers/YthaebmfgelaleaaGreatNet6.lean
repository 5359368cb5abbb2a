import Derived.Test.YthaebmfgelaleaaGreatNet5
open Go Go.Sp
set_option maxRecDepth 100000
attribute [local irreducible] obj Own OwnP
namespace Go.Proofs.YthaebmfgelaleaaGreat
theorem FactNet6.flat55 : Go.Sp.flat1 Go.Proofs.Tryz.prog 55 = true := by kernel_rfl
theorem FactNet6.fld57x0 : fieldOff Go.Proofs.Tryz.prog 57 0 = some 0 := by kernel_rfl
theorem FactNet6.fld59x0 : fieldOff Go.Proofs.Tryz.prog 59 0 = some 0 := by kernel_rfl
theorem FactNet6.mixed : Go.Proofs.Tryz.prog.follows .mixedOrders = true := by kernel_rfl
theorem FactNet6.ok28 : callable Go.Proofs.Tryz.prog 28 = true := by kernel_rfl
theorem FactNet6.ok29 : callable Go.Proofs.Tryz.prog 29 = true := by kernel_rfl
theorem FactNet6.ok30 : callable Go.Proofs.Tryz.prog 30 = true := by kernel_rfl
theorem FactNet6.size3 : (Go.Proofs.Tryz.prog.info? 3).map (·.size) = some 1 := by kernel_rfl
theorem FactNet6.size35 : (Go.Proofs.Tryz.prog.info? 35).map (·.size) = some 3 := by kernel_rfl

def takeOk (ls : NetM) (k : Int × Int) (z : Int) : Bool := decide (0 ≤ z) && decide (z < ((atL ls k).length : Int))
def takeL (ls : NetM) (k : Int × Int) (i : Nat) : NetM := if (atL ls k).length = 1 then delA ls k else putA ls k ((atL ls k).eraseIdx i)
theorem take_no {r : Fr} {d b : Nat} {ls : NetM} {f t z : Int} (hat : At r ⟨d, 0, none⟩ [.map (some b)]) (hno : takeOk ls (f, t) z = false) :
    Con Go.Proofs.Tryz.prog 10 #[.pointer (some ⟨d, 0, none⟩), .int .i64 f, .int .i64 t, .int .i64 z] r [linksW b ls]
      (Ret fun u η => u = .tuple #[.agg #[.int .i64 0, .int .i64 0, .slice none 0 0], .bool false] ∧ η = [linksW b ls]) := by
  refine Con.of (n := 71) [.pointer (some ⟨d, 0, none⟩), .int .i64 f, .int .i64 t, .int .i64 z] rfl Go.Proofs.Tryz.func10 rfl rfl rfl fun g hg R hR => ?_
  replace hat : At g.h ⟨d, 0, none⟩ [.map (some b)] := At.mono hg hat
  refine S.linksOpen .here fun es c hwf hk => ?_
  refine S.linkShape (f, t) (by repeat (first | exact Sel.here | apply Sel.there)) fun a c0 hsh => ?_
  refine S.seq (S.region rfl ?_)
  refine O.opE (.p rfl) (.alloc (cs := [.int .i64 0, .int .i64 0, .slice none 0 0]) Go.Proofs.Tryz.zeroValue35 rfl) ?_
  rintro _ _ ⟨b8, rfl, rfl⟩
  refine O.op (.p rfl) (.as rfl) ?_
  refine O.nil ?_
  refine S.seq (S.region rfl ?_)
  refine O.op (.p rfl) (.mv rfl) ?_
  refine O.op (.p rfl) (.mv rfl) ?_
  refine O.op (.p rfl) (.build2 Go.Proofs.Tryz.underlying62 FactNet6.size3 Go.Proofs.Tryz.zeroValue62 rfl rfl) ?_
  refine O.opE (.p rfl) (.alloc (cs := [.int .i64 0, .int .i64 0]) Go.Proofs.Tryz.zeroValue62 rfl) ?_
  rintro _ _ ⟨b10, rfl, rfl⟩
  refine O.opU rfl (.storeObj (by kernel_rfl) rfl rfl rfl rfl (by repeat (first | exact Sel.here | apply Sel.there)) (by first | (simp; done) | (simp [Value.cells]; done))) ?_
  refine O.nil ?_
  refine S.seq (S.seq ?_)
  refine S.frzO (by repeat (first | exact Sel.here | apply Sel.there)) fun g hs hm h10 => ?_
  replace hg := Fr.sub_trans hg hs
  replace hR := melted hR hm
  try replace hat := hat.mono hs
  clear hs hm
  refine S.regionD (L := [0, 1, 2, 3, 4, 5, 6, 7, 8, 9, 10, 11]) FactNet6.mixed (by kernel_rfl) ?_
  refine .quiet (.p rfl) rfl (fun _ => .mv rfl) ?_
  refine OD.call0 (.p rfl) (by kernel_rfl) rfl FactNet6.ok28 rfl rfl (known_g (by assumption)) ?_
  rintro v16 _ ⟨rfl, rfl⟩
  try simp only [List.cons_append, List.nil_append, List.append_nil]
  refine .quiet (.p rfl) rfl (fun _ => .not rfl) ?_
  refine .quiet (.p rfl) rfl (fun _ => .mv rfl) ?_
  refine .quiet (.g rfl rfl) rfl (fun _ => .mv rfl) ?_
  refine .quiet (.g rfl rfl) rfl (fun _ => .nilCheck rfl) ?_
  refine .quiet (.g rfl rfl) rfl (fun _ => .fieldAddr FactNet6.fld59x0 rfl) ?_
  refine .quiet (.g rfl rfl) rfl (fun _ => .loadAgg Go.Proofs.Tryz.isAgg62 (by kernel_rfl) rfl h10) ?_
  refine OD.slot 22 (v' := enc2 (f, t)) rfl (by rfl) ?_
  refine .quiet (.g rfl rfl) rfl (fun _ => .mv rfl) ?_
  refine OD.callS (.g rfl rfl) (by kernel_rfl) rfl FactNet6.ok29 rfl rfl (by repeat (first | exact Sel.here | apply Sel.there)) (has_g hat hsh) ?_
  rintro v24 _ ⟨rfl, rfl⟩
  try simp only [List.cons_append, List.nil_append, List.append_nil]
  refine OD.slot 24 (v' := .bool false) rfl (congrArg Value.bool (by exact hno)) ?_
  refine .quiet (.g rfl rfl) rfl (fun _ => .not rfl) ?_
  refine .quiet (.p rfl) rfl (fun _ => .pickF rfl rfl) ?_
  refine .nil ?_
  refine S.condT rfl ?_
  refine S.seq (S.region rfl ?_)
  refine O.op (.p rfl) (.build (cs := [_, _, _]) Go.Proofs.Tryz.underlying35 rfl rfl rfl rfl rfl) ?_
  refine O.opU rfl (.storeObj (by kernel_rfl) rfl rfl rfl rfl (by repeat (first | exact Sel.here | apply Sel.there)) (by first | (simp; done) | (simp [Value.cells]; done))) ?_
  refine O.op (.p rfl) (.as rfl) ?_
  refine O.nil ?_
  refine S.linksShut hwf (by repeat (first | exact Sel.here | apply Sel.there)) (by repeat (first | exact Sel.here | apply Sel.there)) ?_
  refine S.retM2 (.inr ⟨_, rfl⟩) .nil Go.Proofs.Tryz.results10 (.agg (cs := [.int .i64 0, .int .i64 0, .slice none 0 0]) Go.Proofs.Tryz.isAgg35 (by kernel_rfl) rfl (by repeat (first | exact Sel.here | apply Sel.there))) (.tmp rfl) fun w hw => ?_
  exact Holds.end_ hR hw ⟨_, ⟨rfl, rfl⟩, by repeat (first | exact Picks.all | exact Picks.nil | (apply Picks.cons; focus (repeat (first | exact Sel.here | apply Sel.there))) | apply Picks.skip)⟩
theorem take_0 {r : Fr} {f t z : Int} : Con Go.Proofs.Tryz.prog 10 #[.pointer none, .int .i64 f, .int .i64 t, .int .i64 z] r [] (Ret fun u η => u = .tuple #[.agg #[.int .i64 0, .int .i64 0, .slice none 0 0], .bool false] ∧ η = []) := by
  refine Con.of (n := 71) [.pointer none, .int .i64 f, .int .i64 t, .int .i64 z] rfl Go.Proofs.Tryz.func10 rfl rfl rfl fun g hg R hR => ?_
  refine S.seq (S.region rfl ?_)
  refine O.opE (.p rfl) (.alloc (cs := [.int .i64 0, .int .i64 0, .slice none 0 0]) Go.Proofs.Tryz.zeroValue35 rfl) ?_
  rintro _ _ ⟨b8, rfl, rfl⟩
  refine O.op (.p rfl) (.as rfl) ?_
  refine O.nil ?_
  refine S.seq (S.region rfl ?_)
  refine O.op (.p rfl) (.mv rfl) ?_
  refine O.op (.p rfl) (.mv rfl) ?_
  refine O.op (.p rfl) (.build2 Go.Proofs.Tryz.underlying62 FactNet6.size3 Go.Proofs.Tryz.zeroValue62 rfl rfl) ?_
  refine O.opE (.p rfl) (.alloc (cs := [.int .i64 0, .int .i64 0]) Go.Proofs.Tryz.zeroValue62 rfl) ?_
  rintro _ _ ⟨b10, rfl, rfl⟩
  refine O.opU rfl (.storeObj (by kernel_rfl) rfl rfl rfl rfl (by repeat (first | exact Sel.here | apply Sel.there)) (by first | (simp; done) | (simp [Value.cells]; done))) ?_
  refine O.nil ?_
  refine S.seq (S.seq (S.regionD (L := [0, 1, 2, 3, 4, 5, 6, 7, 8, 9, 10, 11]) FactNet6.mixed (by kernel_rfl) ?_))
  refine .quiet (.p rfl) rfl (fun _ => .mv rfl) ?_
  refine OD.call0 (.p rfl) (by kernel_rfl) rfl FactNet6.ok28 rfl rfl ((known_0)) ?_
  rintro v16 _ ⟨rfl, rfl⟩
  try simp only [List.cons_append, List.nil_append, List.append_nil]
  refine .quiet (.p rfl) rfl (fun _ => .not rfl) ?_
  refine .quiet (.p rfl) rfl (fun _ => .mv rfl) ?_
  refine .no rfl rfl rfl rfl ?_
  refine .no rfl rfl rfl rfl ?_
  refine .no rfl rfl rfl rfl ?_
  refine .no rfl rfl rfl rfl ?_
  refine .no rfl rfl rfl rfl ?_
  refine .no rfl rfl rfl rfl ?_
  refine .no rfl rfl rfl rfl ?_
  refine .quiet (.p rfl) rfl (fun _ => .pickT rfl rfl) ?_
  refine .nil ?_
  refine S.condT rfl ?_
  refine S.seq (S.region rfl ?_)
  refine O.op (.p rfl) (.build (cs := [_, _, _]) Go.Proofs.Tryz.underlying35 rfl rfl rfl rfl rfl) ?_
  refine O.opU rfl (.storeObj (by kernel_rfl) rfl rfl rfl rfl (by repeat (first | exact Sel.here | apply Sel.there)) (by first | (simp; done) | (simp [Value.cells]; done))) ?_
  refine O.op (.p rfl) (.as rfl) ?_
  refine O.nil ?_
  refine S.retM2 (.inr ⟨_, rfl⟩) .nil Go.Proofs.Tryz.results10 (.agg (cs := [.int .i64 0, .int .i64 0, .slice none 0 0]) Go.Proofs.Tryz.isAgg35 (by kernel_rfl) rfl (by repeat (first | exact Sel.here | apply Sel.there))) (.tmp rfl) fun w hw => ?_
  exact Holds.end_ hR hw ⟨_, ⟨rfl, rfl⟩, by repeat (first | exact Picks.all | exact Picks.nil | (apply Picks.cons; focus (repeat (first | exact Sel.here | apply Sel.there))) | apply Picks.skip)⟩
theorem take_n {r : Fr} {d : Nat} {f t z : Int} (hat : At r ⟨d, 0, none⟩ [.map none]) : Con Go.Proofs.Tryz.prog 10 #[.pointer (some ⟨d, 0, none⟩), .int .i64 f, .int .i64 t, .int .i64 z] r [] (Ret fun u η => u = .tuple #[.agg #[.int .i64 0, .int .i64 0, .slice none 0 0], .bool false] ∧ η = []) := by
  refine Con.of (n := 71) [.pointer (some ⟨d, 0, none⟩), .int .i64 f, .int .i64 t, .int .i64 z] rfl Go.Proofs.Tryz.func10 rfl rfl rfl fun g hg R hR => ?_
  replace hat : At g.h ⟨d, 0, none⟩ [.map none] := At.mono hg hat
  refine S.seq (S.region rfl ?_)
  refine O.opE (.p rfl) (.alloc (cs := [.int .i64 0, .int .i64 0, .slice none 0 0]) Go.Proofs.Tryz.zeroValue35 rfl) ?_
  rintro _ _ ⟨b8, rfl, rfl⟩
  refine O.op (.p rfl) (.as rfl) ?_
  refine O.nil ?_
  refine S.seq (S.region rfl ?_)
  refine O.op (.p rfl) (.mv rfl) ?_
  refine O.op (.p rfl) (.mv rfl) ?_
  refine O.op (.p rfl) (.build2 Go.Proofs.Tryz.underlying62 FactNet6.size3 Go.Proofs.Tryz.zeroValue62 rfl rfl) ?_
  refine O.opE (.p rfl) (.alloc (cs := [.int .i64 0, .int .i64 0]) Go.Proofs.Tryz.zeroValue62 rfl) ?_
  rintro _ _ ⟨b10, rfl, rfl⟩
  refine O.opU rfl (.storeObj (by kernel_rfl) rfl rfl rfl rfl (by repeat (first | exact Sel.here | apply Sel.there)) (by first | (simp; done) | (simp [Value.cells]; done))) ?_
  refine O.nil ?_
  refine S.seq (S.seq (S.regionD (L := [0, 1, 2, 3, 4, 5, 6, 7, 8, 9, 10, 11]) FactNet6.mixed (by kernel_rfl) ?_))
  refine .quiet (.p rfl) rfl (fun _ => .mv rfl) ?_
  refine OD.call0 (.p rfl) (by kernel_rfl) rfl FactNet6.ok28 rfl rfl ((known_n hat)) ?_
  rintro v16 _ ⟨rfl, rfl⟩
  try simp only [List.cons_append, List.nil_append, List.append_nil]
  refine .quiet (.p rfl) rfl (fun _ => .not rfl) ?_
  refine .quiet (.p rfl) rfl (fun _ => .mv rfl) ?_
  refine .no rfl rfl rfl rfl ?_
  refine .no rfl rfl rfl rfl ?_
  refine .no rfl rfl rfl rfl ?_
  refine .no rfl rfl rfl rfl ?_
  refine .no rfl rfl rfl rfl ?_
  refine .no rfl rfl rfl rfl ?_
  refine .no rfl rfl rfl rfl ?_
  refine .quiet (.p rfl) rfl (fun _ => .pickT rfl rfl) ?_
  refine .nil ?_
  refine S.condT rfl ?_
  refine S.seq (S.region rfl ?_)
  refine O.op (.p rfl) (.build (cs := [_, _, _]) Go.Proofs.Tryz.underlying35 rfl rfl rfl rfl rfl) ?_
  refine O.opU rfl (.storeObj (by kernel_rfl) rfl rfl rfl rfl (by repeat (first | exact Sel.here | apply Sel.there)) (by first | (simp; done) | (simp [Value.cells]; done))) ?_
  refine O.op (.p rfl) (.as rfl) ?_
  refine O.nil ?_
  refine S.retM2 (.inr ⟨_, rfl⟩) .nil Go.Proofs.Tryz.results10 (.agg (cs := [.int .i64 0, .int .i64 0, .slice none 0 0]) Go.Proofs.Tryz.isAgg35 (by kernel_rfl) rfl (by repeat (first | exact Sel.here | apply Sel.there))) (.tmp rfl) fun w hw => ?_
  exact Holds.end_ hR hw ⟨_, ⟨rfl, rfl⟩, by repeat (first | exact Picks.all | exact Picks.nil | (apply Picks.cons; focus (repeat (first | exact Sel.here | apply Sel.there))) | apply Picks.skip)⟩
theorem take_yes {r : Fr} {d b : Nat} {ls : NetM} {f t : Int} {i : Nat} (hat : At r ⟨d, 0, none⟩ [.map (some b)]) (hi : i < (atL ls (f, t)).length) :
    Con Go.Proofs.Tryz.prog 10 #[.pointer (some ⟨d, 0, none⟩), .int .i64 f, .int .i64 t, .int .i64 (i : Int)] r [linksW b ls]
      (Ret fun u η => ∃ ad cd, u = .tuple #[.agg #[.int .i64 (atL ls (f, t))[i].1, .int .i64 (atL ls (f, t))[i].2.1, .slice ad (atL ls (f, t))[i].2.2.1.length cd], .bool true] ∧ InI64 (atL ls (f, t))[i].1 ∧ InI64 (atL ls (f, t))[i].2.1 ∧ η = [OwnP Rp.u8 5 (.slice ad (atL ls (f, t))[i].2.2.1.length cd) (atL ls (f, t))[i].2.2.1, linksW b (takeL ls (f, t) i)]) := by
  refine Con.of (n := 71) [.pointer (some ⟨d, 0, none⟩), .int .i64 f, .int .i64 t, .int .i64 (i : Int)] rfl Go.Proofs.Tryz.func10 rfl rfl rfl fun g hg R hR => ?_
  replace hat : At g.h ⟨d, 0, none⟩ [.map (some b)] := At.mono hg hat
  refine S.linksOpen .here fun es c hwf hk => ?_
  have hsome := get_some hk (by omega : 0 < (atL ls (f, t)).length)
  refine S.linkOut (f, t) (by repeat (first | exact Sel.here | apply Sel.there)) ?_
  refine S.ofList (xs := atL ls (f, t)) .here fun a c0 hsh => ?_
  rw [hsh]
  obtain ⟨q, hq⟩ : ∃ q, q = (atL ls (f, t)).length := ⟨_, rfl⟩
  rw [← hq] at hsh ⊢
  refine S.listOpen (G := pktG) (xs := atL ls (f, t)) (k' := 3) rfl .here fun css hcl => ?_
  obtain rfl : q = css.length := hq.trans hcl.symm
  refine S.factS .here (fun _ x => x.solid (by omega)) fun ⟨⟨b0, hb0⟩, _, hc1, hc2⟩ => ?_
  subst hb0
  have hic : i < css.length := by omega
  refine S.eachAt i hic hi (.there .here) ?_
  refine S.pktOpen .here fun v0 hv0 hI1 hI2 => ?_
  refine S.factS .here (fun _ x => x.shape) fun ⟨av, cv, hvv⟩ => ?_
  subst hvv
  refine S.seq (S.region rfl ?_)
  refine O.opE (.p rfl) (.alloc (cs := [.int .i64 0, .int .i64 0, .slice none 0 0]) Go.Proofs.Tryz.zeroValue35 rfl) ?_
  rintro _ _ ⟨b8, rfl, rfl⟩
  refine O.op (.p rfl) (.as rfl) ?_
  refine O.nil ?_
  refine S.seq (S.region rfl ?_)
  refine O.op (.p rfl) (.mv rfl) ?_
  refine O.op (.p rfl) (.mv rfl) ?_
  refine O.op (.p rfl) (.build2 Go.Proofs.Tryz.underlying62 FactNet6.size3 Go.Proofs.Tryz.zeroValue62 rfl rfl) ?_
  refine O.opE (.p rfl) (.alloc (cs := [.int .i64 0, .int .i64 0]) Go.Proofs.Tryz.zeroValue62 rfl) ?_
  rintro _ _ ⟨b10, rfl, rfl⟩
  refine O.opU rfl (.storeObj (by kernel_rfl) rfl rfl rfl rfl (by repeat (first | exact Sel.here | apply Sel.there)) (by first | (simp; done) | (simp [Value.cells]; done))) ?_
  refine O.nil ?_
  refine S.seq (S.seq ?_)
  refine S.frzO (by repeat (first | exact Sel.here | apply Sel.there)) fun g hs hm h10 => ?_
  replace hg := Fr.sub_trans hg hs
  replace hR := melted hR hm
  try replace hat := hat.mono hs
  clear hs hm
  refine S.regionD (L := [0, 1, 2, 3, 4, 5, 6, 7, 8, 9, 10, 11]) FactNet6.mixed (by kernel_rfl) ?_
  refine .quiet (.p rfl) rfl (fun _ => .mv rfl) ?_
  refine OD.call0 (.p rfl) (by kernel_rfl) rfl FactNet6.ok28 rfl rfl (known_g (by assumption)) ?_
  rintro v16 _ ⟨rfl, rfl⟩
  try simp only [List.cons_append, List.nil_append, List.append_nil]
  refine .quiet (.p rfl) rfl (fun _ => .not rfl) ?_
  refine .quiet (.p rfl) rfl (fun _ => .mv rfl) ?_
  refine .quiet (.g rfl rfl) rfl (fun _ => .mv rfl) ?_
  refine .quiet (.g rfl rfl) rfl (fun _ => .nilCheck rfl) ?_
  refine .quiet (.g rfl rfl) rfl (fun _ => .fieldAddr FactNet6.fld59x0 rfl) ?_
  refine .quiet (.g rfl rfl) rfl (fun _ => .loadAgg Go.Proofs.Tryz.isAgg62 (by kernel_rfl) rfl h10) ?_
  refine OD.slot 22 (v' := enc2 (f, t)) rfl (by rfl) ?_
  refine .quiet (.g rfl rfl) rfl (fun _ => .mv rfl) ?_
  refine OD.callS (.g rfl rfl) (by kernel_rfl) rfl FactNet6.ok29 rfl rfl (by repeat (first | exact Sel.here | apply Sel.there)) (has_g hat hsh) ?_
  rintro v24 _ ⟨rfl, rfl⟩
  try simp only [List.cons_append, List.nil_append, List.append_nil]
  refine OD.slot 24 (v' := .bool true) rfl (congrArg Value.bool (by rw [decide_eq_true (by omega : (0 : Int) ≤ i), decide_eq_true (by omega : (i : Int) < css.length)]; rfl)) ?_
  refine .quiet (.g rfl rfl) rfl (fun _ => .not rfl) ?_
  refine .quiet (.p rfl) rfl (fun _ => .pickF rfl rfl) ?_
  refine .nil ?_
  refine S.condF rfl ?_
  refine S.skip (S.seq ?_)
  refine S.regionD (L := [0, 1, 2, 3, 4, 5, 7, 6, 8, 9, 10, 11]) FactNet6.mixed (by kernel_rfl) ?_
  refine .quiet (.p rfl) rfl (fun _ => .mv rfl) ?_
  refine .quiet (.p rfl) rfl (fun _ => .nilCheck rfl) ?_
  refine .quiet (.p rfl) rfl (fun _ => .fieldAddr FactNet6.fld59x0 rfl) ?_
  refine .quiet (.p rfl) rfl (fun _ => .fieldAddr FactNet6.fld57x0 rfl) ?_
  refine .quiet (.p rfl) rfl (fun _ => .loadAt FactNet6.flat55 rfl hat rfl) ?_
  refine .quiet (.p rfl) rfl (fun _ => .loadAgg Go.Proofs.Tryz.isAgg62 (by kernel_rfl) rfl h10) ?_
  refine OD.slot 33 (v' := enc2 (f, t)) rfl (by rfl) ?_
  refine .quiet (.p rfl) rfl (fun _ => .mv rfl) ?_
  refine OD.doesL (.p rfl) rfl (by kernel_rfl) (fun _ => .lookupK Go.Proofs.Tryz.underlying55 (keyOk2 Go.Proofs.Tryz.underlying62 Go.Proofs.Tryz.underlying3 FactNet6.size3) Go.Proofs.Tryz.zeroValue29 rfl rfl (by repeat (first | exact Sel.here | apply Sel.there))) ?_
  refine OD.slot 34 (v' := .slice (some ⟨b0, 0, none⟩) css.length c0) rfl (by exact hsh) ?_
  refine .quiet (.p rfl) rfl (fun _ => .idxV (j := i) Go.Proofs.Tryz.underlying29 FactNet6.size35 rfl rfl rfl hic) ?_
  refine OD.loadL (.p rfl) (by kernel_rfl) (fun _ => .lend (A := OwnP (Rp.cells 3) 35 (.slice (some ⟨b0, 0, none⟩) css.length c0) css) (by repeat (first | exact Sel.here | apply Sel.there)) fun m x hd => .loadAgg (cs := css[i]) Go.Proofs.Tryz.isAgg35 (by rw [hv0]; kernel_rfl) rfl ((x.cellAt hic).mono (Fr.sub_add_right hd))) ?_
  refine OD.slot 37 (v' := .agg #[.int .i64 (atL ls (f, t))[i].1, .int .i64 (atL ls (f, t))[i].2.1, (.slice av (atL ls (f, t))[i].2.2.1.length cv)]) rfl (by exact congrArg (fun z : List Value => Value.agg z.toArray) hv0) ?_
  refine .lazy rfl (by kernel_rfl) rfl fun b11 => ?_
  refine OD.storeObj rfl (by kernel_rfl) (by kernel_rfl) rfl rfl rfl rfl (by repeat (first | exact Sel.here | apply Sel.there)) (by first | (simp; done) | (simp [Value.cells]; done)) ?_
  refine .nil ?_
  refine S.seq (S.regionD (L := [0, 1, 2, 3, 4, 5, 6, 7, 8, 9, 10, 11, 13, 14, 15, 12, 16, 17]) FactNet6.mixed (by kernel_rfl) ?_)
  refine .quiet (.p rfl) rfl (fun _ => .mv rfl) ?_
  refine .quiet (.p rfl) rfl (fun _ => .nilCheck rfl) ?_
  refine .quiet (.p rfl) rfl (fun _ => .fieldAddr FactNet6.fld59x0 rfl) ?_
  refine .quiet (.p rfl) rfl (fun _ => .fieldAddr FactNet6.fld57x0 rfl) ?_
  refine .quiet (.p rfl) rfl (fun _ => .loadAt FactNet6.flat55 rfl hat rfl) ?_
  refine .quiet (.p rfl) rfl (fun _ => .loadAgg Go.Proofs.Tryz.isAgg62 (by kernel_rfl) rfl h10) ?_
  refine OD.slot 43 (v' := enc2 (f, t)) rfl (by rfl) ?_
  refine .quiet (.p rfl) rfl (fun _ => .mv rfl) ?_
  refine .quiet (.p rfl) rfl (fun _ => .nilCheck rfl) ?_
  refine .quiet (.p rfl) rfl (fun _ => .fieldAddr FactNet6.fld59x0 rfl) ?_
  refine .quiet (.p rfl) rfl (fun _ => .fieldAddr FactNet6.fld57x0 rfl) ?_
  refine .quiet (.p rfl) rfl (fun _ => .loadAt FactNet6.flat55 rfl hat rfl) ?_
  refine .quiet (.p rfl) rfl (fun _ => .loadAgg Go.Proofs.Tryz.isAgg62 (by kernel_rfl) rfl h10) ?_
  refine OD.slot 49 (v' := enc2 (f, t)) rfl (by rfl) ?_
  refine .quiet (.p rfl) rfl (fun _ => .mv rfl) ?_
  refine .quiet (.p rfl) rfl (fun _ => .mv rfl) ?_
  refine .quiet (.p rfl) rfl (fun _ => .add rfl rfl (IntWalk.i64_in _ (by omega))) ?_
  refine OD.doesL (.p rfl) rfl (by kernel_rfl) (fun _ => .lookupK Go.Proofs.Tryz.underlying55 (keyOk2 Go.Proofs.Tryz.underlying62 Go.Proofs.Tryz.underlying3 FactNet6.size3) Go.Proofs.Tryz.zeroValue29 rfl rfl (by repeat (first | exact Sel.here | apply Sel.there))) ?_
  refine OD.slot 50 (v' := .slice (some ⟨b0, 0, none⟩) css.length c0) rfl (by exact hsh) ?_
  refine OD.callS (.p rfl) (by kernel_rfl) rfl FactNet6.ok30 rfl rfl (by repeat (first | exact Sel.here | apply Sel.there)) (pdelete_c hic) ?_
  rintro v54 _ ⟨rfl, rfl⟩
  try simp only [List.cons_append, List.nil_append, List.append_nil]
  refine OD.mapUpdateK rfl (by kernel_rfl) Go.Proofs.Tryz.underlying55 (keyOk2 Go.Proofs.Tryz.underlying62 Go.Proofs.Tryz.underlying3 FactNet6.size3) rfl rfl rfl (by repeat (first | exact Sel.here | apply Sel.there)) ?_
  refine .nil ?_
  refine S.seq (S.seq (S.regionD (L := [0, 1, 2, 3, 4, 5, 6, 7, 8]) FactNet6.mixed (by kernel_rfl) ?_))
  refine .quiet (.p rfl) rfl (fun _ => .mv rfl) ?_
  refine .quiet (.p rfl) rfl (fun _ => .nilCheck rfl) ?_
  refine .quiet (.p rfl) rfl (fun _ => .fieldAddr FactNet6.fld59x0 rfl) ?_
  refine .quiet (.p rfl) rfl (fun _ => .fieldAddr FactNet6.fld57x0 rfl) ?_
  refine .quiet (.p rfl) rfl (fun _ => .loadAt FactNet6.flat55 rfl hat rfl) ?_
  refine .quiet (.p rfl) rfl (fun _ => .loadAgg Go.Proofs.Tryz.isAgg62 (by kernel_rfl) rfl h10) ?_
  refine OD.slot 60 (v' := enc2 (f, t)) rfl (by rfl) ?_
  refine OD.doesL (.p rfl) rfl (by kernel_rfl) (fun _ => .lookupK Go.Proofs.Tryz.underlying55 (keyOk2 Go.Proofs.Tryz.underlying62 Go.Proofs.Tryz.underlying3 FactNet6.size3) Go.Proofs.Tryz.zeroValue29 rfl rfl (by repeat (first | exact Sel.here | apply Sel.there))) ?_
  refine OD.slot 61 (v' := .slice (some ⟨b0, 0, none⟩) (css.length - 1) c0) rfl (by rw [getK_put, if_pos rfl]; rfl) ?_
  refine .quiet (.p rfl) rfl (fun _ => .len rfl Go.Proofs.Tryz.underlying29 rfl) ?_
  refine .quiet (.p rfl) rfl (fun _ => .eql rfl rfl) ?_
  refine .nil ?_
  first | refine S.condD rfl (fun h63 => ?_) (fun h63 => ?_) | refine S.condB rfl (fun h63 => ?_) (fun h63 => ?_)
  · have e : takeL ls (f, t) i = delA ls (f, t) := by rw [takeL, if_pos (by omega)]
    rw [e] at hR
    refine S.regionD (L := [0, 1, 2, 3, 4, 5, 6]) FactNet6.mixed (by kernel_rfl) ?_
    refine .quiet (.p rfl) rfl (fun _ => .mv rfl) ?_
    refine .quiet (.p rfl) rfl (fun _ => .nilCheck rfl) ?_
    refine .quiet (.p rfl) rfl (fun _ => .fieldAddr FactNet6.fld59x0 rfl) ?_
    refine .quiet (.p rfl) rfl (fun _ => .fieldAddr FactNet6.fld57x0 rfl) ?_
    refine .quiet (.p rfl) rfl (fun _ => .loadAt FactNet6.flat55 rfl hat rfl) ?_
    refine .quiet (.p rfl) rfl (fun _ => .loadAgg Go.Proofs.Tryz.isAgg62 (by kernel_rfl) rfl h10) ?_
    refine OD.slot 69 (v' := enc2 (f, t)) rfl (by rfl) ?_
    refine OD.deleteK rfl (by kernel_rfl) Go.Proofs.Tryz.underlying55 (keyOk2 Go.Proofs.Tryz.underlying62 Go.Proofs.Tryz.underlying3 FactNet6.size3) rfl rfl (by repeat (first | exact Sel.here | apply Sel.there)) ?_
    refine .nil ?_
    refine S.seq (S.region rfl ?_)
    refine O.op (.p rfl) (.loadObjAgg (news := [_, _, _]) Go.Proofs.Tryz.isAgg35 (by kernel_rfl) rfl (by repeat (first | exact Sel.here | apply Sel.there)) rfl) ?_
    refine O.opU rfl (.storeObj (by kernel_rfl) rfl rfl rfl rfl (by repeat (first | exact Sel.here | apply Sel.there)) (by first | (simp; done) | (simp [Value.cells]; done))) ?_
    refine O.op (.p rfl) (.as rfl) ?_
    refine O.nil ?_
    rw [delK_putK hsome]
    refine S.linksShut (es := delK es (f, t)) (ls := delA ls (f, t)) (by rw [← delK_putK hsome c (.slice (some ⟨b0, 0, none⟩) (css.length - 1) c0)]; exact delK_wf (putK_wf hwf _ _) _) (by repeat (first | exact Sel.here | apply Sel.there)) (by repeat (first | exact Sel.here | apply Sel.there)) ?_
    refine S.retM2 (.inr ⟨_, rfl⟩) .nil Go.Proofs.Tryz.results10 (.agg (cs := [.int .i64 (atL ls (f, t))[i].1, .int .i64 (atL ls (f, t))[i].2.1, (.slice av (atL ls (f, t))[i].2.2.1.length cv)]) Go.Proofs.Tryz.isAgg35 (by kernel_rfl) rfl (by repeat (first | exact Sel.here | apply Sel.there))) (.tmp rfl) fun w hw => ?_
    exact Holds.end_ hR hw ⟨_, ⟨av, cv, rfl, hI1, hI2, rfl⟩, by repeat (first | exact Picks.all | exact Picks.nil | (apply Picks.cons; focus (repeat (first | exact Sel.here | apply Sel.there))) | apply Picks.skip)⟩
  · have e : takeL ls (f, t) i = putA ls (f, t) ((atL ls (f, t)).eraseIdx i) := by rw [takeL, if_neg (by omega)]
    rw [e] at hR
    refine S.skip (S.seq (S.region rfl ?_))
    refine O.op (.p rfl) (.loadObjAgg (news := [_, _, _]) Go.Proofs.Tryz.isAgg35 (by kernel_rfl) rfl (by repeat (first | exact Sel.here | apply Sel.there)) rfl) ?_
    refine O.opU rfl (.storeObj (by kernel_rfl) rfl rfl rfl rfl (by repeat (first | exact Sel.here | apply Sel.there)) (by first | (simp; done) | (simp [Value.cells]; done))) ?_
    refine O.op (.p rfl) (.as rfl) ?_
    refine O.nil ?_
    refine S.listShut (G := pktG) (xs := (atL ls (f, t)).eraseIdx i) (k' := 3) rfl (css := css.eraseIdx i) (by repeat (first | exact Sel.here | apply Sel.there)) (by repeat (first | exact Sel.here | apply Sel.there)) ?_
    refine S.linkIn (f, t) hk c (by repeat (first | exact Sel.here | apply Sel.there)) (by repeat (first | exact Sel.here | apply Sel.there)) ?_
    refine S.linksShut (putK_wf hwf _ _) (by repeat (first | exact Sel.here | apply Sel.there)) (by repeat (first | exact Sel.here | apply Sel.there)) ?_
    refine S.retM2 (.inr ⟨_, rfl⟩) .nil Go.Proofs.Tryz.results10 (.agg (cs := [.int .i64 (atL ls (f, t))[i].1, .int .i64 (atL ls (f, t))[i].2.1, (.slice av (atL ls (f, t))[i].2.2.1.length cv)]) Go.Proofs.Tryz.isAgg35 (by kernel_rfl) rfl (by repeat (first | exact Sel.here | apply Sel.there))) (.tmp rfl) fun w hw => ?_
    exact Holds.end_ hR hw ⟨_, ⟨av, cv, rfl, hI1, hI2, rfl⟩, by repeat (first | exact Picks.all | exact Picks.nil | (apply Picks.cons; focus (repeat (first | exact Sel.here | apply Sel.there))) | apply Picks.skip)⟩

end Go.Proofs.YthaebmfgelaleaaGreat
