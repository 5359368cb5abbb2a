import Derived.Test.YthaebmfgelaleaaGreatRnet2
open Go Go.Sp
set_option maxRecDepth 100000
attribute [local irreducible] obj Own OwnP
namespace Go.Proofs.YthaebmfgelaleaaGreat
theorem FactRnet3.elem35 : elemIs Go.Proofs.Tryz.prog 35 3 40 [.int .i64 0, .int .i64 0, .slice none 0 0] := elemIs.mk (by kernel_rfl) rfl
theorem FactRnet3.flat29 : Go.Sp.flat1 Go.Proofs.Tryz.prog 29 = true := by kernel_rfl
theorem FactRnet3.fld61x0 : fieldOff Go.Proofs.Tryz.prog 61 0 = some 0 := by kernel_rfl
theorem FactRnet3.mixed : Go.Proofs.Tryz.prog.follows .mixedOrders = true := by kernel_rfl
theorem FactRnet3.ok24 : callable Go.Proofs.Tryz.prog 24 = true := by kernel_rfl
theorem FactRnet3.ok31 : callable Go.Proofs.Tryz.prog 31 = true := by kernel_rfl
theorem FactRnet3.ok34 : callable Go.Proofs.Tryz.prog 34 = true := by kernel_rfl
theorem FactRnet3.size35 : (Go.Proofs.Tryz.prog.info? 35).map (·.size) = some 3 := by kernel_rfl

theorem atL_take_eq {ls : NetM} (o : NInv ls) {k : Int × Int} {j : Nat} (h : j < (atL ls k).length) : atL (takeL ls k j) k = (atL ls k).eraseIdx j := by
  unfold takeL
  split
  · rename_i h1
    rw [atL_del o.nd, if_pos rfl]
    have h2 := List.length_eraseIdx_of_lt h
    exact (List.eq_nil_of_length_eq_zero (by omega)).symm
  · rw [atL_put, if_pos rfl]
theorem atL_take_other {ls : NetM} (o : NInv ls) {k q : Int × Int} {j : Nat} (h : q ≠ k) : atL (takeL ls k j) q = atL ls q := by
  unfold takeL
  split
  · rw [atL_del o.nd, if_neg h]
  · rw [atL_put, if_neg h]
theorem Rel.take {ls : NetM} {row : List Pkt} (o : Rel ls row) {k : Int × Int} {i j : Nat} (hi : i < row.length) (hk : keyP row[i] = k) (hj : ahead row k i = j) : Rel (takeL ls k j) (row.eraseIdx i) := by
  subst hj
  have hlt : ahead row k i < (atL ls k).length := by rw [o.at']; exact (List.getElem?_eq_some_iff.1 (rowAt_get hi hk)).1
  refine ⟨o.inv.take hlt, fun q => ?_⟩
  by_cases e : q = k
  · subst e; rw [atL_take_eq o.inv hlt, o.at', rowAt_erase hi hk]
  · rw [atL_take_other o.inv e, o.at', rowAt_erase_ne hi (fun h => e (h.symm.trans hk))]
theorem place_yes {ls : NetM} {row : List Pkt} (o : Rel ls row) {k : Int × Int} {z v : Int} {j : Nat} (h : PlaceIs row k z v) (hz : z = (j : Int)) (hj : j < (atL ls k).length) : ∃ i, ∃ hi : i < row.length, v = (i : Int) ∧ keyP row[i] = k ∧ ahead row k i = j ∧ row[i] = (atL ls k)[j] := by
  rcases h with ⟨i, hi, h1, h2, h3⟩ | ⟨_, h2⟩
  · have h4 : ahead row k i = j := by omega
    refine ⟨i, hi, h1, h2, h4, ?_⟩
    obtain ⟨h5, h6⟩ := List.getElem?_eq_some_iff.1 (rowAt_get hi h2)
    rw [← h6]
    simp only [h4, o.at']
  · rw [o.at'] at hj
    rw [← ahead_all] at hj
    obtain ⟨i, hi, _, h3, h4⟩ := rowAt_ex row.length row (Nat.le_refl _) hj
    exact absurd (by omega) (h2 i hi h3)
theorem place_no {ls : NetM} {row : List Pkt} (o : Rel ls row) {k : Int × Int} {z v : Int} (h : PlaceIs row k z v) (hz : takeOk ls k z = false) : v = -1 := by
  rcases h with ⟨i, hi, h1, h2, h3⟩ | ⟨h1, _⟩
  · have h4 := (List.getElem?_eq_some_iff.1 (rowAt_get hi h2)).1
    rw [← o.at'] at h4
    unfold takeOk at hz
    rw [decide_eq_true (by omega : 0 ≤ z), decide_eq_true (by omega : z < ((atL ls k).length : Int))] at hz
    cases hz
  · exact h1
theorem rtake_no {r : Fr} {d : Nat} {ls : NetM} {row : List Pkt} {f t z : Int} (hrel : Rel ls row) (hno : takeOk ls (f, t) z = false) :
    Con Go.Proofs.Tryz.prog 11 #[.pointer (some ⟨d, 0, none⟩), .int .i64 f, .int .i64 t, .int .i64 z] r [refW d row] (Ret fun u η => u = .tuple #[.agg #[.int .i64 0, .int .i64 0, .slice none 0 0], .bool false] ∧ η = [refW d row]) := by
  refine Con.of (n := 47) [.pointer (some ⟨d, 0, none⟩), .int .i64 f, .int .i64 t, .int .i64 z] rfl Go.Proofs.Tryz.func11 rfl rfl rfl fun g hg R hR => ?_
  refine S.seq (S.region rfl ?_)
  refine O.opE (.p rfl) (.alloc (cs := [.int .i64 0, .int .i64 0, .slice none 0 0]) Go.Proofs.Tryz.zeroValue35 rfl) ?_
  rintro _ _ ⟨b8, rfl, rfl⟩
  refine O.op (.p rfl) (.as rfl) ?_
  refine O.nil ?_
  refine S.seq (S.region rfl ?_)
  refine O.op (.p rfl) (.mv rfl) ?_
  refine O.op (.p rfl) (.mv rfl) ?_
  refine O.op (.p rfl) (.mv rfl) ?_
  refine O.op (.p rfl) (.mv rfl) ?_
  refine O.callB (.p rfl) rfl FactRnet3.ok31 rfl rfl (bs := [refW d row]) (by repeat (first | exact Sels.nil | (apply Sels.cons; focus (repeat (first | exact Sel.here | apply Sel.there))))) (fun m hm hd => place_c (refR.mono (Fr.sub_add_right hd) (Sat.w1 (B := fun m => refR m d row) refR.mono (fun _ x => x.read) hm))) ?_
  rintro v16 _ ⟨v16, rfl, hv16, rfl⟩
  try simp only [List.cons_append, List.nil_append, List.append_nil]
  obtain rfl := place_no hrel hv16 hno
  refine O.op (.p rfl) (.as rfl) ?_
  refine O.nil ?_
  refine S.seq (S.seq (S.region rfl ?_))
  refine O.op (.p rfl) (.mv rfl) ?_
  refine O.op (.p rfl) (.lss rfl rfl) ?_
  refine O.slot 18 (v' := .bool true) rfl (congrArg Value.bool (by rfl)) ?_
  refine O.nil ?_
  refine S.condT rfl ?_
  refine S.seq (S.region rfl ?_)
  refine O.op (.p rfl) (.build (cs := [_, _, _]) Go.Proofs.Tryz.underlying35 rfl rfl rfl rfl rfl) ?_
  refine O.opU rfl (.storeObj (by kernel_rfl) rfl rfl rfl rfl (by repeat (first | exact Sel.here | apply Sel.there)) (by first | (simp; done) | (simp [Value.cells]; done))) ?_
  refine O.op (.p rfl) (.as rfl) ?_
  refine O.nil ?_
  refine S.retM2 (.inr ⟨_, rfl⟩) .nil Go.Proofs.Tryz.results11 (.agg (cs := [.int .i64 0, .int .i64 0, .slice none 0 0]) Go.Proofs.Tryz.isAgg35 (by kernel_rfl) rfl (by repeat (first | exact Sel.here | apply Sel.there))) (.tmp rfl) fun w hw => ?_
  exact Holds.end_ hR hw ⟨_, ⟨rfl, rfl⟩, by repeat (first | exact Picks.all | exact Picks.nil | (apply Picks.cons; focus (repeat (first | exact Sel.here | apply Sel.there))) | apply Picks.skip)⟩
theorem rtake_yes {r : Fr} {d : Nat} {ls : NetM} {row : List Pkt} {f t z : Int} {j : Nat} (hrel : Rel ls row) (hz : z = (j : Int)) (hj : j < (atL ls (f, t)).length) (hb : row.length ≤ 1000000) :
    Con Go.Proofs.Tryz.prog 11 #[.pointer (some ⟨d, 0, none⟩), .int .i64 f, .int .i64 t, .int .i64 z] r [refW d row]
      (Ret fun u η => ∃ row' ad cd, u = .tuple #[.agg #[.int .i64 (atL ls (f, t))[j].1, .int .i64 (atL ls (f, t))[j].2.1, .slice ad (atL ls (f, t))[j].2.2.1.length cd], .bool true] ∧ Rel (takeL ls (f, t) j) row' ∧ row'.length ≤ row.length ∧ η = [OwnP Rp.u8 5 (.slice ad (atL ls (f, t))[j].2.2.1.length cd) (atL ls (f, t))[j].2.2.1, refW d row']) := by
  refine Con.of (n := 47) [.pointer (some ⟨d, 0, none⟩), .int .i64 f, .int .i64 t, .int .i64 z] rfl Go.Proofs.Tryz.func11 rfl rfl rfl fun g hg R hR => ?_
  refine S.seq (S.region rfl ?_)
  refine O.opE (.p rfl) (.alloc (cs := [.int .i64 0, .int .i64 0, .slice none 0 0]) Go.Proofs.Tryz.zeroValue35 rfl) ?_
  rintro _ _ ⟨b8, rfl, rfl⟩
  refine O.op (.p rfl) (.as rfl) ?_
  refine O.nil ?_
  refine S.seq (S.region rfl ?_)
  refine O.op (.p rfl) (.mv rfl) ?_
  refine O.op (.p rfl) (.mv rfl) ?_
  refine O.op (.p rfl) (.mv rfl) ?_
  refine O.op (.p rfl) (.mv rfl) ?_
  refine O.callB (.p rfl) rfl FactRnet3.ok31 rfl rfl (bs := [refW d row]) (by repeat (first | exact Sels.nil | (apply Sels.cons; focus (repeat (first | exact Sel.here | apply Sel.there))))) (fun m hm hd => place_c (refR.mono (Fr.sub_add_right hd) (Sat.w1 (B := fun m => refR m d row) refR.mono (fun _ x => x.read) hm))) ?_
  rintro v16 _ ⟨v16, rfl, hv16, rfl⟩
  try simp only [List.cons_append, List.nil_append, List.append_nil]
  obtain ⟨i, hi, rfl, hk, hah, hpe⟩ := place_yes hrel hv16 hz hj
  refine O.op (.p rfl) (.as rfl) ?_
  refine O.nil ?_
  refine S.seq (S.seq (S.region rfl ?_))
  refine O.op (.p rfl) (.mv rfl) ?_
  refine O.op (.p rfl) (.lss rfl rfl) ?_
  refine O.slot 18 (v' := .bool false) rfl (congrArg Value.bool (by exact decide_eq_false (by omega))) ?_
  refine O.nil ?_
  refine S.condF rfl ?_
  refine S.skip (S.seq ?_)
  rw [← hpe] at hR
  have hrel2 := hrel.take hi hk hah
  generalize (atL ls (f, t))[j] = p at hpe hR
  refine S.refOpen (by repeat (first | exact Sel.here | apply Sel.there)) fun a c => ?_
  refine S.listOpen (G := pktG) (xs := row) (k' := 3) rfl (by repeat (first | exact Sel.here | apply Sel.there)) fun css hcl => ?_
  have hic : i < css.length := by omega
  refine S.eachAt i hic hi (.there .here) ?_
  refine S.pktOpen .here fun v0 hv0 hI1 hI2 => ?_
  refine S.factS .here (fun _ x => x.shape) fun ⟨av, cv, hvv⟩ => ?_
  subst hvv
  rw [← hcl]
  refine S.sel (A := OwnP (Rp.cells 3) 35 (.slice a css.length c) css) (by repeat (first | exact Sel.here | apply Sel.there)) ?_
  refine S.frzA (by repeat (first | exact Sel.here | apply Sel.there)) fun g hs hm hcells => ?_
  replace hg := Fr.sub_trans hg hs
  replace hR := melted hR hm
  clear hs hm
  have hcell : ∀ h, css[i]'h = [.int .i64 row[i].1, .int .i64 row[i].2.1, .slice av row[i].2.2.1.length cv] := fun _ => hv0
  refine S.region rfl ?_
  refine O.op (.p rfl) (.mv rfl) ?_
  refine O.op (.p rfl) (.nilCheck rfl) ?_
  refine O.op (.p rfl) (.fieldObj FactRnet3.fld61x0 rfl) ?_
  refine O.op (.p rfl) (.loadObj FactRnet3.flat29 rfl (by repeat (first | exact Sel.here | apply Sel.there)) rfl) ?_
  refine O.op (.p rfl) (.mv rfl) ?_
  refine O.idx' (.p rfl) Go.Proofs.Tryz.underlying29 FactRnet3.size35 rfl rfl rfl (hcells) (by decide) (by first | omega | (simp; done) | (simp; omega) | decide) (fun p25 cs25 hp25 hr25 => ?_)
  obtain ⟨e25, _, _⟩ := hr25
  rw [hcell] at e25
  subst e25
  refine O.op (.p rfl) (.loadAgg Go.Proofs.Tryz.isAgg35 (by kernel_rfl) rfl hp25) ?_
  refine O.opE (.p rfl) (.alloc (cs := [.int .i64 0, .int .i64 0, .slice none 0 0]) Go.Proofs.Tryz.zeroValue35 rfl) ?_
  rintro _ _ ⟨b11, rfl, rfl⟩
  refine O.opU rfl (.storeObj (by kernel_rfl) rfl rfl rfl rfl (by repeat (first | exact Sel.here | apply Sel.there)) (by first | (simp; done) | (simp [Value.cells]; done))) ?_
  refine O.nil ?_
  refine S.seq ?_
  have hc_S := hcells
  refine S.frzH (B := obj d 61 [.slice a css.length c]) (by repeat (first | exact Sel.here | apply Sel.there)) fun g0 hs0 ⟨m0, hm0, hsm0⟩ th0 => ?_
  have hz0 := (obj_at hm0).mono hsm0
  replace hcells := hcells.mono hs0
  refine S.regionD (L := [0, 2, 3, 4, 5, 6, 7, 9, 10, 11, 12, 13, 14, 15, 1, 8, 16, 17, 18, 19]) FactRnet3.mixed (by kernel_rfl) ?_
  refine .quiet (.p rfl) rfl (fun _ => .mv rfl) ?_
  refine .quiet (.p rfl) rfl (fun _ => .mv rfl) ?_
  refine .quiet (.p rfl) rfl (fun _ => .nilCheck rfl) ?_
  refine .quiet (.p rfl) rfl (fun _ => .fieldAddr FactRnet3.fld61x0 rfl) ?_
  refine .quiet (.p rfl) rfl (fun _ => .loadAt FactRnet3.flat29 rfl hz0 rfl) ?_
  refine .quiet (.p rfl) rfl (fun _ => .mv rfl) ?_
  refine OD.sliceTo (b := i) (.p rfl) Go.Proofs.Tryz.underlying29 FactRnet3.size35 rfl rfl (by assumption) (by first | omega | (simp; done) | (simp; omega) | decide) (by first | omega | (simp; done) | (simp; omega) | decide) (fun u34 ha34 => ?_)
  obtain ⟨a34, c34, rfl⟩ := ha34.shape
  refine .quiet (.p rfl) rfl (fun _ => .mv rfl) ?_
  refine .quiet (.p rfl) rfl (fun _ => .nilCheck rfl) ?_
  refine .quiet (.p rfl) rfl (fun _ => .fieldAddr FactRnet3.fld61x0 rfl) ?_
  refine .quiet (.p rfl) rfl (fun _ => .loadAt FactRnet3.flat29 rfl hz0 rfl) ?_
  refine .quiet (.p rfl) rfl (fun _ => .mv rfl) ?_
  refine .quiet (.p rfl) rfl (fun _ => .add rfl rfl (IntWalk.i64_in _ (by omega))) ?_
  refine OD.sliceFrom (a := i + 1) (.p rfl) Go.Proofs.Tryz.underlying29 FactRnet3.size35 rfl rfl (by assumption) (by first | omega | (simp; done) | (simp; omega) | decide) (by first | omega | (simp; done) | (simp; omega) | decide) (fun u42 ha42 => ?_)
  obtain ⟨a42, c42, rfl⟩ := ha42.shape
  refine OD.litP (T := (Rp.cells 3)) (ys := []) (.p rfl) (by kernel_rfl) Go.Proofs.Tryz.underlying29 FactRnet3.elem35 (by decide) rfl rfl trivial (by decide) (fun a28 c28 => ?_)
  refine OD.appendP (.p rfl) (by kernel_rfl) (T := (Rp.cells 3)) (pure_cells 3) Go.Proofs.Tryz.underlying29 FactRnet3.elem35 (by decide) rfl rfl (by repeat (first | exact Sel.here | apply Sel.there)) (by first | assumption | exact Arr.mono hg (by assumption) | exact Arr.left (by assumption) | exact Arr.left (Arr.mono hg (by assumption))) (by first | omega | (simp; done) | (simp; omega) | decide) (by first | omega | (simp; done) | (simp; omega) | decide) (fun a35 c35 => ?_)
  refine OD.appendP (.p rfl) (by kernel_rfl) (T := (Rp.cells 3)) (pure_cells 3) Go.Proofs.Tryz.underlying29 FactRnet3.elem35 (by decide) rfl rfl (by repeat (first | exact Sel.here | apply Sel.there)) (by first | assumption | exact Arr.mono hg (by assumption) | exact Arr.left (by assumption) | exact Arr.left (Arr.mono hg (by assumption))) (by first | omega | (simp; done) | (simp; omega) | decide) (by first | omega | (simp; done) | (simp; omega) | decide) (fun a43 c43 => ?_)
  refine .quiet (.p rfl) rfl (fun _ => .nilCheck rfl) ?_
  refine .quiet (.p rfl) rfl (fun _ => .fieldAddr FactRnet3.fld61x0 rfl) ?_
  refine OD.last1 rfl (by kernel_rfl) (fun _ hw => th0 hw) FactRnet3.flat29 rfl rfl (by first | rfl | assumption) (by repeat (first | exact Sel.here | apply Sel.there)) (by first | (simp; done) | (simp; omega)) ?_
  replace hcells := hc_S
  refine S.seq (S.region rfl ?_)
  refine O.op (.p rfl) (.loadObjAgg (news := [_, _, _]) Go.Proofs.Tryz.isAgg35 (by kernel_rfl) rfl (by repeat (first | exact Sel.here | apply Sel.there)) rfl) ?_
  refine O.opU rfl (.storeObj (by kernel_rfl) rfl rfl rfl rfl (by repeat (first | exact Sel.here | apply Sel.there)) (by first | (simp; done) | (simp [Value.cells]; done))) ?_
  refine O.op (.p rfl) (.as rfl) ?_
  refine O.nil ?_
  have hle : (css.take i ++ css.drop (i + 1)) = css.eraseIdx i := (List.eraseIdx_eq_take_drop_succ ..).symm
  have hll : (css.take i).length + (css.drop (i + 1)).length = (row.eraseIdx i).length := by rw [List.length_eraseIdx_of_lt hi, List.length_take, List.length_drop]; omega
  refine S.ownIs (T := Rp.cells 3) (v' := .slice a43 (row.eraseIdx i).length c43) (xs' := css.eraseIdx i) (by repeat (first | exact Sel.here | apply Sel.there)) (by rw [← hll]; simp) (by rw [← hle]; simp) ?_
  refine S.objIs (b := d) (cs' := [.slice a43 (row.eraseIdx i).length c43]) (by repeat (first | exact Sel.here | apply Sel.there)) (by rw [← hll]; simp) ?_
  refine S.listShut (G := pktG) (xs := row.eraseIdx i) (k' := 3) rfl (css := css.eraseIdx i) (by repeat (first | exact Sel.here | apply Sel.there)) (by repeat (first | exact Sel.here | apply Sel.there)) ?_
  refine S.refShut (row := row.eraseIdx i) (a := a43) (c := c43) (by repeat (first | exact Sel.here | apply Sel.there)) (by repeat (first | exact Sel.here | apply Sel.there)) ?_
  refine S.retM2 (.inr ⟨_, rfl⟩) .nil Go.Proofs.Tryz.results11 (.agg (cs := [.int .i64 row[i].1, .int .i64 row[i].2.1, .slice av row[i].2.2.1.length cv]) Go.Proofs.Tryz.isAgg35 (by kernel_rfl) rfl (by repeat (first | exact Sel.here | apply Sel.there))) (.tmp rfl) fun w hw => ?_
  exact Holds.end_ hR hw ⟨_, ⟨row.eraseIdx i, av, cv, rfl, hrel2, by rw [List.length_eraseIdx_of_lt hi]; omega, rfl⟩, by repeat (first | exact Picks.all | exact Picks.nil | (apply Picks.cons; focus (repeat (first | exact Sel.here | apply Sel.there))) | apply Picks.skip)⟩
theorem rtwice_no {r : Fr} {d : Nat} {ls : NetM} {row : List Pkt} {f t z : Int} (hrel : Rel ls row) (hno : takeOk ls (f, t) z = false) :
    Con Go.Proofs.Tryz.prog 14 #[.pointer (some ⟨d, 0, none⟩), .int .i64 f, .int .i64 t, .int .i64 z] r [refW d row] (Ret fun u η => u = .bool false ∧ η = [refW d row]) := by
  refine Con.of (n := 41) [.pointer (some ⟨d, 0, none⟩), .int .i64 f, .int .i64 t, .int .i64 z] rfl Go.Proofs.Tryz.func14 rfl rfl rfl fun g hg R hR => ?_
  refine S.seq (S.region rfl ?_)
  refine O.op (.p rfl) (.as rfl) ?_
  refine O.nil ?_
  refine S.seq (S.region rfl ?_)
  refine O.op (.p rfl) (.mv rfl) ?_
  refine O.op (.p rfl) (.mv rfl) ?_
  refine O.op (.p rfl) (.mv rfl) ?_
  refine O.op (.p rfl) (.mv rfl) ?_
  refine O.callB (.p rfl) rfl FactRnet3.ok31 rfl rfl (bs := [refW d row]) (by repeat (first | exact Sels.nil | (apply Sels.cons; focus (repeat (first | exact Sel.here | apply Sel.there))))) (fun m hm hd => place_c (refR.mono (Fr.sub_add_right hd) (Sat.w1 (B := fun m => refR m d row) refR.mono (fun _ x => x.read) hm))) ?_
  rintro v14 _ ⟨v14, rfl, hv14, rfl⟩
  try simp only [List.cons_append, List.nil_append, List.append_nil]
  obtain rfl := place_no hrel hv14 hno
  refine O.op (.p rfl) (.as rfl) ?_
  refine O.nil ?_
  refine S.seq (S.seq (S.region rfl ?_))
  refine O.op (.p rfl) (.mv rfl) ?_
  refine O.op (.p rfl) (.lss rfl rfl) ?_
  refine O.slot 16 (v' := .bool true) rfl (congrArg Value.bool (by rfl)) ?_
  refine O.op (.p rfl) (.mv rfl) ?_
  refine O.opN rfl rfl rfl ?_
  refine O.opN rfl rfl rfl ?_
  refine O.opN rfl rfl rfl ?_
  refine O.opN rfl rfl rfl ?_
  refine O.opN rfl rfl rfl ?_
  refine O.op (.p rfl) (.pickT rfl rfl) ?_
  refine O.nil ?_
  refine S.condT rfl ?_
  refine S.seq (S.region rfl ?_)
  refine O.op (.p rfl) (.as rfl) ?_
  refine O.nil ?_
  refine S.ret Go.Proofs.Tryz.results14 rfl fun w hw => Holds.end_ hR hw ?_
  exact ⟨_, ⟨rfl, rfl⟩, by repeat (first | exact Picks.all | exact Picks.nil | (apply Picks.cons; focus (repeat (first | exact Sel.here | apply Sel.there))) | apply Picks.skip)⟩
theorem rtwice_yes {r : Fr} {d : Nat} {ls : NetM} {row : List Pkt} {f t z : Int} {j : Nat} (hrel : Rel ls row) (hz : z = (j : Int)) (hj : j < (atL ls (f, t)).length) (hl : (atL ls (f, t))[j].2.2.1.length ≤ 262144) (hb : row.length ≤ 1000000) :
    Con Go.Proofs.Tryz.prog 14 #[.pointer (some ⟨d, 0, none⟩), .int .i64 f, .int .i64 t, .int .i64 z] r [refW d row]
      (Ret fun u η => ∃ row', u = .bool (!fullL ls (atL ls (f, t))[j]) ∧ Rel (sendL ls (atL ls (f, t))[j]) row' ∧ row'.length ≤ row.length + 1 ∧ η = [refW d row']) := by
  have hkj : keyP (atL ls (f, t))[j] = (f, t) := (hrel.inv.key _ _ (List.getElem_mem hj)).1
  have hfe := hrel.full (atL ls (f, t))[j]
  rw [hkj] at hfe
  have hml : (rowAt row (f, t)).length ≤ row.length := List.length_filter_le _ _
  refine Con.of (n := 41) [.pointer (some ⟨d, 0, none⟩), .int .i64 f, .int .i64 t, .int .i64 z] rfl Go.Proofs.Tryz.func14 rfl rfl rfl fun g hg R hR => ?_
  refine S.seq (S.region rfl ?_)
  refine O.op (.p rfl) (.as rfl) ?_
  refine O.nil ?_
  refine S.seq (S.region rfl ?_)
  refine O.op (.p rfl) (.mv rfl) ?_
  refine O.op (.p rfl) (.mv rfl) ?_
  refine O.op (.p rfl) (.mv rfl) ?_
  refine O.op (.p rfl) (.mv rfl) ?_
  refine O.callB (.p rfl) rfl FactRnet3.ok31 rfl rfl (bs := [refW d row]) (by repeat (first | exact Sels.nil | (apply Sels.cons; focus (repeat (first | exact Sel.here | apply Sel.there))))) (fun m hm hd => place_c (refR.mono (Fr.sub_add_right hd) (Sat.w1 (B := fun m => refR m d row) refR.mono (fun _ x => x.read) hm))) ?_
  rintro v14 _ ⟨v14, rfl, hv14, rfl⟩
  try simp only [List.cons_append, List.nil_append, List.append_nil]
  obtain ⟨i, hi, rfl, hk, hah, hpe⟩ := place_yes hrel hv14 hz hj
  refine O.op (.p rfl) (.as rfl) ?_
  refine O.nil ?_
  refine S.seq (S.seq (S.region rfl ?_))
  refine O.op (.p rfl) (.mv rfl) ?_
  refine O.op (.p rfl) (.lss rfl rfl) ?_
  refine O.slot 16 (v' := .bool false) rfl (congrArg Value.bool (by exact decide_eq_false (by omega))) ?_
  refine O.op (.p rfl) (.mv rfl) ?_
  refine O.op (.g rfl rfl) (.mv rfl) ?_
  refine O.op (.g rfl rfl) (.mv rfl) ?_
  refine O.op (.g rfl rfl) (.mv rfl) ?_
  refine O.callB (.g rfl rfl) rfl FactRnet3.ok24 rfl rfl (bs := [refW d row]) (by repeat (first | exact Sels.nil | (apply Sels.cons; focus (repeat (first | exact Sel.here | apply Sel.there))))) (fun m hm hd => rmany_c (refR.mono (Fr.sub_add_right hd) (Sat.w1 (B := fun m => refR m d row) refR.mono (fun _ x => x.read) hm))) ?_
  rintro v21 _ ⟨rfl, rfl⟩
  try simp only [List.cons_append, List.nil_append, List.append_nil]
  refine O.op (.g rfl rfl) (.geq rfl rfl) ?_
  refine O.op (.p rfl) (.pickF rfl rfl) ?_
  refine O.nil ?_
  first | refine S.condD rfl (fun h23 => ?_) (fun h23 => ?_) | refine S.condB rfl (fun h23 => ?_) (fun h23 => ?_)
  · have hf : fullL ls (atL ls (f, t))[j] = true := by rw [hfe]; exact decide_eq_true (by omega)
    have e : sendL ls (atL ls (f, t))[j] = ls := by rw [sendL, hf]; rfl
    refine S.seq (S.region rfl ?_)
    refine O.op (.p rfl) (.as rfl) ?_
    refine O.nil ?_
    refine S.ret Go.Proofs.Tryz.results14 rfl fun w hw => Holds.end_ hR hw ?_
    exact ⟨_, ⟨row, by rw [hf]; rfl, by rw [e]; exact hrel, by omega, rfl⟩, by repeat (first | exact Picks.all | exact Picks.nil | (apply Picks.cons; focus (repeat (first | exact Sel.here | apply Sel.there))) | apply Picks.skip)⟩
  · have hf : fullL ls (atL ls (f, t))[j] = false := by rw [hfe]; exact decide_eq_false (by omega)
    have hrel2 := hrel.send hl hf
    rw [← hpe] at hrel2 hl hR hf
    refine S.refOpen (by repeat (first | exact Sel.here | apply Sel.there)) fun a c => ?_
    refine S.listOpen (G := pktG) (xs := row) (k' := 3) rfl (by repeat (first | exact Sel.here | apply Sel.there)) fun css hcl => ?_
    have hic : i < css.length := by omega
    refine S.eachAt i hic hi (.there .here) ?_
    refine S.pktOpen .here fun v0 hv0 hI1 hI2 => ?_
    refine S.factS .here (fun _ x => x.shape) fun ⟨av, cv, hvv⟩ => ?_
    subst hvv
    rw [← hcl]
    refine S.sel (A := OwnP (Rp.cells 3) 35 (.slice a css.length c) css) (by repeat (first | exact Sel.here | apply Sel.there)) ?_
    refine S.factS .here (fun _ x => x.solid (by omega)) fun ⟨⟨b0, hb0⟩, _, hc1, hc2⟩ => ?_
    subst hb0
    refine S.skip (S.seq ?_)
    refine S.frzH (B := obj d 61 [.slice (some ⟨b0, 0, none⟩) css.length c]) (by repeat (first | exact Sel.here | apply Sel.there)) fun g0 hs0 ⟨m0, hm0, hsm0⟩ th0 => ?_
    have hz0 := (obj_at hm0).mono hsm0
    refine S.regionD (L := [0, 1, 2, 3, 4, 5, 6, 7, 8, 9, 10, 11, 12, 13, 14, 15, 16, 17]) FactRnet3.mixed (by kernel_rfl) ?_
    refine .quiet (.p rfl) rfl (fun _ => .mv rfl) ?_
    refine .quiet (.p rfl) rfl (fun _ => .mv rfl) ?_
    refine .quiet (.p rfl) rfl (fun _ => .nilCheck rfl) ?_
    refine .quiet (.p rfl) rfl (fun _ => .fieldAddr FactRnet3.fld61x0 rfl) ?_
    refine .quiet (.p rfl) rfl (fun _ => .loadAt FactRnet3.flat29 rfl hz0 rfl) ?_
    refine .quiet (.p rfl) rfl (fun _ => .mv rfl) ?_
    refine .quiet (.p rfl) rfl (fun _ => .nilCheck rfl) ?_
    refine .quiet (.p rfl) rfl (fun _ => .fieldAddr FactRnet3.fld61x0 rfl) ?_
    refine .quiet (.p rfl) rfl (fun _ => .loadAt FactRnet3.flat29 rfl hz0 rfl) ?_
    refine .quiet (.p rfl) rfl (fun _ => .mv rfl) ?_
    refine .quiet (.p rfl) rfl (fun _ => .idxV (j := i) Go.Proofs.Tryz.underlying29 FactRnet3.size35 rfl rfl rfl hic) ?_
    refine OD.loadL (.p rfl) (by kernel_rfl) (fun _ => .lend (A := OwnP (Rp.cells 3) 35 (.slice (some ⟨b0, 0, none⟩) css.length c) css) (by repeat (first | exact Sel.here | apply Sel.there)) fun m x hd => .loadAgg (cs := css[i]) Go.Proofs.Tryz.isAgg35 (by rw [hv0]; kernel_rfl) rfl ((x.cellAt hic).mono (Fr.sub_add_right hd))) ?_
    refine OD.slot 35 (v' := .agg #[.int .i64 row[i].1, .int .i64 row[i].2.1, (.slice av row[i].2.2.1.length cv)]) rfl (by exact congrArg (fun z : List Value => Value.agg z.toArray) hv0) ?_
    refine OD.callB (.p rfl) (by kernel_rfl) rfl FactRnet3.ok34 rfl rfl (bs := [OwnP Rp.u8 5 (.slice av row[i].2.2.1.length cv) row[i].2.2.1]) (by repeat (first | exact Sels.nil | (apply Sels.cons; focus (repeat (first | exact Sel.here | apply Sel.there))))) (fun m hm hd => copyPacket_c ((Sat.w1 (B := fun m => Arr Rp.u8 m (.slice av row[i].2.2.1.length cv) row[i].2.2.1) Arr.mono (fun _ x => x.arr) hm).right hd) (by omega)) ?_
    rintro v36 _ ⟨a36, c36, rfl, rfl⟩
    try simp only [List.cons_append, List.nil_append, List.append_nil]
    refine OD.litP (T := (Rp.cells 3)) (ys := [_]) (.p rfl) (by kernel_rfl) Go.Proofs.Tryz.underlying29 FactRnet3.elem35 (by decide) rfl rfl ⟨⟨rfl, rfl, by first | (simp; done) | (intro v hv; simp [Value.cells] at hv; rcases hv with rfl | rfl <;> rfl) | (refine List.forall_mem_cons.2 ⟨rfl, ?_⟩; repeat (first | exact (fun _ h => absurd h List.not_mem_nil) | refine List.forall_mem_cons.2 ⟨rfl, ?_⟩))⟩, trivial⟩ (by decide) (fun a37 c37 => ?_)
    refine OD.appendO (.p rfl) (by kernel_rfl) (T := (Rp.cells 3)) Go.Proofs.Tryz.underlying29 FactRnet3.elem35 (by decide) rfl rfl (by repeat (first | exact Sel.here | apply Sel.there)) (by repeat (first | exact Sel.here | apply Sel.there)) (by first | omega | (simp; done) | (simp; omega) | decide) (by first | omega | (simp; done) | (simp; omega) | decide) (fun a38 c38 => ?_)
    refine .quiet (.p rfl) rfl (fun _ => .nilCheck rfl) ?_
    refine .quiet (.p rfl) rfl (fun _ => .fieldAddr FactRnet3.fld61x0 rfl) ?_
    refine OD.last1 rfl (by kernel_rfl) (fun _ hw => th0 hw) FactRnet3.flat29 rfl rfl (by first | rfl | assumption) (by repeat (first | exact Sel.here | apply Sel.there)) (by first | (simp; done) | (simp; omega)) ?_
    refine S.seq (S.region rfl ?_)
    refine O.op (.p rfl) (.as rfl) ?_
    refine O.nil ?_
    have hcs : (Value.agg #[.int .i64 row[i].1, .int .i64 row[i].2.1, .slice a36 row[i].2.2.1.length c36]).cells.toList = [.int .i64 row[i].1, .int .i64 row[i].2.1, .slice a36 row[i].2.2.1.length c36] := by simp [Value.cells]
    simp only [hcs]
    refine S.conv (B := OwnP Rp.u8 5 (.slice av row[i].2.2.1.length cv) row[i].2.2.1) (C := pktG.own css[i] row[i]) (by repeat (first | exact Sel.here | apply Sel.there)) (fun m x => ⟨m, Fr.sub_refl _, by rw [hv0]; exact PktG.mk hI1 hI2 x⟩) ?_
    refine S.eachPut i hic hi (by repeat (first | exact Sel.here | apply Sel.there)) (by repeat (first | exact Sel.here | apply Sel.there)) ?_
    rw [List.set_getElem_self]
    refine S.conv (B := OwnP Rp.u8 5 (.slice a36 row[i].2.2.1.length c36) row[i].2.2.1) (C := pktG.own [.int .i64 row[i].1, .int .i64 row[i].2.1, .slice a36 row[i].2.2.1.length c36] row[i]) (by repeat (first | exact Sel.here | apply Sel.there)) (fun m x => ⟨m, Fr.sub_refl _, PktG.mk hI1 hI2 x⟩) ?_
    refine S.listPut (G := pktG) (k' := 3) rfl (by repeat (first | exact Sel.here | apply Sel.there)) (by repeat (first | exact Sel.here | apply Sel.there)) (by repeat (first | exact Sel.here | apply Sel.there)) ?_
    have hlr : css.length + 1 = (row ++ [row[i]]).length := by simp; omega
    refine S.objIs (b := d) (cs' := [.slice a38 (row ++ [row[i]]).length c38]) (by repeat (first | exact Sel.here | apply Sel.there)) (by rw [← hlr]; rfl) ?_
    try simp only [List.length_singleton, List.length_cons, List.length_nil, Nat.zero_add]
    rw [hlr]
    refine S.refShut (row := row ++ [row[i]]) (a := a38) (c := c38) (by repeat (first | exact Sel.here | apply Sel.there)) (by repeat (first | exact Sel.here | apply Sel.there)) ?_
    refine S.ret Go.Proofs.Tryz.results14 rfl fun w hw => Holds.end_ hR hw ?_
    exact ⟨_, ⟨row ++ [row[i]], by rw [hf]; rfl, hrel2, by simp, rfl⟩, by repeat (first | exact Picks.all | exact Picks.nil | (apply Picks.cons; focus (repeat (first | exact Sel.here | apply Sel.there))) | apply Picks.skip)⟩

end Go.Proofs.YthaebmfgelaleaaGreat
