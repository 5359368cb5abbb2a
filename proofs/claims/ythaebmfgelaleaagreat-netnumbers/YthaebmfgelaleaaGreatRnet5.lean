import Derived.Test.YthaebmfgelaleaaGreatRnet4
open Go Go.Sp
set_option maxRecDepth 100000
attribute [local irreducible] obj Own OwnP
namespace Go.Proofs.YthaebmfgelaleaaGreat
theorem FactRnet5.mixed : Go.Proofs.Tryz.prog.follows .mixedOrders = true := by kernel_rfl
theorem FactRnet5.size3 : (Go.Proofs.Tryz.prog.info? 3).map (·.size) = some 1 := by kernel_rfl
theorem FactRnet5.size54 : (Go.Proofs.Tryz.prog.info? 54).map (·.size) = some 2 := by kernel_rfl

theorem sameLinks_c {r : Fr} {va vb : Value} {L : List (Int × Int)} (ha : Arr (Rp.cells 2) r va (L.map cells2)) (hb : Arr (Rp.cells 2) r vb (L.map cells2)) : Con Go.Proofs.Tryz.prog 20 #[va, vb] r [] (Ret fun v η => v = .bool true ∧ η = []) := by
  refine Con.of (n := 26) [va, vb] rfl Go.Proofs.Tryz.func20 rfl rfl rfl fun g hg R hR => ?_
  have ha := ha.mono hg
  have hb := hb.mono hg
  have hbd := ha.bound
  obtain ⟨a1, c1, rfl⟩ := ha.shape
  obtain ⟨a2, c2, rfl⟩ := hb.shape
  refine S.seq (S.region rfl ?_)
  refine O.op (.p rfl) (.as rfl) ?_
  refine O.nil ?_
  refine S.seq (S.seq (S.region rfl ?_))
  refine O.op (.p rfl) (.mv rfl) ?_
  refine O.op (.p rfl) (.len rfl Go.Proofs.Tryz.underlying47 rfl) ?_
  refine O.op (.p rfl) (.mv rfl) ?_
  refine O.op (.p rfl) (.len rfl Go.Proofs.Tryz.underlying47 rfl) ?_
  refine O.op (.p rfl) (.neq rfl rfl) ?_
  refine O.slot 10 (v' := .bool false) rfl (congrArg Value.bool (by simp)) ?_
  refine O.nil ?_
  refine S.condF rfl ?_
  refine S.skip (S.seq (S.seq (S.region rfl ?_)))
  refine O.op (.p rfl) (.as rfl) ?_
  refine O.nil ?_
  refine S.block ?_
  refine S.loopK (ι := Nat) (fun i => i ≤ (L.map cells2).length) (fun i => [(5, .int .i64 (i : Int))]) [(0, _), (1, _)] (fun i => []) (fun i => (L.map cells2).length - i) (0) (by exact Nat.zero_le _) (.cons rfl (.nil)) (.cons rfl (.cons rfl (.nil))) rfl fun i hx ih => ?_
  have hm1 := meltRefl (g := g)
  refine S.seq (S.seq (S.region rfl ?_))
  refine O.op (.p rfl) (.mv rfl) ?_
  refine O.op (.p rfl) (.mv rfl) ?_
  refine O.op (.p rfl) (.len rfl Go.Proofs.Tryz.underlying47 rfl) ?_
  refine O.op (.p rfl) (.lss rfl rfl) ?_
  refine O.nil ?_
  first | refine S.condD rfl (fun h14 => ?_) (fun h14 => ?_) | refine S.condB rfl (fun h14 => ?_) (fun h14 => ?_)
  · have hi : i < L.length := by rw [List.length_map] at *; omega
    have hcell : ∀ h, (L.map cells2)[i]'h = [.int .i64 L[i].1, .int .i64 L[i].2] := fun h => by rw [List.getElem_map]; rfl
    refine S.skip (S.seq (S.block (S.seq (S.regionD (L := [0, 1, 2, 3, 4, 5, 6, 7, 8]) FactRnet5.mixed (by kernel_rfl) ?_))))
    refine .quiet (.p rfl) rfl (fun _ => .mv rfl) ?_
    refine .quiet (.p rfl) rfl (fun _ => .mv rfl) ?_
    refine OD.idx' (.p rfl) Go.Proofs.Tryz.underlying47 FactRnet5.size54 rfl rfl rfl (ha) (by decide) (by first | omega | (simp; done) | (simp; omega) | decide) (fun p19 cs19 hp19 hr19 => ?_)
    obtain ⟨e19, _, _⟩ := hr19
    rw [hcell] at e19
    subst e19
    refine .quiet (.p rfl) rfl (fun _ => .loadAgg Go.Proofs.Tryz.isAgg54 (by kernel_rfl) rfl hp19) ?_
    refine .quiet (.p rfl) rfl (fun _ => .mv rfl) ?_
    refine .quiet (.p rfl) rfl (fun _ => .mv rfl) ?_
    refine OD.idx' (.p rfl) Go.Proofs.Tryz.underlying47 FactRnet5.size54 rfl rfl rfl (hb) (by decide) (by first | omega | (simp; done) | (simp; omega) | decide) (fun p23 cs23 hp23 hr23 => ?_)
    obtain ⟨e23, _, _⟩ := hr23
    rw [hcell] at e23
    subst e23
    refine .quiet (.p rfl) rfl (fun _ => .loadAgg Go.Proofs.Tryz.isAgg54 (by kernel_rfl) rfl hp23) ?_
    refine .quiet (.p rfl) rfl (fun _ => .neq2 Go.Proofs.Tryz.underlying54 Go.Proofs.Tryz.underlying3 FactRnet5.size3 (by kernel_rfl) rfl rfl) ?_
    refine OD.slot 25 (v' := .bool false) rfl (congrArg Value.bool (by simp)) ?_
    refine .nil ?_
    refine S.condF rfl ?_
    refine S.skip (S.inBlock (S.region rfl ?_))
    refine O.op (.p rfl) (.mv rfl) ?_
    refine O.op (.p rfl) (.add rfl rfl (IntWalk.i64_in _ (by omega))) ?_
    refine O.op (.p rfl) (.as rfl) ?_
    refine O.nil ?_
    refine S.weaken ?_ (ih (i + 1) (by omega) (by omega))
    repeat (first | exact Sub.nil | refine Sub.cons rfl ?_)
  · clear ih
    refine S.exit rfl ?_
    refine S.seq (S.region rfl ?_)
    refine O.op (.p rfl) (.as rfl) ?_
    refine O.nil ?_
    refine S.ret Go.Proofs.Tryz.results20 rfl fun w hw => Holds.end_ hR hw ?_
    exact ⟨_, ⟨rfl, rfl⟩, by repeat (first | exact Picks.all | exact Picks.nil | (apply Picks.cons; focus (repeat (first | exact Sel.here | apply Sel.there))) | apply Picks.skip)⟩
theorem send_l {r : Fr} {d b : Nat} {ls : NetM} {ps : List Pkt} {va : Value} (hat : At r ⟨d, 0, none⟩ [.map (some b)]) :
    Con Go.Proofs.Tryz.prog 16 #[.pointer (some ⟨d, 0, none⟩), va] r [linksW b ls, LentKP va ps] (Ret fun u η => u = .int .i64 (sendE ls ps) ∧ η = [linksW b (sendM ls ps), LentKP va ps]) := by
  have hcon : Con Go.Proofs.Tryz.prog 16 #[.pointer (some ⟨d, 0, none⟩), va] r ([linksW b ls] ++ [LentKP va ps]) (Ret fun u η => ∃ η₁, (u = .int .i64 (sendE ls ps) ∧ η₁ = [linksW b (sendM ls ps)]) ∧ η = η₁ ++ [LentKP va ps]) :=
    Con.lentW (η := [linksW b ls]) (bs := [LentKP va ps]) fun m hm hd => send_g (hat.mono (Fr.sub_add_left _ _)) (LentKL.arr (LentKL.mono (Fr.sub_add_right hd) (Sat.w1 (B := fun m => LentKL m va ps) LentKL.mono (fun _ x => x.read) hm)))
  exact hcon.mono (Ret.imp fun u η ⟨η₁, ⟨h1, h2⟩, h3⟩ => ⟨h1, by rw [h3, h2]; rfl⟩)
theorem allP_send_le (ls : NetM) (p : Pkt) : (allP (sendL ls p)).length ≤ (allP ls).length + 1 := by
  cases hf : fullL ls p with
  | true => have e : sendL ls p = ls := by rw [sendL, hf]; rfl
            rw [e]; omega
  | false => have := (allP_send hf).length_eq; rw [List.length_cons] at this; omega
theorem allP_sends_le : ∀ (ps : List Pkt) (ls : NetM), (allP (sendsL ls ps)).length ≤ (allP ls).length + ps.length
  | [], ls => by simp [sendsL]
  | p :: ps, ls => by
    have h1 := allP_sends_le ps (sendL ls p)
    have h2 := allP_send_le ls p
    have e : sendsL ls (p :: ps) = sendsL (sendL ls p) ps := rfl
    rw [e, List.length_cons]; omega
theorem allP_sendM_le (ps : List Pkt) (ls : NetM) : (allP (sendM ls ps)).length ≤ (allP ls).length + ps.length := by
  unfold sendM
  split
  · omega
  · exact allP_sends_le ps ls
theorem wL_take (l : List DoT) (i : Nat) : wL (l.take i) ≤ wL l := by
  conv => rhs; rw [← List.take_append_drop i l]
  unfold wL
  rw [List.map_append, List.sum_append]; omega
theorem wP_mem {ps : List Pkt} {p : Pkt} (h : p ∈ ps) : p.2.2.1.length / 16 ≤ wP ps := by
  unfold wP
  induction ps with
  | nil => cases h
  | cons q ps ih =>
    rw [List.map_cons, List.sum_cons]
    rcases List.mem_cons.1 h with rfl | h
    · omega
    · have := ih h; omega
theorem wL_mem {l : List DoT} {d : DoT} (h : d ∈ l) : wD d ≤ wL l := by
  unfold wL
  induction l with
  | nil => cases h
  | cons q l ih =>
    rw [List.map_cons, List.sum_cons]
    rcases List.mem_cons.1 h with rfl | h
    · omega
    · have := ih h; omega
theorem SmallD.bytes {l : List DoT} (h : SmallD l) {d : DoT} (hd : d ∈ l) {p : Pkt} (hp : p ∈ d.2.2.2.2.1) : p.2.2.1.length ≤ 6415 := by
  have h1 := wL_mem hd
  have h2 := wP_mem (ps := d.L) hp
  unfold SmallD at h
  unfold wD at h1
  omega
theorem SmallD.len {l : List DoT} (h : SmallD l) {d : DoT} (hd : d ∈ l) : d.2.2.2.2.1.length ≤ 400 := by
  have h1 := wL_mem hd
  unfold SmallD at h
  unfold wD DoT.L at h1
  omega
/-- what holds while a life goes on -/
structure LiveI (l : List DoT) (i : Nat) (ls : NetM) (row told : List Pkt) : Prop where
  rel : Rel ls row
  room : (allP ls).length ≤ i + wL (l.take i)
  rows : row.length ≤ i + wL (l.take i)
  tl : told.length ≤ i
  tb : ∀ p ∈ told, p.2.2.1.length ≤ 262144
theorem LiveI.nil (l : List DoT) : LiveI l 0 [] [] [] := ⟨.nil, by simp [allP], by simp, by simp, by simp⟩
theorem LiveI.small {l : List DoT} {i : Nat} {ls : NetM} {row told : List Pkt} (o : LiveI l i ls row told) (hi : i ≤ l.length) (hs : SmallD l) : (allP ls).length ≤ 400 ∧ ls.length ≤ 400 ∧ row.length ≤ 400 ∧ told.length ≤ 400 := by
  have h1 := o.room
  have h2 := wL_take l i
  have h3 := o.rel.inv.len
  have h4 := o.rows
  have h5 := o.tl
  unfold SmallD at hs
  omega
theorem wL_step {l : List DoT} {i : Nat} (h : i < l.length) : wL (l.take (i + 1)) = wL (l.take i) + l[i].2.2.2.2.1.length + wP l[i].2.2.2.2.1 := by
  rw [List.take_succ_eq_append_getElem h, wL_snoc, wD, Nat.add_assoc]
theorem LiveI.none {l : List DoT} {i : Nat} {ls : NetM} {row told : List Pkt} (o : LiveI l i ls row told) (h : i < l.length) : LiveI l (i + 1) ls row told := by
  have h1 := wL_step h
  exact ⟨o.rel, by have := o.room; omega, by have := o.rows; omega, by have := o.tl; omega, o.tb⟩
theorem LiveI.taken {l : List DoT} {i : Nat} {ls ls' : NetM} {row row' told : List Pkt} (o : LiveI l i ls row told) (h : i < l.length) (hr : Rel ls' row') (h1 : (allP ls').length ≤ (allP ls).length) (h2 : row'.length ≤ row.length) {p : Pkt} (hp : p.2.2.1.length ≤ 262144) : LiveI l (i + 1) ls' row' (told ++ [p]) := by
  have h3 := wL_step h
  refine ⟨hr, by have := o.room; omega, by have := o.rows; omega, by have := o.tl; rw [List.length_append, List.length_singleton]; omega, fun q hq => ?_⟩
  rcases List.mem_append.1 hq with h | h
  · exact o.tb q h
  · rw [List.mem_singleton.1 h]; exact hp
theorem LiveI.twice {l : List DoT} {i : Nat} {ls ls' : NetM} {row row' told : List Pkt} (o : LiveI l i ls row told) (h : i < l.length) (hr : Rel ls' row') (h1 : (allP ls').length ≤ (allP ls).length + 1) (h2 : row'.length ≤ row.length + 1) : LiveI l (i + 1) ls' row' told := by
  have h3 := wL_step h
  exact ⟨hr, by have := o.room; omega, by have := o.rows; omega, by have := o.tl; omega, o.tb⟩
theorem LiveI.sent {l : List DoT} {i : Nat} {ls ls' : NetM} {row row' told : List Pkt} (o : LiveI l i ls row told) (h : i < l.length) (hr : Rel ls' row') (h1 : (allP ls').length ≤ (allP ls).length + l[i].2.2.2.2.1.length) (h2 : row'.length ≤ row.length + l[i].2.2.2.2.1.length) : LiveI l (i + 1) ls' row' told := by
  have h3 := wL_step h
  exact ⟨hr, by have := o.room; omega, by have := o.rows; omega, by have := o.tl; omega, o.tb⟩
theorem takeOk_yes {ls : NetM} {k : Int × Int} {z : Int} (h : takeOk ls k z = true) : ∃ j : Nat, z = (j : Int) ∧ j < (atL ls k).length := by
  unfold takeOk at h
  simp only [Bool.and_eq_true, decide_eq_true_eq] at h
  exact ⟨z.toNat, by omega, by omega⟩
theorem take_yes' {r : Fr} {d b : Nat} {ls : NetM} {f t z : Int} {i : Nat} (hz : z = (i : Int)) (hat : At r ⟨d, 0, none⟩ [.map (some b)]) (hi : i < (atL ls (f, t)).length) :
    Con Go.Proofs.Tryz.prog 10 #[.pointer (some ⟨d, 0, none⟩), .int .i64 f, .int .i64 t, .int .i64 z] r [linksW b ls]
      (Ret fun u η => ∃ ad cd, u = .tuple #[.agg #[.int .i64 (atL ls (f, t))[i].1, .int .i64 (atL ls (f, t))[i].2.1, .slice ad (atL ls (f, t))[i].2.2.1.length cd], .bool true] ∧ InI64 (atL ls (f, t))[i].1 ∧ InI64 (atL ls (f, t))[i].2.1 ∧ η = [OwnP Rp.u8 5 (.slice ad (atL ls (f, t))[i].2.2.1.length cd) (atL ls (f, t))[i].2.2.1, linksW b (takeL ls (f, t) i)]) := by
  subst hz; exact take_yes hat hi
theorem twice_yes' {r : Fr} {d b : Nat} {ls : NetM} {f t z : Int} {i : Nat} (hz : z = (i : Int)) (hat : At r ⟨d, 0, none⟩ [.map (some b)]) (hi : i < (atL ls (f, t)).length) (hl : (atL ls (f, t))[i].2.2.1.length ≤ 262144) :
    Con Go.Proofs.Tryz.prog 13 #[.pointer (some ⟨d, 0, none⟩), .int .i64 f, .int .i64 t, .int .i64 z] r [linksW b ls]
      (Ret fun u η => u = .bool (!fullL ls (atL ls (f, t))[i]) ∧ η = [linksW b (sendL ls (atL ls (f, t))[i])]) := by
  subst hz; exact twice_yes hat hi hl

end Go.Proofs.YthaebmfgelaleaaGreat
