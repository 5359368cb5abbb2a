import Derived.Test.YthaebmfgelaleaaGreatRnet1
open Go Go.Sp
set_option maxRecDepth 100000
attribute [local irreducible] obj Own OwnP
namespace Go.Proofs.YthaebmfgelaleaaGreat
theorem FactRnet2.elem35 : elemIs Go.Proofs.Tryz.prog 35 3 40 [.int .i64 0, .int .i64 0, .slice none 0 0] := elemIs.mk (by kernel_rfl) rfl
theorem FactRnet2.flat29 : Go.Sp.flat1 Go.Proofs.Tryz.prog 29 = true := by kernel_rfl
theorem FactRnet2.flat3 : Go.Sp.flat1 Go.Proofs.Tryz.prog 3 = true := by kernel_rfl
theorem FactRnet2.flat33 : Go.Sp.flat1 Go.Proofs.Tryz.prog 33 = true := by kernel_rfl
theorem FactRnet2.fld35x0 : fieldOff Go.Proofs.Tryz.prog 35 0 = some 0 := by kernel_rfl
theorem FactRnet2.fld35x1 : fieldOff Go.Proofs.Tryz.prog 35 1 = some 1 := by kernel_rfl
theorem FactRnet2.fld35x2 : fieldOff Go.Proofs.Tryz.prog 35 2 = some 2 := by kernel_rfl
theorem FactRnet2.fld61x0 : fieldOff Go.Proofs.Tryz.prog 61 0 = some 0 := by kernel_rfl
theorem FactRnet2.mixed : Go.Proofs.Tryz.prog.follows .mixedOrders = true := by kernel_rfl
theorem FactRnet2.ok24 : callable Go.Proofs.Tryz.prog 24 = true := by kernel_rfl
theorem FactRnet2.ok34 : callable Go.Proofs.Tryz.prog 34 = true := by kernel_rfl
theorem FactRnet2.size35 : (Go.Proofs.Tryz.prog.info? 35).map (·.size) = some 3 := by kernel_rfl

theorem rmany_c {r : Fr} {d : Nat} {row : List Pkt} {f t : Int} (hat : refR r d row) : Con Go.Proofs.Tryz.prog 24 #[.pointer (some ⟨d, 0, none⟩), .int .i64 f, .int .i64 t] r [] (Ret fun u η => u = .int .i64 ((rowAt row (f, t)).length : Int) ∧ η = []) := by
  refine Con.of (n := 43) [.pointer (some ⟨d, 0, none⟩), .int .i64 f, .int .i64 t] rfl Go.Proofs.Tryz.func24 rfl rfl rfl fun g hg R hR => ?_
  obtain ⟨⟨a0, c0⟩, h0, hrow⟩ := hat
  replace h0 := h0.mono hg
  have hrow := hrow.mono hg
  have hbd := hrow.bound
  refine S.seq (S.region rfl ?_)
  refine O.op (.p rfl) (.as rfl) ?_
  refine O.nil ?_
  refine S.seq (S.region rfl ?_)
  refine O.op (.p rfl) (.as rfl) ?_
  refine O.nil ?_
  refine S.seq (S.seq (S.region rfl ?_))
  refine O.op (.p rfl) (.as rfl) ?_
  refine O.nil ?_
  refine S.block ?_
  refine S.loopK (ι := Nat) (fun i => i ≤ row.length) (fun i => [(8, .int .i64 (i : Int)), (7, .int .i64 (ahead row (f, t) i : Int))]) [(0, _), (1, _), (2, _)] (fun i => []) (fun i => row.length - i) (0) (by exact Nat.zero_le _) (.cons rfl (.cons rfl (.nil))) (.cons rfl (.cons rfl (.cons rfl (.nil)))) rfl fun i hx ih => ?_
  have hm1 := meltRefl (g := g)
  have hal := ahead_le row (f, t) i
  have hal2 := ahead_le row (f, t) (i + 1)
  refine S.seq (S.seq (S.region rfl ?_))
  refine O.op (.p rfl) (.mv rfl) ?_
  refine O.op (.p rfl) (.mv rfl) ?_
  refine O.op (.p rfl) (.nilCheck rfl) ?_
  refine O.op (.p rfl) (.fieldAddr FactRnet2.fld61x0 rfl) ?_
  refine O.op (.p rfl) (.loadAt FactRnet2.flat29 rfl h0 rfl) ?_
  refine O.op (.p rfl) (.len rfl Go.Proofs.Tryz.underlying29 rfl) ?_
  refine O.op (.p rfl) (.lss rfl rfl) ?_
  refine O.nil ?_
  first | refine S.condD rfl (fun h15 => ?_) (fun h15 => ?_) | refine S.condB rfl (fun h15 => ?_) (fun h15 => ?_)
  · have hi : i < row.length := by omega
    have hsc := ahead_succ row (f, t) i hi
    by_cases e1 : row[i].1 = f
    · by_cases e2 : row[i].2.1 = t
      · rw [if_pos (Prod.ext e1 e2)] at hsc
        refine S.skip (S.seq (S.block (S.seq (S.region rfl ?_))))
        refine O.op (.p rfl) (.mv rfl) ?_
        refine O.op (.p rfl) (.nilCheck rfl) ?_
        refine O.op (.p rfl) (.fieldAddr FactRnet2.fld61x0 rfl) ?_
        refine O.op (.p rfl) (.loadAt FactRnet2.flat29 rfl h0 rfl) ?_
        refine O.op (.p rfl) (.mv rfl) ?_
        refine O.idx' (.p rfl) Go.Proofs.Tryz.underlying29 FactRnet2.size35 rfl rfl rfl (by first | assumption | exact Arr.mono hg (by assumption) | exact Arr.left (by assumption) | exact Arr.left (Arr.mono hg (by assumption))) (by decide) (by first | omega | (simp; done) | (simp; omega) | decide) (fun p23 cs23 hp23 hr23 => ?_)
        obtain ⟨v23, rfl, hi23, hj23, ha23⟩ := PktRp.open hr23; obtain ⟨a23, c23, rfl⟩ := ha23.shape
        refine O.op (.p rfl) (.fieldAddr FactRnet2.fld35x0 rfl) ?_
        refine O.op (.p rfl) (.loadAt FactRnet2.flat3 rfl hp23 rfl) ?_
        refine O.op (.p rfl) (.mv rfl) ?_
        refine O.op (.p rfl) (.eql rfl rfl) ?_
        refine O.slot 27 (v' := .bool true) rfl (congrArg Value.bool (by simp [e1])) ?_
        refine O.op (.p rfl) (.mv rfl) ?_
        refine O.op (.g rfl rfl) (.mv rfl) ?_
        refine O.op (.g rfl rfl) (.nilCheck rfl) ?_
        refine O.op (.g rfl rfl) (.fieldAddr FactRnet2.fld61x0 rfl) ?_
        refine O.op (.g rfl rfl) (.loadAt FactRnet2.flat29 rfl h0 rfl) ?_
        refine O.op (.g rfl rfl) (.mv rfl) ?_
        refine O.idx' (.g rfl rfl) Go.Proofs.Tryz.underlying29 FactRnet2.size35 rfl rfl rfl (by first | assumption | exact Arr.mono hg (by assumption) | exact Arr.left (by assumption) | exact Arr.left (Arr.mono hg (by assumption))) (by decide) (by first | omega | (simp; done) | (simp; omega) | decide) (fun p34 cs34 hp34 hr34 => ?_)
        obtain ⟨v34, rfl, hi34, hj34, ha34⟩ := PktRp.open hr34; obtain ⟨a34, c34, rfl⟩ := ha34.shape
        refine O.op (.g rfl rfl) (.fieldAddr FactRnet2.fld35x1 rfl) ?_
        refine O.op (.g rfl rfl) (.loadAt FactRnet2.flat3 rfl (hp34.drop 1) rfl) ?_
        refine O.op (.g rfl rfl) (.mv rfl) ?_
        refine O.op (.g rfl rfl) (.eql rfl rfl) ?_
        refine O.slot 38 (v' := .bool true) rfl (congrArg Value.bool (by simp [e2])) ?_
        refine O.op (.p rfl) (.pickT rfl rfl) ?_
        refine O.nil ?_
        refine S.condT rfl ?_
        refine S.region rfl ?_
        refine O.op (.p rfl) (.mv rfl) ?_
        refine O.op (.p rfl) (.add rfl rfl (IntWalk.i64_in _ (by omega))) ?_
        refine O.op (.p rfl) (.as rfl) ?_
        refine O.nil ?_
        refine S.inBlock (S.region rfl ?_)
        refine O.op (.p rfl) (.mv rfl) ?_
        refine O.op (.p rfl) (.add rfl rfl (IntWalk.i64_in _ (by omega))) ?_
        refine O.op (.p rfl) (.as rfl) ?_
        refine O.nil ?_
        refine S.slot 7 (v' := .int .i64 (ahead row (f, t) (i + 1) : Int)) rfl (by exact congrArg _ (by omega)) ?_
        refine S.weaken ?_ (ih (i + 1) (by omega) (by omega))
        repeat (first | exact Sub.nil | refine Sub.cons rfl ?_)
      · rw [if_neg (fun q => e2 (congrArg Prod.snd q))] at hsc
        refine S.skip (S.seq (S.block (S.seq (S.region rfl ?_))))
        refine O.op (.p rfl) (.mv rfl) ?_
        refine O.op (.p rfl) (.nilCheck rfl) ?_
        refine O.op (.p rfl) (.fieldAddr FactRnet2.fld61x0 rfl) ?_
        refine O.op (.p rfl) (.loadAt FactRnet2.flat29 rfl h0 rfl) ?_
        refine O.op (.p rfl) (.mv rfl) ?_
        refine O.idx' (.p rfl) Go.Proofs.Tryz.underlying29 FactRnet2.size35 rfl rfl rfl (by first | assumption | exact Arr.mono hg (by assumption) | exact Arr.left (by assumption) | exact Arr.left (Arr.mono hg (by assumption))) (by decide) (by first | omega | (simp; done) | (simp; omega) | decide) (fun p23 cs23 hp23 hr23 => ?_)
        obtain ⟨v23, rfl, hi23, hj23, ha23⟩ := PktRp.open hr23; obtain ⟨a23, c23, rfl⟩ := ha23.shape
        refine O.op (.p rfl) (.fieldAddr FactRnet2.fld35x0 rfl) ?_
        refine O.op (.p rfl) (.loadAt FactRnet2.flat3 rfl hp23 rfl) ?_
        refine O.op (.p rfl) (.mv rfl) ?_
        refine O.op (.p rfl) (.eql rfl rfl) ?_
        refine O.slot 27 (v' := .bool true) rfl (congrArg Value.bool (by simp [e1])) ?_
        refine O.op (.p rfl) (.mv rfl) ?_
        refine O.op (.g rfl rfl) (.mv rfl) ?_
        refine O.op (.g rfl rfl) (.nilCheck rfl) ?_
        refine O.op (.g rfl rfl) (.fieldAddr FactRnet2.fld61x0 rfl) ?_
        refine O.op (.g rfl rfl) (.loadAt FactRnet2.flat29 rfl h0 rfl) ?_
        refine O.op (.g rfl rfl) (.mv rfl) ?_
        refine O.idx' (.g rfl rfl) Go.Proofs.Tryz.underlying29 FactRnet2.size35 rfl rfl rfl (by first | assumption | exact Arr.mono hg (by assumption) | exact Arr.left (by assumption) | exact Arr.left (Arr.mono hg (by assumption))) (by decide) (by first | omega | (simp; done) | (simp; omega) | decide) (fun p34 cs34 hp34 hr34 => ?_)
        obtain ⟨v34, rfl, hi34, hj34, ha34⟩ := PktRp.open hr34; obtain ⟨a34, c34, rfl⟩ := ha34.shape
        refine O.op (.g rfl rfl) (.fieldAddr FactRnet2.fld35x1 rfl) ?_
        refine O.op (.g rfl rfl) (.loadAt FactRnet2.flat3 rfl (hp34.drop 1) rfl) ?_
        refine O.op (.g rfl rfl) (.mv rfl) ?_
        refine O.op (.g rfl rfl) (.eql rfl rfl) ?_
        refine O.slot 38 (v' := .bool false) rfl (congrArg Value.bool (by simp [e2])) ?_
        refine O.op (.p rfl) (.pickT rfl rfl) ?_
        refine O.nil ?_
        refine S.condF rfl ?_
        refine S.skip (S.inBlock (S.region rfl ?_))
        refine O.op (.p rfl) (.mv rfl) ?_
        refine O.op (.p rfl) (.add rfl rfl (IntWalk.i64_in _ (by omega))) ?_
        refine O.op (.p rfl) (.as rfl) ?_
        refine O.nil ?_
        refine S.slot 7 (v' := .int .i64 (ahead row (f, t) (i + 1) : Int)) rfl (by exact congrArg _ (by omega)) ?_
        refine S.weaken ?_ (ih (i + 1) (by omega) (by omega))
        repeat (first | exact Sub.nil | refine Sub.cons rfl ?_)
    · rw [if_neg (fun q => e1 (congrArg Prod.fst q))] at hsc
      refine S.skip (S.seq (S.block (S.seq (S.region rfl ?_))))
      refine O.op (.p rfl) (.mv rfl) ?_
      refine O.op (.p rfl) (.nilCheck rfl) ?_
      refine O.op (.p rfl) (.fieldAddr FactRnet2.fld61x0 rfl) ?_
      refine O.op (.p rfl) (.loadAt FactRnet2.flat29 rfl h0 rfl) ?_
      refine O.op (.p rfl) (.mv rfl) ?_
      refine O.idx' (.p rfl) Go.Proofs.Tryz.underlying29 FactRnet2.size35 rfl rfl rfl (by first | assumption | exact Arr.mono hg (by assumption) | exact Arr.left (by assumption) | exact Arr.left (Arr.mono hg (by assumption))) (by decide) (by first | omega | (simp; done) | (simp; omega) | decide) (fun p23 cs23 hp23 hr23 => ?_)
      obtain ⟨v23, rfl, hi23, hj23, ha23⟩ := PktRp.open hr23; obtain ⟨a23, c23, rfl⟩ := ha23.shape
      refine O.op (.p rfl) (.fieldAddr FactRnet2.fld35x0 rfl) ?_
      refine O.op (.p rfl) (.loadAt FactRnet2.flat3 rfl hp23 rfl) ?_
      refine O.op (.p rfl) (.mv rfl) ?_
      refine O.op (.p rfl) (.eql rfl rfl) ?_
      refine O.slot 27 (v' := .bool false) rfl (congrArg Value.bool (by simp [e1])) ?_
      refine O.op (.p rfl) (.mv rfl) ?_
      refine O.opN rfl rfl rfl ?_
      refine O.opN rfl rfl rfl ?_
      refine O.opN rfl rfl rfl ?_
      refine O.opN rfl rfl rfl ?_
      refine O.opN rfl rfl rfl ?_
      refine O.opN rfl rfl rfl ?_
      refine O.opN rfl rfl rfl ?_
      refine O.opN rfl rfl rfl ?_
      refine O.opN rfl rfl rfl ?_
      refine O.opN rfl rfl rfl ?_
      refine O.op (.p rfl) (.pickF rfl rfl) ?_
      refine O.nil ?_
      refine S.condF rfl ?_
      refine S.skip (S.inBlock (S.region rfl ?_))
      refine O.op (.p rfl) (.mv rfl) ?_
      refine O.op (.p rfl) (.add rfl rfl (IntWalk.i64_in _ (by omega))) ?_
      refine O.op (.p rfl) (.as rfl) ?_
      refine O.nil ?_
      refine S.slot 7 (v' := .int .i64 (ahead row (f, t) (i + 1) : Int)) rfl (by exact congrArg _ (by omega)) ?_
      refine S.weaken ?_ (ih (i + 1) (by omega) (by omega))
      repeat (first | exact Sub.nil | refine Sub.cons rfl ?_)
  · clear ih
    have hi : i = row.length := by omega
    subst hi
    rw [ahead_all]
    refine S.exit rfl ?_
    refine S.seq (S.region rfl ?_)
    refine O.op (.p rfl) (.mv rfl) ?_
    refine O.op (.p rfl) (.as rfl) ?_
    refine O.nil ?_
    refine S.ret Go.Proofs.Tryz.results24 rfl fun w hw => Holds.end_ hR hw ?_
    exact ⟨_, ⟨rfl, rfl⟩, by repeat (first | exact Picks.all | exact Picks.nil | (apply Picks.cons; focus (repeat (first | exact Sel.here | apply Sel.there))) | apply Picks.skip)⟩
/-- the document's net is as the program's -/
structure Rel (ls : NetM) (row : List Pkt) : Prop where
  inv : NInv ls
  at' : ∀ k, atL ls k = rowAt row k
theorem Rel.nil : Rel [] [] := ⟨.nil, fun k => rfl⟩
theorem Rel.send {ls : NetM} {row : List Pkt} (o : Rel ls row) {p : Pkt} (hp : p.2.2.1.length ≤ 262144) (hf : fullL ls p = false) : Rel (sendL ls p) (row ++ [p]) where
  inv := o.inv.send hp
  at' k := by
    have e : sendL ls p = putA ls (keyP p) (atL ls (keyP p) ++ [p]) := by rw [sendL, hf]; rfl
    rw [e, atL_put, rowAt, List.filter_append]
    by_cases h : k = keyP p
    · subst h; rw [if_pos rfl, o.at']; simp [rowAt, isK]
    · have h2 : ¬ keyP p = k := fun q => h q.symm
      rw [if_neg h, o.at']; simp [rowAt, isK, h2]
theorem Rel.full {ls : NetM} {row : List Pkt} (o : Rel ls row) (p : Pkt) : fullL ls p = decide (64 ≤ (rowAt row (keyP p)).length) := by rw [fullL, o.at']
theorem rsend_c {r : Fr} {d : Nat} {ls : NetM} {row ps : List Pkt} {va : Value} (hrel : Rel ls row) (ha : Arr PktRp r va ps) (hb : row.length + ps.length ≤ 1000000) :
    Con Go.Proofs.Tryz.prog 17 #[.pointer (some ⟨d, 0, none⟩), va] r [refW d row] (Ret fun u η => ∃ row', u = .int .i64 (sendE ls ps) ∧ Rel (sendM ls ps) row' ∧ row'.length ≤ row.length + ps.length ∧ η = [refW d row']) := by
  refine Con.of (n := 55) [.pointer (some ⟨d, 0, none⟩), va] rfl Go.Proofs.Tryz.func17 rfl rfl rfl fun g hg R hR => ?_
  have ha := ha.mono hg
  have hbd := ha.bound
  obtain ⟨a1, c1, rfl⟩ := ha.shape
  refine S.seq (S.region rfl ?_)
  refine O.op (.p rfl) (.as rfl) ?_
  refine O.nil ?_
  refine S.seq (S.seq (S.region rfl ?_))
  refine O.op (.p rfl) (.as rfl) ?_
  refine O.nil ?_
  refine S.block ?_
  refine S.loopK (ι := Nat) (fun i => i ≤ ps.length ∧ (ps.take i).any longP = false) (fun i => [(5, .int .i64 (i : Int))]) [(0, _), (1, _)] (fun i => [refW d row]) (fun i => ps.length - i) (0) (by simp) (.cons rfl (.nil)) (.cons rfl (.cons rfl (.nil))) rfl fun i hx ih => ?_
  have hm1 := meltRefl (g := g)
  obtain ⟨hx1, hx2⟩ := hx
  refine S.seq (S.seq (S.region rfl ?_))
  refine O.op (.p rfl) (.mv rfl) ?_
  refine O.op (.p rfl) (.mv rfl) ?_
  refine O.op (.p rfl) (.len rfl Go.Proofs.Tryz.underlying29 rfl) ?_
  refine O.op (.p rfl) (.lss rfl rfl) ?_
  refine O.nil ?_
  first | refine S.condD rfl (fun h11 => ?_) (fun h11 => ?_) | refine S.condB rfl (fun h11 => ?_) (fun h11 => ?_)
  · have hi : i < ps.length := by omega
    refine S.skip (S.seq (S.block (S.seq (S.region rfl ?_))))
    refine O.op (.p rfl) (.mv rfl) ?_
    refine O.op (.p rfl) (.mv rfl) ?_
    refine O.idx' (.p rfl) Go.Proofs.Tryz.underlying29 FactRnet2.size35 rfl rfl rfl (by first | assumption | exact Arr.mono hg (by assumption) | exact Arr.left (by assumption) | exact Arr.left (Arr.mono hg (by assumption))) (by decide) (by first | omega | (simp; done) | (simp; omega) | decide) (fun p16 cs16 hp16 hr16 => ?_)
    obtain ⟨v16, rfl, hi16, hj16, ha16⟩ := PktRp.open hr16; obtain ⟨a16, c16, rfl⟩ := ha16.shape
    refine O.op (.p rfl) (.fieldAddr FactRnet2.fld35x2 rfl) ?_
    refine O.op (.p rfl) (.loadAt FactRnet2.flat33 rfl (hp16.drop 2) rfl) ?_
    refine O.op (.p rfl) (.len rfl Go.Proofs.Tryz.underlying33 rfl) ?_
    refine O.op (.p rfl) (.gtr rfl rfl) ?_
    refine O.nil ?_
    first | refine S.condD rfl (fun h20 => ?_) (fun h20 => ?_) | refine S.condB rfl (fun h20 => ?_) (fun h20 => ?_)
    · have hl : longP ps[i] = true := by unfold longP; simp; omega
      have hany : ps.any longP = true := List.any_eq_true.2 ⟨ps[i], List.getElem_mem hi, hl⟩
      refine S.seq (S.region rfl ?_)
      refine O.op (.p rfl) (.as rfl) ?_
      refine O.nil ?_
      refine S.ret Go.Proofs.Tryz.results17 rfl fun w hw => Holds.end_ hR hw ?_
      exact ⟨_, ⟨row, by rw [sendE, if_pos hany], by rw [sendM, if_pos hany]; exact hrel, by omega, rfl⟩, by repeat (first | exact Picks.all | exact Picks.nil | (apply Picks.cons; focus (repeat (first | exact Sel.here | apply Sel.there))) | apply Picks.skip)⟩
    · have hl : longP ps[i] = false := by unfold longP; simp; omega
      refine S.skip (S.inBlock (S.region rfl ?_))
      refine O.op (.p rfl) (.mv rfl) ?_
      refine O.op (.p rfl) (.add rfl rfl (IntWalk.i64_in _ (by omega))) ?_
      refine O.op (.p rfl) (.as rfl) ?_
      refine O.nil ?_
      refine S.weaken ?_ (ih (i + 1) (by exact ⟨by omega, by rw [List.take_succ_eq_append_getElem hi, List.any_append, hx2]; simp [hl]⟩) (by omega))
      repeat (first | exact Sub.nil | refine Sub.cons rfl ?_)
  · clear ih
    have hi : i = ps.length := by omega
    subst hi
    rw [List.take_length] at hx2
    have hlg : ¬ ps.any longP = true := by rw [hx2]; simp
    have e1 : sendE ls ps = if anyFull ls ps then 8 else 0 := by rw [sendE, if_neg hlg]
    have e2 : sendM ls ps = sendsL ls ps := by rw [sendM, if_neg hlg]
    have hshort : ∀ i (h : i < ps.length), ps[i].2.2.1.length ≤ 262144 := fun i h => by
      have : ¬ longP ps[i] = true := fun q => hlg (List.any_eq_true.2 ⟨ps[i], List.getElem_mem h, q⟩)
      simpa [longP] using this
    refine S.exit rfl ?_
    refine S.seq (S.region rfl ?_)
    refine O.op (.p rfl) (.as rfl) ?_
    refine O.nil ?_
    refine S.seq (S.seq (S.region rfl ?_))
    refine O.op (.p rfl) (.as rfl) ?_
    refine O.nil ?_
    refine S.block ?_
    refine S.slot 6 (v' := .int .i64 (if anyFull ls (ps.take 0) then 8 else 0)) rfl (by simp [anyFull]) ?_
    refine S.loopK2 (ι := Nat) (κ := List Pkt) (fun i row' => i ≤ ps.length ∧ Rel (sendsL ls (ps.take i)) row' ∧ row'.length ≤ row.length + i) (fun i row' => [(7, .int .i64 (i : Int)), (6, .int .i64 (if anyFull ls (ps.take i) then 8 else 0))]) [(0, _), (1, _)] (fun i row' => [refW d row']) (fun i row' => ps.length - i) (0) (row) (by exact ⟨Nat.zero_le _, hrel, by omega⟩) (.cons rfl (.cons rfl (.nil))) (.cons rfl (.cons rfl (.nil))) rfl fun i row' hx ih => ?_
    have hm2 := meltRefl (g := g)
    obtain ⟨hx1, hx3, hx4⟩ := hx
    refine S.seq (S.seq (S.region rfl ?_))
    refine O.op (.p rfl) (.mv rfl) ?_
    refine O.op (.p rfl) (.mv rfl) ?_
    refine O.op (.p rfl) (.len rfl Go.Proofs.Tryz.underlying29 rfl) ?_
    refine O.op (.p rfl) (.lss rfl rfl) ?_
    refine O.nil ?_
    first | refine S.condD rfl (fun h24 => ?_) (fun h24 => ?_) | refine S.condB rfl (fun h24 => ?_) (fun h24 => ?_)
    · have hi : i < ps.length := by omega
      have hs := hshort i hi
      have ht : ps.take (i + 1) = ps.take i ++ [ps[i]] := List.take_succ_eq_append_getElem hi
      have hss : sendsL ls (ps.take (i + 1)) = sendL (sendsL ls (ps.take i)) ps[i] := by unfold sendsL; rw [ht, List.foldl_append]; rfl
      have hff : anyFull ls (ps.take (i + 1)) = (anyFull ls (ps.take i) || fullL (sendsL ls (ps.take i)) ps[i]) := by rw [ht, anyFull_snoc]
      have hfe := hx3.full ps[i]
      refine S.skip (S.seq (S.block (S.seq (S.seq (S.regionD (L := [0, 1, 2, 3, 4, 5, 6, 7, 8, 9, 10, 11, 12]) FactRnet2.mixed (by kernel_rfl) ?_)))))
      refine .quiet (.p rfl) rfl (fun _ => .mv rfl) ?_
      refine .quiet (.p rfl) rfl (fun _ => .mv rfl) ?_
      refine .quiet (.p rfl) rfl (fun _ => .mv rfl) ?_
      refine OD.idx' (.p rfl) Go.Proofs.Tryz.underlying29 FactRnet2.size35 rfl rfl rfl (by first | assumption | exact Arr.mono hg (by assumption) | exact Arr.left (by assumption) | exact Arr.left (Arr.mono hg (by assumption))) (by decide) (by first | omega | (simp; done) | (simp; omega) | decide) (fun p30 cs30 hp30 hr30 => ?_)
      obtain ⟨v30, rfl, hi30, hj30, ha30⟩ := PktRp.open hr30; obtain ⟨a30, c30, rfl⟩ := ha30.shape
      refine .quiet (.p rfl) rfl (fun _ => .fieldAddr FactRnet2.fld35x0 rfl) ?_
      refine .quiet (.p rfl) rfl (fun _ => .loadAt FactRnet2.flat3 rfl hp30 rfl) ?_
      refine .quiet (.p rfl) rfl (fun _ => .mv rfl) ?_
      refine .quiet (.p rfl) rfl (fun _ => .mv rfl) ?_
      refine OD.idx' (.p rfl) Go.Proofs.Tryz.underlying29 FactRnet2.size35 rfl rfl rfl (by first | assumption | exact Arr.mono hg (by assumption) | exact Arr.left (by assumption) | exact Arr.left (Arr.mono hg (by assumption))) (by decide) (by first | omega | (simp; done) | (simp; omega) | decide) (fun p35 cs35 hp35 hr35 => ?_)
      obtain ⟨v35, rfl, hi35, hj35, ha35⟩ := PktRp.open hr35; obtain ⟨a35, c35, rfl⟩ := ha35.shape
      refine .quiet (.p rfl) rfl (fun _ => .fieldAddr FactRnet2.fld35x1 rfl) ?_
      refine .quiet (.p rfl) rfl (fun _ => .loadAt FactRnet2.flat3 rfl (hp35.drop 1) rfl) ?_
      refine OD.callB (.p rfl) (by kernel_rfl) rfl FactRnet2.ok24 rfl rfl (bs := [refW d row']) (by repeat (first | exact Sels.nil | (apply Sels.cons; focus (repeat (first | exact Sel.here | apply Sel.there))))) (fun m hm hd => rmany_c (refR.mono (Fr.sub_add_right hd) (Sat.w1 (B := fun m => refR m d row') refR.mono (fun _ x => x.read) hm))) ?_
      rintro v38 _ ⟨rfl, rfl⟩
      try simp only [List.cons_append, List.nil_append, List.append_nil]
      refine .quiet (.p rfl) rfl (fun _ => .geq rfl rfl) ?_
      refine OD.slot 39 (v' := .bool (fullL (sendsL ls (ps.take i)) ps[i])) rfl (by rw [hfe]; exact congrArg _ (decide_eq_decide.2 (by unfold keyP; omega))) ?_
      refine .nil ?_
      first | refine S.condD rfl (fun h39 => ?_) (fun h39 => ?_) | refine S.condB rfl (fun h39 => ?_) (fun h39 => ?_)
      · have hf : fullL (sendsL ls (ps.take i)) ps[i] = true := by unfold fullL; exact decide_eq_true (by omega)
        refine S.seq (S.region rfl ?_)
        refine O.op (.p rfl) (.as rfl) ?_
        refine O.nil ?_
        refine S.exit rfl ?_
        refine S.region rfl ?_
        refine O.op (.p rfl) (.mv rfl) ?_
        refine O.op (.p rfl) (.add rfl rfl (IntWalk.i64_in _ (by omega))) ?_
        refine O.op (.p rfl) (.as rfl) ?_
        refine O.nil ?_
        refine S.slot 6 (v' := .int .i64 (if anyFull ls (ps.take (i + 1)) then 8 else 0)) rfl (by rw [hff, hf]; simp) ?_
        refine S.weaken ?_ (ih (i + 1) (row') (by exact ⟨by omega, by rw [hss, sendL, hf]; exact hx3, by omega⟩) (by omega))
        repeat (first | exact Sub.nil | refine Sub.cons rfl ?_)
      · have hf : fullL (sendsL ls (ps.take i)) ps[i] = false := by unfold fullL; exact decide_eq_false (by omega)
        refine S.refOpen (by repeat (first | exact Sel.here | apply Sel.there)) fun a c => ?_
        refine S.listOpen (G := pktG) (xs := row') (k' := 3) rfl (by repeat (first | exact Sel.here | apply Sel.there)) fun css hcl => ?_
        rw [← hcl]
        refine S.skip ?_
        have ha_S := ha
        refine S.frzH (B := obj d 61 [.slice a css.length c]) (by repeat (first | exact Sel.here | apply Sel.there)) fun g0 hs0 ⟨m0, hm0, hsm0⟩ th0 => ?_
        have hz0 := (obj_at hm0).mono hsm0
        replace ha := ha.mono hs0
        refine S.regionD (L := [0, 1, 2, 3, 4, 5, 6, 7, 8, 9, 10, 11, 12, 13, 14]) FactRnet2.mixed (by kernel_rfl) ?_
        refine .quiet (.p rfl) rfl (fun _ => .mv rfl) ?_
        refine .quiet (.p rfl) rfl (fun _ => .mv rfl) ?_
        refine .quiet (.p rfl) rfl (fun _ => .nilCheck rfl) ?_
        refine .quiet (.p rfl) rfl (fun _ => .fieldAddr FactRnet2.fld61x0 rfl) ?_
        refine .quiet (.p rfl) rfl (fun _ => .loadAt FactRnet2.flat29 rfl hz0 rfl) ?_
        refine .quiet (.p rfl) rfl (fun _ => .mv rfl) ?_
        refine .quiet (.p rfl) rfl (fun _ => .mv rfl) ?_
        refine OD.idx' (.p rfl) Go.Proofs.Tryz.underlying29 FactRnet2.size35 rfl rfl rfl (by first | assumption | exact Arr.mono hg (by assumption) | exact Arr.left (by assumption) | exact Arr.left (Arr.mono hg (by assumption))) (by decide) (by first | omega | (simp; done) | (simp; omega) | decide) (fun p47 cs47 hp47 hr47 => ?_)
        obtain ⟨v47, rfl, hi47, hj47, ha47⟩ := PktRp.open hr47; obtain ⟨a47, c47, rfl⟩ := ha47.shape
        refine .quiet (.p rfl) rfl (fun _ => .loadAgg Go.Proofs.Tryz.isAgg35 (by kernel_rfl) rfl hp47) ?_
        refine OD.call0 (.p rfl) (by kernel_rfl) rfl FactRnet2.ok34 rfl rfl (copyPacket_c (by first | assumption | exact Arr.mono hg (by assumption) | exact Arr.left (by assumption) | exact Arr.left (Arr.mono hg (by assumption))) (by first | omega | (simp; done) | (simp; omega) | decide)) ?_
        rintro v49 _ ⟨a49, c49, rfl, rfl⟩
        try simp only [List.cons_append, List.nil_append, List.append_nil]
        refine OD.litP (T := (Rp.cells 3)) (ys := [_]) (.p rfl) (by kernel_rfl) Go.Proofs.Tryz.underlying29 FactRnet2.elem35 (by decide) rfl rfl ⟨⟨rfl, rfl, by first | (simp; done) | (intro v hv; simp [Value.cells] at hv; rcases hv with rfl | rfl <;> rfl) | (refine List.forall_mem_cons.2 ⟨rfl, ?_⟩; repeat (first | exact (fun _ h => absurd h List.not_mem_nil) | refine List.forall_mem_cons.2 ⟨rfl, ?_⟩))⟩, trivial⟩ (by decide) (fun a50 c50 => ?_)
        refine OD.appendO (.p rfl) (by kernel_rfl) (T := (Rp.cells 3)) Go.Proofs.Tryz.underlying29 FactRnet2.elem35 (by decide) rfl rfl (by repeat (first | exact Sel.here | apply Sel.there)) (by repeat (first | exact Sel.here | apply Sel.there)) (by first | omega | (simp; done) | (simp; omega) | decide) (by first | omega | (simp; done) | (simp; omega) | decide) (fun a51 c51 => ?_)
        refine .quiet (.p rfl) rfl (fun _ => .nilCheck rfl) ?_
        refine .quiet (.p rfl) rfl (fun _ => .fieldAddr FactRnet2.fld61x0 rfl) ?_
        refine OD.last1 rfl (by kernel_rfl) (fun _ hw => th0 hw) FactRnet2.flat29 rfl rfl (by first | rfl | assumption) (by repeat (first | exact Sel.here | apply Sel.there)) (by first | (simp; done) | (simp; omega)) ?_
        replace ha := ha_S
        refine S.inBlock (S.region rfl ?_)
        refine O.op (.p rfl) (.mv rfl) ?_
        refine O.op (.p rfl) (.add rfl rfl (IntWalk.i64_in _ (by omega))) ?_
        refine O.op (.p rfl) (.as rfl) ?_
        refine O.nil ?_
        refine S.slot 6 (v' := .int .i64 (if anyFull ls (ps.take (i + 1)) then 8 else 0)) rfl (by rw [hff, hf]; simp) ?_
        have hcs : (Value.agg #[.int .i64 ps[i].1, .int .i64 ps[i].2.1, .slice a49 ps[i].2.2.1.length c49]).cells.toList = [.int .i64 ps[i].1, .int .i64 ps[i].2.1, .slice a49 ps[i].2.2.1.length c49] := by simp [Value.cells]
        simp only [hcs]
        refine S.conv (B := OwnP Rp.u8 5 (.slice a49 ps[i].2.2.1.length c49) ps[i].2.2.1) (C := pktG.own [.int .i64 ps[i].1, .int .i64 ps[i].2.1, .slice a49 ps[i].2.2.1.length c49] ps[i]) (by repeat (first | exact Sel.here | apply Sel.there)) (fun m x => ⟨m, Fr.sub_refl _, PktG.mk hi47 hj47 x⟩) ?_
        refine S.listPut (G := pktG) (k' := 3) rfl (by repeat (first | exact Sel.here | apply Sel.there)) (by repeat (first | exact Sel.here | apply Sel.there)) (by repeat (first | exact Sel.here | apply Sel.there)) ?_
        have hlr : css.length + 1 = (row' ++ [ps[i]]).length := by simp; omega
        refine S.objIs (b := d) (cs' := [.slice a51 (row' ++ [ps[i]]).length c51]) (by repeat (first | exact Sel.here | apply Sel.there)) (by rw [← hlr]; rfl) ?_
        try simp only [List.length_singleton, List.length_cons, List.length_nil, Nat.zero_add]
        rw [hlr]
        refine S.refShut (row := row' ++ [ps[i]]) (a := a51) (c := c51) (by repeat (first | exact Sel.here | apply Sel.there)) (by repeat (first | exact Sel.here | apply Sel.there)) ?_
        refine S.pk ?_ (S.weaken ?_ (ih (i + 1) (row' ++ [ps[i]]) (by exact ⟨by omega, by rw [hss]; exact hx3.send hs hf, by simp; omega⟩) (by omega)))
        · repeat (first | exact Picks.all | exact Picks.nil | (apply Picks.cons; focus (repeat (first | exact Sel.here | apply Sel.there))) | apply Picks.skip)
        repeat (first | exact Sub.nil | refine Sub.cons rfl ?_)
    · clear ih
      have hi : i = ps.length := by omega
      subst hi
      rw [List.take_length] at hx3
      rw [List.take_length]
      refine S.exit rfl ?_
      refine S.seq (S.region rfl ?_)
      refine O.op (.p rfl) (.mv rfl) ?_
      refine O.op (.p rfl) (.as rfl) ?_
      refine O.nil ?_
      refine S.ret Go.Proofs.Tryz.results17 rfl fun w hw => Holds.end_ hR hw ?_
      exact ⟨_, ⟨row', by rw [e1], by rw [e2]; exact hx3, hx4, rfl⟩, by repeat (first | exact Picks.all | exact Picks.nil | (apply Picks.cons; focus (repeat (first | exact Sel.here | apply Sel.there))) | apply Picks.skip)⟩

end Go.Proofs.YthaebmfgelaleaaGreat
