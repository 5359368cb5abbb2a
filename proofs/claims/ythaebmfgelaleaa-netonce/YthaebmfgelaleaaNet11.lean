import Derived.Test.YthaebmfgelaleaaNet10
import Derived.Test.YthaebmfgelaleaaCopyb
open Go Go.Sp
set_option maxRecDepth 100000
attribute [local irreducible] obj Own OwnP
namespace Go.Proofs.Ythaebmfgelaleaa
theorem FactNet11.flat22 : Go.Sp.flat1 Go.Proofs.Try.prog 22 = true := by kernel_rfl
theorem FactNet11.flat47 : Go.Sp.flat1 Go.Proofs.Try.prog 47 = true := by kernel_rfl
theorem FactNet11.fld24x2 : fieldOff Go.Proofs.Try.prog 24 2 = some 2 := by kernel_rfl
theorem FactNet11.fld49x4 : fieldOff Go.Proofs.Try.prog 49 4 = some 4 := by kernel_rfl
theorem FactNet11.size24 : (Go.Proofs.Try.prog.info? 24).map (·.size) = some 3 := by kernel_rfl
theorem FactNet11.size49 : (Go.Proofs.Try.prog.info? 49).map (·.size) = some 5 := by kernel_rfl

/-- what is done to a net -/
abbrev DoT : Type := Int × Int × Int × Int × List Pkt × Unit
abbrev DoRp : Rp DoT := Rp.prod Rp.i64 (Rp.prod Rp.i64 (Rp.prod Rp.i64 (Rp.prod Rp.i64 (Rp.prod (Rp.slice PktRp) Rp.unit))))
abbrev DoT.L (x : DoT) : List Pkt := x.2.2.2.2.1
theorem DoRp.open {h : Fr} {cs : List Value} {x : DoT} (r : DoRp.rel h cs x) : ∃ a c, cs = [.int .i64 x.1, .int .i64 x.2.1, .int .i64 x.2.2.1, .int .i64 x.2.2.2.1, .slice a x.2.2.2.2.1.length c] ∧ Arr PktRp h (.slice a x.2.2.2.2.1.length c) x.2.2.2.2.1 ∧ InI64 x.1 ∧ InI64 x.2.1 ∧ InI64 x.2.2.1 ∧ InI64 x.2.2.2.1 := by
  obtain ⟨c1, c2, rfl, ⟨rfl, h1⟩, c3, c4, rfl, ⟨rfl, h2⟩, c5, c6, rfl, ⟨rfl, h3⟩, c7, c8, rfl, ⟨rfl, h4⟩, c9, c10, rfl, ⟨v, rfl, h5⟩, h6⟩ := r
  obtain ⟨a, c, rfl⟩ := h5.shape
  refine ⟨a, c, ?_, h5, h1, h2, h3, h4⟩
  rw [show c10 = [] from h6]; rfl
theorem DoRp.mk {h : Fr} {x : DoT} {v : Value} (h1 : InI64 x.1) (h2 : InI64 x.2.1) (h3 : InI64 x.2.2.1) (h4 : InI64 x.2.2.2.1) (h5 : Arr PktRp h v x.2.2.2.2.1) : DoRp.rel h [.int .i64 x.1, .int .i64 x.2.1, .int .i64 x.2.2.1, .int .i64 x.2.2.2.1, v] x :=
  ⟨[_], _, rfl, ⟨rfl, h1⟩, [_], _, rfl, ⟨rfl, h2⟩, [_], _, rfl, ⟨rfl, h3⟩, [_], _, rfl, ⟨rfl, h4⟩, [v], [], rfl, ⟨v, rfl, h5⟩, rfl⟩
/-- how much a row of packets, a life is -/
def wP (ps : List Pkt) : Nat := (ps.map fun p => p.2.2.1.length / 16).sum
def wD (d : DoT) : Nat := d.L.length + wP d.L
def wL (l : List DoT) : Nat := (l.map wD).sum
theorem wP_snoc (ps : List Pkt) (p : Pkt) : wP (ps ++ [p]) = wP ps + p.2.2.1.length / 16 := by simp [wP]
theorem wL_snoc (l : List DoT) (d : DoT) : wL (l ++ [d]) = wL l + wD d := by simp [wL]
/-- lists as they are handed in -/
def ShortD (l : List DoT) : Prop := l.length ≤ 140737488351232 ∧ ∀ d ∈ l, d.L.length ≤ 140737488351232 ∧ ∀ p ∈ d.L, p.2.2.1.length ≤ 140737488351232
def SmallD (l : List DoT) : Prop := l.length + wL l ≤ 400
theorem great_c {r : Fr} {va : Value} {l : List DoT} (ha : Arr DoRp r va l) (hs : ShortD l) :
    Con Go.Proofs.Try.prog 12 #[va] r [] (Ret fun v η => ∃ b, v = .bool b ∧ (b = false → SmallD l) ∧ η = []) := by
  obtain ⟨hs1, hs2⟩ := hs
  refine Con.of (n := 55) [va] rfl Go.Proofs.Try.func12 rfl rfl rfl fun g hg R hR => ?_
  have ha := ha.mono hg
  obtain ⟨a1, c1, rfl⟩ := ha.shape
  refine S.seq (S.region rfl ?_)
  refine O.op (.p rfl) (.as rfl) ?_
  refine O.nil ?_
  refine S.seq (S.region rfl ?_)
  refine O.op (.p rfl) (.mv rfl) ?_
  refine O.op (.p rfl) (.len rfl Go.Proofs.Try.underlying43 rfl) ?_
  refine O.op (.p rfl) (.as rfl) ?_
  refine O.nil ?_
  refine S.seq (S.seq (S.region rfl ?_))
  refine O.op (.p rfl) (.as rfl) ?_
  refine O.nil ?_
  refine S.block ?_
  refine S.loopK2 (ι := Nat) (κ := Nat) (fun i n => i ≤ l.length ∧ (n ≤ 400 → n = l.length + wL (l.take i)) ∧ n ≤ 562949953421312) (fun i n => [(4, .int .i64 (i : Int)), (3, .int .i64 (n : Int))]) [(0, _)] (fun i n => []) (fun i n => l.length - i) (0) (l.length) (by exact ⟨Nat.zero_le _, fun _ => by simp [wL], by omega⟩) (.cons rfl (.cons rfl (.nil))) (.cons rfl (.nil)) rfl fun i n hx ih => ?_
  have hm1 := meltRefl (g := g)
  obtain ⟨hx1, hx2, hx3⟩ := hx
  refine S.seq (S.seq (S.region rfl ?_))
  refine O.op (.p rfl) (.mv rfl) ?_
  refine O.op (.p rfl) (.mv rfl) ?_
  refine O.op (.p rfl) (.len rfl Go.Proofs.Try.underlying43 rfl) ?_
  refine O.op (.p rfl) (.lss rfl rfl) ?_
  refine O.op (.p rfl) (.mv rfl) ?_
  first | refine O.caseD 12 rfl (fun h12 => ?_) (fun h12 => ?_) | refine O.caseB 12 rfl (fun h12 => ?_) (fun h12 => ?_)
  · refine O.op (.g rfl rfl) (.mv rfl) ?_
    refine O.op (.g rfl rfl) (.leq rfl rfl) ?_
    refine O.op (.p rfl) (.pickT rfl rfl) ?_
    refine O.slot 15 (v' := .bool (decide (n ≤ 400))) rfl (by exact congrArg _ (decide_eq_decide.2 (by omega))) ?_
    refine O.nil ?_
    first | refine S.condD rfl (fun h15 => ?_) (fun h15 => ?_) | refine S.condB rfl (fun h15 => ?_) (fun h15 => ?_)
    · have hi : i < l.length := by omega
      have hn : n ≤ 400 := by simpa using h15
      have h20 : l.take (i + 1) = l.take i ++ [l[i]] := List.take_succ_eq_append_getElem hi
      have hq1 : l[i].2.2.2.2.1.length ≤ 140737488351232 := (hs2 l[i] (List.getElem_mem hi)).1
      have hq2 : ∀ p ∈ l[i].2.2.2.2.1, p.2.2.1.length ≤ 140737488351232 := (hs2 l[i] (List.getElem_mem hi)).2
      have hx2' := hx2 hn
      refine S.skip (S.seq (S.block (S.seq (S.region rfl ?_))))
      refine O.op (.p rfl) (.mv rfl) ?_
      refine O.op (.p rfl) (.mv rfl) ?_
      refine O.op (.p rfl) (.mv rfl) ?_
      refine O.idx' (.p rfl) Go.Proofs.Try.underlying43 FactNet11.size49 rfl rfl rfl (by first | assumption | exact Arr.mono hg (by assumption) | exact Arr.left (by assumption) | exact Arr.left (Arr.mono hg (by assumption))) (by decide) (by first | omega | (simp; done) | (simp; omega) | decide) (fun p21 cs21 hp21 hr21 => ?_)
      obtain ⟨a21, c21, rfl, ha21, hw21, hf21, ht21, hz21⟩ := DoRp.open hr21
      refine O.op (.p rfl) (.fieldAddr FactNet11.fld49x4 rfl) ?_
      refine O.op (.p rfl) (.loadAt FactNet11.flat47 rfl (hp21.drop 4) rfl) ?_
      refine O.op (.p rfl) (.len rfl Go.Proofs.Try.underlying47 rfl) ?_
      refine O.op (.p rfl) (.add rfl rfl (IntWalk.i64_in _ (by omega))) ?_
      refine O.op (.p rfl) (.as rfl) ?_
      refine O.nil ?_
      refine S.seq (S.region rfl ?_)
      refine O.op (.p rfl) (.as rfl) ?_
      refine O.nil ?_
      refine S.block ?_
      refine S.slot 3 (v' := .int .i64 ((n + l[i].2.2.2.2.1.length : Nat) : Int)) rfl (by rw [Int.natCast_add]) ?_
      refine S.loopK2 (ι := Nat) (κ := Nat) (fun k q => k ≤ l[i].2.2.2.2.1.length ∧ (q ≤ 400 → q = n + l[i].2.2.2.2.1.length + wP (l[i].2.2.2.2.1.take k)) ∧ q ≤ 281474976710656 + 400) (fun k q => [(5, .int .i64 (k : Int)), (3, .int .i64 (q : Int))]) [(0, _), (4, _)] (fun k q => []) (fun k q => l[i].2.2.2.2.1.length - k) (0) (n + l[i].2.2.2.2.1.length) (by exact ⟨Nat.zero_le _, fun _ => by simp [wP], by omega⟩) (.cons rfl (.cons rfl (.nil))) (.cons rfl (.cons rfl (.nil))) rfl fun k q hx ih => ?_
      have hm2 := meltRefl (g := g)
      rename_i ihO
      obtain ⟨hy1, hy2, hy3⟩ := hx
      refine S.seq (S.seq (S.region rfl ?_))
      refine O.op (.p rfl) (.mv rfl) ?_
      refine O.op (.p rfl) (.mv rfl) ?_
      refine O.op (.p rfl) (.mv rfl) ?_
      refine O.idx' (.p rfl) Go.Proofs.Try.underlying43 FactNet11.size49 rfl rfl rfl (by first | assumption | exact Arr.mono hg (by assumption) | exact Arr.left (by assumption) | exact Arr.left (Arr.mono hg (by assumption))) (by decide) (by first | omega | (simp; done) | (simp; omega) | decide) (fun p29 cs29 hp29 hr29 => ?_)
      obtain ⟨a29, c29, rfl, ha29, hw29, hf29, ht29, hz29⟩ := DoRp.open hr29
      refine O.op (.p rfl) (.fieldAddr FactNet11.fld49x4 rfl) ?_
      refine O.op (.p rfl) (.loadAt FactNet11.flat47 rfl (hp29.drop 4) rfl) ?_
      refine O.op (.p rfl) (.len rfl Go.Proofs.Try.underlying47 rfl) ?_
      refine O.op (.p rfl) (.lss rfl rfl) ?_
      refine O.slot 33 (v' := .bool (decide (k < l[i].2.2.2.2.1.length))) rfl (by exact congrArg _ (decide_eq_decide.2 (by omega))) ?_
      refine O.op (.p rfl) (.mv rfl) ?_
      first | refine O.caseD 34 rfl (fun h34 => ?_) (fun h34 => ?_) | refine O.caseB 34 rfl (fun h34 => ?_) (fun h34 => ?_)
      · refine O.op (.g rfl rfl) (.mv rfl) ?_
        refine O.op (.g rfl rfl) (.leq rfl rfl) ?_
        refine O.op (.p rfl) (.pickT rfl rfl) ?_
        refine O.slot 37 (v' := .bool (decide (q ≤ 400))) rfl (by exact congrArg _ (decide_eq_decide.2 (by omega))) ?_
        refine O.nil ?_
        first | refine S.condD rfl (fun h37 => ?_) (fun h37 => ?_) | refine S.condB rfl (fun h37 => ?_) (fun h37 => ?_)
        · have hk : k < l[i].2.2.2.2.1.length := by simpa using h34
          have hq : q ≤ 400 := by simpa using h37
          have h21 : l[i].2.2.2.2.1.take (k + 1) = l[i].2.2.2.2.1.take k ++ [l[i].2.2.2.2.1[k]] := List.take_succ_eq_append_getElem hk
          have hp := hq2 l[i].2.2.2.2.1[k] (List.getElem_mem hk)
          have hy2' := hy2 hq
          refine S.skip (S.seq (S.block (S.region rfl ?_)))
          refine O.op (.p rfl) (.mv rfl) ?_
          refine O.op (.p rfl) (.mv rfl) ?_
          refine O.op (.p rfl) (.mv rfl) ?_
          refine O.idx' (.p rfl) Go.Proofs.Try.underlying43 FactNet11.size49 rfl rfl rfl (by first | assumption | exact Arr.mono hg (by assumption) | exact Arr.left (by assumption) | exact Arr.left (Arr.mono hg (by assumption))) (by decide) (by first | omega | (simp; done) | (simp; omega) | decide) (fun p43 cs43 hp43 hr43 => ?_)
          obtain ⟨a43, c43, rfl, ha43, hw43, hf43, ht43, hz43⟩ := DoRp.open hr43
          refine O.op (.p rfl) (.fieldAddr FactNet11.fld49x4 rfl) ?_
          refine O.op (.p rfl) (.loadAt FactNet11.flat47 rfl (hp43.drop 4) rfl) ?_
          refine O.op (.p rfl) (.mv rfl) ?_
          refine O.idx' (.p rfl) Go.Proofs.Try.underlying47 FactNet11.size24 rfl rfl rfl (by first | assumption | exact Arr.mono hg (by assumption) | exact Arr.left (by assumption) | exact Arr.left (Arr.mono hg (by assumption))) (by decide) (by first | omega | (simp; done) | (simp; omega) | decide) (fun p47 cs47 hp47 hr47 => ?_)
          obtain ⟨v47, rfl, hi47, hj47, ha47⟩ := PktRp.open hr47; obtain ⟨a47, c47, rfl⟩ := ha47.shape
          refine O.op (.p rfl) (.fieldAddr FactNet11.fld24x2 rfl) ?_
          refine O.op (.p rfl) (.loadAt FactNet11.flat22 rfl (hp47.drop 2) rfl) ?_
          refine O.op (.p rfl) (.len rfl Go.Proofs.Try.underlying22 rfl) ?_
          refine O.op (.p rfl) (.quo rfl rfl (by omega)) ?_
          refine O.slot 51 (v' := .int .i64 ((l[i].2.2.2.2.1[k].2.2.1.length / 16 : Nat) : Int)) rfl (by rw [Int.tdiv_eq_ediv_of_nonneg (by omega), IntWalk.i64_in _ (by omega)]; rfl) ?_
          refine O.op (.p rfl) (.add rfl rfl (IntWalk.i64_in _ (by omega))) ?_
          refine O.op (.p rfl) (.as rfl) ?_
          refine O.nil ?_
          refine S.inBlock (S.region rfl ?_)
          refine O.op (.p rfl) (.mv rfl) ?_
          refine O.op (.p rfl) (.add rfl rfl (IntWalk.i64_in _ (by omega))) ?_
          refine O.op (.p rfl) (.as rfl) ?_
          refine O.nil ?_
          refine S.slot 3 (v' := .int .i64 ((q + l[i].2.2.2.2.1[k].2.2.1.length / 16 : Nat) : Int)) rfl (by rw [Int.natCast_add]) ?_
          refine S.weaken ?_ (ih (k + 1) (q + l[i].2.2.2.2.1[k].2.2.1.length / 16) (by (refine ⟨by omega, fun _ => ?_, by omega⟩; rw [h21, wP_snoc]; omega)) (by omega))
          repeat (first | exact Sub.nil | refine Sub.cons rfl ?_)
        · clear ih
          have hq : 400 < q := by omega
          refine S.exit rfl ?_
          refine S.inBlock (S.region rfl ?_)
          refine O.op (.p rfl) (.mv rfl) ?_
          refine O.op (.p rfl) (.add rfl rfl (IntWalk.i64_in _ (by omega))) ?_
          refine O.op (.p rfl) (.as rfl) ?_
          refine O.nil ?_
          refine S.weaken ?_ (ihO (i + 1) q (by exact ⟨by omega, fun h => absurd h (by omega), by omega⟩) (by omega))
          repeat (first | exact Sub.nil | refine Sub.cons rfl ?_)
      · clear ih
        have hk : k = l[i].2.2.2.2.1.length := by omega
        subst hk
        refine O.opN rfl rfl rfl ?_
        refine O.opN rfl rfl rfl ?_
        refine O.op (.p rfl) (.pickF rfl rfl) ?_
        refine O.nil ?_
        refine S.condF rfl ?_
        refine S.exit rfl ?_
        refine S.inBlock (S.region rfl ?_)
        refine O.op (.p rfl) (.mv rfl) ?_
        refine O.op (.p rfl) (.add rfl rfl (IntWalk.i64_in _ (by omega))) ?_
        refine O.op (.p rfl) (.as rfl) ?_
        refine O.nil ?_
        refine S.weaken ?_ (ihO (i + 1) q (by refine ⟨by omega, fun h => ?_, by omega⟩; have h5 := hy2 h; rw [List.take_length] at h5; rw [h20, wL_snoc]; simp only [wD, DoT.L]; omega) (by omega))
        repeat (first | exact Sub.nil | refine Sub.cons rfl ?_)
    · clear ih
      have hn : 400 < n := by omega
      refine S.exit rfl ?_
      refine S.seq (S.region rfl ?_)
      refine O.op (.p rfl) (.mv rfl) ?_
      refine O.op (.p rfl) (.gtr rfl rfl) ?_
      refine O.op (.p rfl) (.as rfl) ?_
      refine O.nil ?_
      refine S.ret Go.Proofs.Try.results12 rfl fun w hw => Holds.end_ hR hw ?_
      exact ⟨_, ⟨_, rfl, fun h => absurd h (by simp; omega), rfl⟩, by repeat (first | exact Picks.all | exact Picks.nil | (apply Picks.cons; focus (repeat (first | exact Sel.here | apply Sel.there))) | apply Picks.skip)⟩
  · clear ih
    have hi : i = l.length := by omega
    subst hi
    rw [List.take_length] at hx2
    refine O.opN rfl rfl rfl ?_
    refine O.opN rfl rfl rfl ?_
    refine O.op (.p rfl) (.pickF rfl rfl) ?_
    refine O.nil ?_
    refine S.condF rfl ?_
    refine S.exit rfl ?_
    refine S.seq (S.region rfl ?_)
    refine O.op (.p rfl) (.mv rfl) ?_
    refine O.op (.p rfl) (.gtr rfl rfl) ?_
    refine O.op (.p rfl) (.as rfl) ?_
    refine O.nil ?_
    refine S.ret Go.Proofs.Try.results12 rfl fun w hw => Holds.end_ hR hw ?_
    exact ⟨_, ⟨_, rfl, fun h => by have := of_decide_eq_false h; unfold SmallD; have h5 := hx2 (by omega); omega, rfl⟩, by repeat (first | exact Picks.all | exact Picks.nil | (apply Picks.cons; focus (repeat (first | exact Sel.here | apply Sel.there))) | apply Picks.skip)⟩

end Go.Proofs.Ythaebmfgelaleaa
