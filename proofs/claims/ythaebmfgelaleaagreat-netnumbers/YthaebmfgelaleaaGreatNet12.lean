/- Texts of this proof, one behind the other. -/
import Derived.Test.YthaebmfgelaleaaGreatKit1
import Derived.Test.YthaebmfgelaleaaGreatSpKit
import Derived.Test.YthaebmfgelaleaaGreatSpGp
import Derived.Test.YthaebmfgelaleaaGreatNet10
section
/- Texts of this proof, one behind the other. -/
section
open Go Go.Sp
set_option maxRecDepth 100000
attribute [local irreducible] obj Own OwnP
namespace Go.Proofs.YthaebmfgelaleaaGreat
theorem FactCopyb.elem5 : elemIs Go.Proofs.Tryz.prog 5 1 1 [.int .u8 0] := elemIs.mk (by kernel_rfl) rfl

theorem CopyBytes_c {r : Fr} {va : Value} {xs : List UInt8} (ha : Arr Rp.u8 r va xs) (hl : xs.length ≤ 140737488355328) :
    Con Go.Proofs.Tryz.prog 48 #[va] r [] (Ret fun v η => ∃ a c, v = .slice a xs.length c ∧ η = [OwnP Rp.u8 5 v xs]) := by
  refine Con.of (n := 7) [va] rfl Go.Proofs.Tryz.func48 rfl rfl rfl fun g hg R hR => ?_
  obtain ⟨a1, c1, rfl⟩ := ha.shape
  refine S.addNil (T := Rp.u8) (e := 5) ?_
  refine S.seq (S.region rfl ?_)
  refine O.op (.p rfl) (.as rfl) ?_
  refine O.nil ?_
  refine S.seq (S.region rfl ?_)
  refine O.op (.p rfl) (.as rfl) ?_
  refine O.nil ?_
  refine S.seq (S.region rfl ?_)
  refine O.op (.p rfl) (.mv rfl) ?_
  refine O.op (.p rfl) (.mv rfl) ?_
  refine O.opE (.p rfl) (.appendP (T := Rp.u8) pure_u8 Go.Proofs.Tryz.underlying33 FactCopyb.elem5 (by decide) rfl rfl (by repeat (first | exact Sel.here | apply Sel.there)) (by first | assumption | exact Arr.mono hg (by assumption) | exact Arr.left (by assumption) | exact Arr.left (Arr.mono hg (by assumption))) (by first | omega | (simp; done) | (simp; omega) | decide) (by first | omega | (simp; done) | (simp; omega) | decide)) ?_
  rintro _ _ ⟨a6, c6, rfl, rfl⟩
  refine O.op (.p rfl) (.as rfl) ?_
  refine O.nil ?_
  refine S.ret Go.Proofs.Tryz.results48 rfl fun w hw => hR _ _ w ?_ hw
  exact ⟨a6, c6, by simp, rfl⟩
/-- a thing from a number: 0 .. n-1 -/
def pick (x n : Int) : Int := if n < 1 then 0 else if x.tmod n < 0 then x.tmod n + n else x.tmod n
theorem Pick_c {r : Fr} (x n : Int) (hn : InI64 n) : Con Go.Proofs.Tryz.prog 9 #[.int .i64 x, .int .i64 n] r [] (Ret fun v η => v = .int .i64 (pick x n) ∧ η = []) := by
  refine Con.of (n := 16) [.int .i64 x, .int .i64 n] rfl Go.Proofs.Tryz.func9 rfl rfl rfl fun g hg R hR => ?_
  unfold InI64 at hn
  refine S.seq (S.region rfl ?_)
  refine O.op (.p rfl) (.as rfl) ?_
  refine O.nil ?_
  refine S.seq (S.seq (S.region rfl ?_))
  refine O.op (.p rfl) (.mv rfl) ?_
  refine O.op (.p rfl) (.lss rfl rfl) ?_
  refine O.nil ?_
  first | refine S.condD rfl (fun h6 => ?_) (fun h6 => ?_) | refine S.condB rfl (fun h6 => ?_) (fun h6 => ?_)
  · refine S.seq (S.region rfl ?_)
    refine O.op (.p rfl) (.as rfl) ?_
    refine O.nil ?_
    refine S.ret Go.Proofs.Tryz.results9 rfl fun w hw => hR _ _ w ?_ hw
    exact ⟨by simp [pick, h6], rfl⟩
  · have b1 := Int.tmod_lt_of_pos x (show 0 < n by omega)
    have b2 := Int.lt_tmod_of_pos x (show 0 < n by omega)
    refine S.skip (S.seq (S.region rfl ?_))
    refine O.op (.p rfl) (.mv rfl) ?_
    refine O.op (.p rfl) (.mv rfl) ?_
    refine O.op (.p rfl) (.rem rfl rfl (by omega)) ?_
    refine O.op (.p rfl) (.as rfl) ?_
    refine O.nil ?_
    refine S.seq (S.seq (S.region rfl ?_))
    refine O.op (.p rfl) (.mv rfl) ?_
    refine O.op (.p rfl) (.lss rfl rfl) ?_
    refine O.nil ?_
    first | refine S.condD rfl (fun h11 => ?_) (fun h11 => ?_) | refine S.condB rfl (fun h11 => ?_) (fun h11 => ?_)
    · refine S.region rfl ?_
      refine O.op (.p rfl) (.mv rfl) ?_
      refine O.op (.p rfl) (.mv rfl) ?_
      refine O.op (.p rfl) (.add rfl rfl (IntWalk.i64_in _ (by omega))) ?_
      refine O.op (.p rfl) (.as rfl) ?_
      refine O.nil ?_
      refine S.seq (S.region rfl ?_)
      refine O.op (.p rfl) (.mv rfl) ?_
      refine O.op (.p rfl) (.as rfl) ?_
      refine O.nil ?_
      refine S.ret Go.Proofs.Tryz.results9 rfl fun w hw => hR _ _ w ?_ hw
      exact ⟨by simp [pick, h6, h11], rfl⟩
    · refine S.skip (S.seq (S.region rfl ?_))
      refine O.op (.p rfl) (.mv rfl) ?_
      refine O.op (.p rfl) (.as rfl) ?_
      refine O.nil ?_
      refine S.ret Go.Proofs.Tryz.results9 rfl fun w hw => hR _ _ w ?_ hw
      exact ⟨by simp [pick, h6, h11], rfl⟩

end Go.Proofs.YthaebmfgelaleaaGreat
end
section
open Go Go.Sp
set_option maxRecDepth 100000
attribute [local irreducible] obj Own OwnP
namespace Go.Proofs.YthaebmfgelaleaaGreat
theorem FactNet11.flat29 : Go.Sp.flat1 Go.Proofs.Tryz.prog 29 = true := by kernel_rfl
theorem FactNet11.flat33 : Go.Sp.flat1 Go.Proofs.Tryz.prog 33 = true := by kernel_rfl
theorem FactNet11.fld31x4 : fieldOff Go.Proofs.Tryz.prog 31 4 = some 4 := by kernel_rfl
theorem FactNet11.fld35x2 : fieldOff Go.Proofs.Tryz.prog 35 2 = some 2 := by kernel_rfl
theorem FactNet11.size31 : (Go.Proofs.Tryz.prog.info? 31).map (·.size) = some 5 := by kernel_rfl
theorem FactNet11.size35 : (Go.Proofs.Tryz.prog.info? 35).map (·.size) = some 3 := by kernel_rfl

/-- what is done to a net -/
abbrev DoT : Type := Int × Int × Int × Int × List Pkt × Unit
abbrev DoRp : Rp DoT := Rp.prod Rp.i64 (Rp.prod Rp.i64 (Rp.prod Rp.i64 (Rp.prod Rp.i64 (Rp.prod (Rp.slice PktRp) Rp.unit))))
abbrev DoT.L (x : DoT) : List Pkt := x.2.2.2.2.1
theorem DoRp.open {h : Fr} {cs : List Value} {x : DoT} (r : DoRp.rel h cs x) : ∃ a c, cs = [.int .i64 x.1, .int .i64 x.2.1, .int .i64 x.2.2.1, .int .i64 x.2.2.2.1, .slice a x.2.2.2.2.1.length c] ∧ Arr PktRp h (.slice a x.2.2.2.2.1.length c) x.2.2.2.2.1 ∧ InI64 x.1 ∧ InI64 x.2.1 ∧ InI64 x.2.2.1 ∧ InI64 x.2.2.2.1 := by
  obtain ⟨c1, c2, rfl, ⟨rfl, h1⟩, c3, c4, rfl, ⟨rfl, h2⟩, c5, c6, rfl, ⟨rfl, h3⟩, c7, c8, rfl, ⟨rfl, h4⟩, c9, c10, rfl, ⟨v, rfl, h5⟩, h6⟩ := r
  obtain ⟨a, c, rfl⟩ := h5.shape
  refine ⟨a, c, ?_, h5, h1, h2, h3, h4⟩
  rw [show c10 = [] from h6]; rfl
theorem DoRp.mk {h : Fr} {x : DoT} {v : Value} (h1 : InI64 x.1) (h2 : InI64 x.2.1) (h3 : InI64 x.2.2.1) (h4 : InI64 x.2.2.2.1) (h5 : Arr PktRp h v x.2.2.2.2.1) : DoRp.rel h [.int .i64 x.1, .int .i64 x.2.1, .int .i64 x.2.2.1, .int .i64 x.2.2.2.1, v] x :=
  ⟨[_], _, rfl, ⟨rfl, h1⟩, [_], _, rfl, ⟨rfl, h2⟩, [_], _, rfl, ⟨rfl, h3⟩, [_], _, rfl, ⟨rfl, h4⟩, [v], [], rfl, ⟨v, rfl, h5⟩, rfl⟩
/-- how much a row of packets, a life is -/
def wP (ps : List Pkt) : Nat := (ps.map fun p => p.2.2.1.length / 16).sum
def wD (d : DoT) : Nat := d.L.length + wP d.L
def wL (l : List DoT) : Nat := (l.map wD).sum
theorem wP_snoc (ps : List Pkt) (p : Pkt) : wP (ps ++ [p]) = wP ps + p.2.2.1.length / 16 := by simp [wP]
theorem wL_snoc (l : List DoT) (d : DoT) : wL (l ++ [d]) = wL l + wD d := by simp [wL]
/-- lists as they are handed in -/
def ShortD (l : List DoT) : Prop := l.length ≤ 140737488351232 ∧ ∀ d ∈ l, d.L.length ≤ 140737488351232 ∧ ∀ p ∈ d.L, p.2.2.1.length ≤ 140737488351232
def SmallD (l : List DoT) : Prop := l.length + wL l ≤ 400
theorem great_c {r : Fr} {va : Value} {l : List DoT} (ha : Arr DoRp r va l) (hs : ShortD l) :
    Con Go.Proofs.Tryz.prog 5 #[va] r [] (Ret fun v η => ∃ b, v = .bool b ∧ (b = false → SmallD l) ∧ η = []) := by
  obtain ⟨hs1, hs2⟩ := hs
  refine Con.of (n := 55) [va] rfl Go.Proofs.Tryz.func5 rfl rfl rfl fun g hg R hR => ?_
  have ha := ha.mono hg
  obtain ⟨a1, c1, rfl⟩ := ha.shape
  refine S.seq (S.region rfl ?_)
  refine O.op (.p rfl) (.as rfl) ?_
  refine O.nil ?_
  refine S.seq (S.region rfl ?_)
  refine O.op (.p rfl) (.mv rfl) ?_
  refine O.op (.p rfl) (.len rfl Go.Proofs.Tryz.underlying22 rfl) ?_
  refine O.op (.p rfl) (.as rfl) ?_
  refine O.nil ?_
  refine S.seq (S.seq (S.region rfl ?_))
  refine O.op (.p rfl) (.as rfl) ?_
  refine O.nil ?_
  refine S.block ?_
  refine S.loopK2 (ι := Nat) (κ := Nat) (fun i n => i ≤ l.length ∧ (n ≤ 400 → n = l.length + wL (l.take i)) ∧ n ≤ 562949953421312) (fun i n => [(4, .int .i64 (i : Int)), (3, .int .i64 (n : Int))]) [(0, _)] (fun i n => []) (fun i n => l.length - i) (0) (l.length) (by exact ⟨Nat.zero_le _, fun _ => by simp [wL], by omega⟩) (.cons rfl (.cons rfl (.nil))) (.cons rfl (.nil)) rfl fun i n hx ih => ?_
  have hm1 := meltRefl (g := g)
  obtain ⟨hx1, hx2, hx3⟩ := hx
  refine S.seq (S.seq (S.region rfl ?_))
  refine O.op (.p rfl) (.mv rfl) ?_
  refine O.op (.p rfl) (.mv rfl) ?_
  refine O.op (.p rfl) (.len rfl Go.Proofs.Tryz.underlying22 rfl) ?_
  refine O.op (.p rfl) (.lss rfl rfl) ?_
  refine O.op (.p rfl) (.mv rfl) ?_
  first | refine O.caseD 12 rfl (fun h12 => ?_) (fun h12 => ?_) | refine O.caseB 12 rfl (fun h12 => ?_) (fun h12 => ?_)
  · refine O.op (.g rfl rfl) (.mv rfl) ?_
    refine O.op (.g rfl rfl) (.leq rfl rfl) ?_
    refine O.op (.p rfl) (.pickT rfl rfl) ?_
    refine O.slot 15 (v' := .bool (decide (n ≤ 400))) rfl (by exact congrArg _ (decide_eq_decide.2 (by omega))) ?_
    refine O.nil ?_
    first | refine S.condD rfl (fun h15 => ?_) (fun h15 => ?_) | refine S.condB rfl (fun h15 => ?_) (fun h15 => ?_)
    · have hi : i < l.length := by omega
      have hn : n ≤ 400 := by simpa using h15
      have h20 : l.take (i + 1) = l.take i ++ [l[i]] := List.take_succ_eq_append_getElem hi
      have hq1 : l[i].2.2.2.2.1.length ≤ 140737488351232 := (hs2 l[i] (List.getElem_mem hi)).1
      have hq2 : ∀ p ∈ l[i].2.2.2.2.1, p.2.2.1.length ≤ 140737488351232 := (hs2 l[i] (List.getElem_mem hi)).2
      have hx2' := hx2 hn
      refine S.skip (S.seq (S.block (S.seq (S.region rfl ?_))))
      refine O.op (.p rfl) (.mv rfl) ?_
      refine O.op (.p rfl) (.mv rfl) ?_
      refine O.op (.p rfl) (.mv rfl) ?_
      refine O.idx' (.p rfl) Go.Proofs.Tryz.underlying22 FactNet11.size31 rfl rfl rfl (by first | assumption | exact Arr.mono hg (by assumption) | exact Arr.left (by assumption) | exact Arr.left (Arr.mono hg (by assumption))) (by decide) (by first | omega | (simp; done) | (simp; omega) | decide) (fun p21 cs21 hp21 hr21 => ?_)
      obtain ⟨a21, c21, rfl, ha21, hw21, hf21, ht21, hz21⟩ := DoRp.open hr21
      refine O.op (.p rfl) (.fieldAddr FactNet11.fld31x4 rfl) ?_
      refine O.op (.p rfl) (.loadAt FactNet11.flat29 rfl (hp21.drop 4) rfl) ?_
      refine O.op (.p rfl) (.len rfl Go.Proofs.Tryz.underlying29 rfl) ?_
      refine O.op (.p rfl) (.add rfl rfl (IntWalk.i64_in _ (by omega))) ?_
      refine O.op (.p rfl) (.as rfl) ?_
      refine O.nil ?_
      refine S.seq (S.region rfl ?_)
      refine O.op (.p rfl) (.as rfl) ?_
      refine O.nil ?_
      refine S.block ?_
      refine S.slot 3 (v' := .int .i64 ((n + l[i].2.2.2.2.1.length : Nat) : Int)) rfl (by rw [Int.natCast_add]) ?_
      refine S.loopK2 (ι := Nat) (κ := Nat) (fun k q => k ≤ l[i].2.2.2.2.1.length ∧ (q ≤ 400 → q = n + l[i].2.2.2.2.1.length + wP (l[i].2.2.2.2.1.take k)) ∧ q ≤ 281474976710656 + 400) (fun k q => [(5, .int .i64 (k : Int)), (3, .int .i64 (q : Int))]) [(0, _), (4, _)] (fun k q => []) (fun k q => l[i].2.2.2.2.1.length - k) (0) (n + l[i].2.2.2.2.1.length) (by exact ⟨Nat.zero_le _, fun _ => by simp [wP], by omega⟩) (.cons rfl (.cons rfl (.nil))) (.cons rfl (.cons rfl (.nil))) rfl fun k q hx ih => ?_
      have hm2 := meltRefl (g := g)
      rename_i ihO
      obtain ⟨hy1, hy2, hy3⟩ := hx
      refine S.seq (S.seq (S.region rfl ?_))
      refine O.op (.p rfl) (.mv rfl) ?_
      refine O.op (.p rfl) (.mv rfl) ?_
      refine O.op (.p rfl) (.mv rfl) ?_
      refine O.idx' (.p rfl) Go.Proofs.Tryz.underlying22 FactNet11.size31 rfl rfl rfl (by first | assumption | exact Arr.mono hg (by assumption) | exact Arr.left (by assumption) | exact Arr.left (Arr.mono hg (by assumption))) (by decide) (by first | omega | (simp; done) | (simp; omega) | decide) (fun p29 cs29 hp29 hr29 => ?_)
      obtain ⟨a29, c29, rfl, ha29, hw29, hf29, ht29, hz29⟩ := DoRp.open hr29
      refine O.op (.p rfl) (.fieldAddr FactNet11.fld31x4 rfl) ?_
      refine O.op (.p rfl) (.loadAt FactNet11.flat29 rfl (hp29.drop 4) rfl) ?_
      refine O.op (.p rfl) (.len rfl Go.Proofs.Tryz.underlying29 rfl) ?_
      refine O.op (.p rfl) (.lss rfl rfl) ?_
      refine O.slot 33 (v' := .bool (decide (k < l[i].2.2.2.2.1.length))) rfl (by exact congrArg _ (decide_eq_decide.2 (by omega))) ?_
      refine O.op (.p rfl) (.mv rfl) ?_
      first | refine O.caseD 34 rfl (fun h34 => ?_) (fun h34 => ?_) | refine O.caseB 34 rfl (fun h34 => ?_) (fun h34 => ?_)
      · refine O.op (.g rfl rfl) (.mv rfl) ?_
        refine O.op (.g rfl rfl) (.leq rfl rfl) ?_
        refine O.op (.p rfl) (.pickT rfl rfl) ?_
        refine O.slot 37 (v' := .bool (decide (q ≤ 400))) rfl (by exact congrArg _ (decide_eq_decide.2 (by omega))) ?_
        refine O.nil ?_
        first | refine S.condD rfl (fun h37 => ?_) (fun h37 => ?_) | refine S.condB rfl (fun h37 => ?_) (fun h37 => ?_)
        · have hk : k < l[i].2.2.2.2.1.length := by simpa using h34
          have hq : q ≤ 400 := by simpa using h37
          have h21 : l[i].2.2.2.2.1.take (k + 1) = l[i].2.2.2.2.1.take k ++ [l[i].2.2.2.2.1[k]] := List.take_succ_eq_append_getElem hk
          have hp := hq2 l[i].2.2.2.2.1[k] (List.getElem_mem hk)
          have hy2' := hy2 hq
          refine S.skip (S.seq (S.block (S.region rfl ?_)))
          refine O.op (.p rfl) (.mv rfl) ?_
          refine O.op (.p rfl) (.mv rfl) ?_
          refine O.op (.p rfl) (.mv rfl) ?_
          refine O.idx' (.p rfl) Go.Proofs.Tryz.underlying22 FactNet11.size31 rfl rfl rfl (by first | assumption | exact Arr.mono hg (by assumption) | exact Arr.left (by assumption) | exact Arr.left (Arr.mono hg (by assumption))) (by decide) (by first | omega | (simp; done) | (simp; omega) | decide) (fun p43 cs43 hp43 hr43 => ?_)
          obtain ⟨a43, c43, rfl, ha43, hw43, hf43, ht43, hz43⟩ := DoRp.open hr43
          refine O.op (.p rfl) (.fieldAddr FactNet11.fld31x4 rfl) ?_
          refine O.op (.p rfl) (.loadAt FactNet11.flat29 rfl (hp43.drop 4) rfl) ?_
          refine O.op (.p rfl) (.mv rfl) ?_
          refine O.idx' (.p rfl) Go.Proofs.Tryz.underlying29 FactNet11.size35 rfl rfl rfl (by first | assumption | exact Arr.mono hg (by assumption) | exact Arr.left (by assumption) | exact Arr.left (Arr.mono hg (by assumption))) (by decide) (by first | omega | (simp; done) | (simp; omega) | decide) (fun p47 cs47 hp47 hr47 => ?_)
          obtain ⟨v47, rfl, hi47, hj47, ha47⟩ := PktRp.open hr47; obtain ⟨a47, c47, rfl⟩ := ha47.shape
          refine O.op (.p rfl) (.fieldAddr FactNet11.fld35x2 rfl) ?_
          refine O.op (.p rfl) (.loadAt FactNet11.flat33 rfl (hp47.drop 2) rfl) ?_
          refine O.op (.p rfl) (.len rfl Go.Proofs.Tryz.underlying33 rfl) ?_
          refine O.op (.p rfl) (.quo rfl rfl (by omega)) ?_
          refine O.slot 51 (v' := .int .i64 ((l[i].2.2.2.2.1[k].2.2.1.length / 16 : Nat) : Int)) rfl (by rw [Int.tdiv_eq_ediv_of_nonneg (by omega), IntWalk.i64_in _ (by omega)]; rfl) ?_
          refine O.op (.p rfl) (.add rfl rfl (IntWalk.i64_in _ (by omega))) ?_
          refine O.op (.p rfl) (.as rfl) ?_
          refine O.nil ?_
          refine S.inBlock (S.region rfl ?_)
          refine O.op (.p rfl) (.mv rfl) ?_
          refine O.op (.p rfl) (.add rfl rfl (IntWalk.i64_in _ (by omega))) ?_
          refine O.op (.p rfl) (.as rfl) ?_
          refine O.nil ?_
          refine S.slot 3 (v' := .int .i64 ((q + l[i].2.2.2.2.1[k].2.2.1.length / 16 : Nat) : Int)) rfl (by rw [Int.natCast_add]) ?_
          refine S.weaken ?_ (ih (k + 1) (q + l[i].2.2.2.2.1[k].2.2.1.length / 16) (by (refine ⟨by omega, fun _ => ?_, by omega⟩; rw [h21, wP_snoc]; omega)) (by omega))
          repeat (first | exact Sub.nil | refine Sub.cons rfl ?_)
        · clear ih
          have hq : 400 < q := by omega
          refine S.exit rfl ?_
          refine S.inBlock (S.region rfl ?_)
          refine O.op (.p rfl) (.mv rfl) ?_
          refine O.op (.p rfl) (.add rfl rfl (IntWalk.i64_in _ (by omega))) ?_
          refine O.op (.p rfl) (.as rfl) ?_
          refine O.nil ?_
          refine S.weaken ?_ (ihO (i + 1) q (by exact ⟨by omega, fun h => absurd h (by omega), by omega⟩) (by omega))
          repeat (first | exact Sub.nil | refine Sub.cons rfl ?_)
      · clear ih
        have hk : k = l[i].2.2.2.2.1.length := by omega
        subst hk
        refine O.opN rfl rfl rfl ?_
        refine O.opN rfl rfl rfl ?_
        refine O.op (.p rfl) (.pickF rfl rfl) ?_
        refine O.nil ?_
        refine S.condF rfl ?_
        refine S.exit rfl ?_
        refine S.inBlock (S.region rfl ?_)
        refine O.op (.p rfl) (.mv rfl) ?_
        refine O.op (.p rfl) (.add rfl rfl (IntWalk.i64_in _ (by omega))) ?_
        refine O.op (.p rfl) (.as rfl) ?_
        refine O.nil ?_
        refine S.weaken ?_ (ihO (i + 1) q (by refine ⟨by omega, fun h => ?_, by omega⟩; have h5 := hy2 h; rw [List.take_length] at h5; rw [h20, wL_snoc]; simp only [wD, DoT.L]; omega) (by omega))
        repeat (first | exact Sub.nil | refine Sub.cons rfl ?_)
    · clear ih
      have hn : 400 < n := by omega
      refine S.exit rfl ?_
      refine S.seq (S.region rfl ?_)
      refine O.op (.p rfl) (.mv rfl) ?_
      refine O.op (.p rfl) (.gtr rfl rfl) ?_
      refine O.op (.p rfl) (.as rfl) ?_
      refine O.nil ?_
      refine S.ret Go.Proofs.Tryz.results5 rfl fun w hw => Holds.end_ hR hw ?_
      exact ⟨_, ⟨_, rfl, fun h => absurd h (by simp; omega), rfl⟩, by repeat (first | exact Picks.all | exact Picks.nil | (apply Picks.cons; focus (repeat (first | exact Sel.here | apply Sel.there))) | apply Picks.skip)⟩
  · clear ih
    have hi : i = l.length := by omega
    subst hi
    rw [List.take_length] at hx2
    refine O.opN rfl rfl rfl ?_
    refine O.opN rfl rfl rfl ?_
    refine O.op (.p rfl) (.pickF rfl rfl) ?_
    refine O.nil ?_
    refine S.condF rfl ?_
    refine S.exit rfl ?_
    refine S.seq (S.region rfl ?_)
    refine O.op (.p rfl) (.mv rfl) ?_
    refine O.op (.p rfl) (.gtr rfl rfl) ?_
    refine O.op (.p rfl) (.as rfl) ?_
    refine O.nil ?_
    refine S.ret Go.Proofs.Tryz.results5 rfl fun w hw => Holds.end_ hR hw ?_
    exact ⟨_, ⟨_, rfl, fun h => by have := of_decide_eq_false h; unfold SmallD; have h5 := hx2 (by omega); omega, rfl⟩, by repeat (first | exact Picks.all | exact Picks.nil | (apply Picks.cons; focus (repeat (first | exact Sel.here | apply Sel.there))) | apply Picks.skip)⟩

end Go.Proofs.YthaebmfgelaleaaGreat
end
end
section
open Go Go.Sp
set_option maxRecDepth 100000
attribute [local irreducible] obj Own OwnP
namespace Go.Proofs.YthaebmfgelaleaaGreat

/-- all packets -/
def allP (ls : NetM) : List Pkt := ls.flatMap (·.2)
theorem atL_cons (x : (Int × Int) × List Pkt) (ls : NetM) (k : Int × Int) : atL (x :: ls) k = if x.1 = k then x.2 else atL ls k := by
  unfold atL
  simp only [lkA]
  split <;> rfl
theorem atL_put (ls : NetM) (k : Int × Int) (v : List Pkt) (j : Int × Int) : atL (putA ls k v) j = if j = k then v else atL ls j := by
  unfold atL
  rw [lkA_put]
  split <;> rfl
theorem atL_del {ls : NetM} (h : (ls.map (·.1)).Nodup) (k j : Int × Int) : atL (delA ls k) j = if j = k then [] else atL ls j := by
  unfold atL
  rw [lkA_del h]
  split <;> rfl
theorem allP_put (k : Int × Int) (v : List Pkt) : ∀ ls : NetM, (allP (putA ls k v) ++ atL ls k).Perm (allP ls ++ v)
  | [] => by simp [putA, lkA, allP, atL]
  | x :: ls => by
    rw [putA_cons, atL_cons]
    by_cases h : x.1 = k
    · rw [if_pos h, if_pos h]
      simp only [allP, List.flatMap_cons]
      have h1 : (v ++ List.flatMap (·.2) ls ++ x.2).Perm (x.2 ++ (v ++ List.flatMap (·.2) ls)) := List.perm_append_comm
      refine h1.trans ?_
      rw [List.append_assoc]
      exact List.Perm.append_left _ List.perm_append_comm
    · rw [if_neg h, if_neg h]
      simp only [allP, List.flatMap_cons, List.append_assoc]
      exact List.Perm.append_left _ (allP_put k v ls)
theorem allP_del (k : Int × Int) : ∀ ls : NetM, (allP (delA ls k) ++ atL ls k).Perm (allP ls)
  | [] => by simp [delA, allP, atL, lkA]
  | x :: ls => by
    rw [delA, atL_cons]
    by_cases h : x.1 = k
    · rw [if_pos h, if_pos h]
      simp only [allP, List.flatMap_cons]
      exact List.perm_append_comm
    · rw [if_neg h, if_neg h]
      simp only [allP, List.flatMap_cons, List.append_assoc]
      exact List.Perm.append_left _ (allP_del k ls)
theorem allP_send {ls : NetM} {p : Pkt} (h : fullL ls p = false) : (allP (sendL ls p)).Perm (p :: allP ls) := by
  have e : sendL ls p = putA ls (keyP p) (atL ls (keyP p) ++ [p]) := by rw [sendL, h]; rfl
  rw [e]
  have h1 := allP_put (keyP p) (atL ls (keyP p) ++ [p]) ls
  have h2 : (allP ls ++ (atL ls (keyP p) ++ [p])).Perm ((p :: allP ls) ++ atL ls (keyP p)) := by
    refine (List.Perm.append_left _ List.perm_append_comm).trans ?_
    rw [← List.append_assoc]
    refine List.Perm.append_right _ ?_
    exact List.perm_append_comm
  exact (List.perm_append_right_iff _).1 (h1.trans h2)
theorem perm_at {α : Type} (l : List α) (i : Nat) (h : i < l.length) : (l[i] :: l.eraseIdx i).Perm l := by
  rw [List.eraseIdx_eq_take_drop_succ]
  have e : l.take i ++ l[i] :: l.drop (i + 1) = l := by rw [← List.drop_eq_getElem_cons h, List.take_append_drop]
  have h2 : (l[i] :: (l.take i ++ l.drop (i + 1))).Perm (l.take i ++ l[i] :: l.drop (i + 1)) := List.perm_middle.symm
  rwa [e] at h2
theorem allP_take {ls : NetM} {k : Int × Int} {i : Nat} (h : i < (atL ls k).length) : ((atL ls k)[i] :: allP (takeL ls k i)).Perm (allP ls) := by
  unfold takeL
  split
  · rename_i h1
    have h2 := allP_del k ls
    generalize atL ls k = L at h h1 h2 ⊢
    obtain ⟨p, rfl⟩ := List.length_eq_one_iff.1 h1
    obtain rfl : i = 0 := by simpa using h
    exact (List.perm_append_comm (l₁ := [p])).trans h2
  · have h2 := allP_put k ((atL ls k).eraseIdx i) ls
    have h3 := perm_at (atL ls k) i h
    have h4 : (((atL ls k)[i] :: allP (putA ls k ((atL ls k).eraseIdx i))) ++ (atL ls k).eraseIdx i).Perm (allP ls ++ (atL ls k).eraseIdx i) := by
      refine List.Perm.trans ?_ h2
      have h5 : ((atL ls k)[i] :: allP (putA ls k ((atL ls k).eraseIdx i)) ++ (atL ls k).eraseIdx i).Perm (allP (putA ls k ((atL ls k).eraseIdx i)) ++ ((atL ls k)[i] :: (atL ls k).eraseIdx i)) := by
        rw [List.cons_append]
        exact List.perm_middle.symm
      exact h5.trans (List.Perm.append_left _ h3)
    exact (List.perm_append_right_iff _).1 h4
/-- as a net's packets are -/
structure NInv (ls : NetM) : Prop where
  nd : (ls.map (·.1)).Nodup
  key : ∀ k, ∀ p ∈ atL ls k, keyP p = k ∧ p.2.2.1.length ≤ 262144
  ne : ∀ x ∈ ls, x.2 ≠ []
theorem NInv.nil : NInv [] := ⟨.nil, fun k p h => by simp [atL, lkA] at h, by simp⟩
theorem mem_setA {ls : NetM} {k : Int × Int} {v : List Pkt} {x : (Int × Int) × List Pkt} (h : x ∈ putA ls k v) : x = (k, v) ∨ x ∈ ls := by
  induction ls with
  | nil => simp [putA, lkA] at h; exact .inl h
  | cons y ls ih =>
    rw [putA_cons] at h
    split at h
    · rcases List.mem_cons.1 h with h | h
      · exact .inl h
      · exact .inr (List.mem_cons_of_mem _ h)
    · rcases List.mem_cons.1 h with h | h
      · exact .inr (h ▸ List.mem_cons_self ..)
      · exact (ih h).imp id (List.mem_cons_of_mem _)
theorem NInv.put {ls : NetM} (o : NInv ls) {k : Int × Int} {v : List Pkt} (hv : v ≠ []) (hk : ∀ p ∈ v, keyP p = k ∧ p.2.2.1.length ≤ 262144) : NInv (putA ls k v) where
  nd := putA_nodup o.nd k v
  key j p hp := by
    rw [atL_put] at hp
    split at hp
    · rename_i e; subst e; exact hk p hp
    · exact o.key j p hp
  ne x hx := by
    rcases mem_setA hx with h | h
    · subst h; exact hv
    · exact o.ne x h
theorem NInv.send {ls : NetM} (o : NInv ls) {p : Pkt} (hp : p.2.2.1.length ≤ 262144) : NInv (sendL ls p) := by
  unfold sendL
  split
  · exact o
  · refine o.put (by simp) fun q hq => ?_
    rcases List.mem_append.1 hq with h | h
    · exact o.key _ q h
    · rw [List.mem_singleton.1 h]; exact ⟨rfl, hp⟩
theorem NInv.take {ls : NetM} (o : NInv ls) {k : Int × Int} {i : Nat} (h : i < (atL ls k).length) : NInv (takeL ls k i) := by
  unfold takeL
  split
  · exact ⟨delA_nodup o.nd k, fun j p hp => by
      rw [atL_del o.nd] at hp
      split at hp
      · cases hp
      · exact o.key j p hp, fun x hx => o.ne x ((delA_sub k ls).subset hx)⟩
  · refine o.put (fun e => ?_) fun q hq => o.key _ q (List.mem_of_mem_eraseIdx hq)
    have := List.length_eraseIdx_of_lt h
    rw [e] at this
    simp at this
    omega
theorem atL_mem {ls : NetM} (h : (ls.map (·.1)).Nodup) {x : (Int × Int) × List Pkt} (hx : x ∈ ls) : atL ls x.1 = x.2 := by
  induction ls with
  | nil => cases hx
  | cons y ls ih =>
    rw [List.map_cons, List.nodup_cons] at h
    rw [atL_cons]
    rcases List.mem_cons.1 hx with rfl | hx
    · simp
    · rw [if_neg (fun e : y.1 = x.1 => h.1 (by rw [e]; exact List.mem_map.2 ⟨x, hx, rfl⟩)), ih h.2 hx]
theorem allP_len (ls : NetM) : (allP ls).length = (ls.map fun x => x.2.length).sum := by
  simp [allP, List.length_flatMap]
theorem sum_links {ls : NetM} (h : (ls.map (·.1)).Nodup) : ((linksS ls).map fun k => (atL ls k).length).sum = (allP ls).length := by
  have h1 : (linksS ls).Perm (ls.map (·.1)) := sortF_perm cmp2 _
  rw [(h1.map _).sum_nat, allP_len, List.map_map]
  congr 1
  exact List.map_congr_left fun x hx => by simp only [Function.comp]; rw [atL_mem h hx]
theorem NInv.len {ls : NetM} (o : NInv ls) : ls.length ≤ (allP ls).length := by
  rw [allP_len]
  have h := o.ne
  clear o
  induction ls with
  | nil => simp
  | cons x ls ih =>
    have h1 := h x (List.mem_cons_self ..)
    have h2 := ih fun y hy => h y (List.mem_cons_of_mem _ hy)
    have : 0 < x.2.length := List.length_pos_iff.2 h1
    simp only [List.map_cons, List.sum_cons, List.length_cons]
    omega
theorem mem_allP {ls : NetM} {k : Int × Int} {p : Pkt} (h : p ∈ atL ls k) : p ∈ allP ls := by
  induction ls with
  | nil => simp [atL, lkA] at h
  | cons x ls ih =>
    rw [atL_cons] at h
    simp only [allP, List.flatMap_cons, List.mem_append]
    split at h
    · exact .inl h
    · exact .inr (ih h)

end Go.Proofs.YthaebmfgelaleaaGreat
end
