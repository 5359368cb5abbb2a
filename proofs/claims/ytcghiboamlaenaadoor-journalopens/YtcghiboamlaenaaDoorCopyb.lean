/- Texts of this proof, one behind the other. -/
import Derived.Test.YtcghiboamlaenaaDoorKit1
import Derived.Test.YtcghiboamlaenaaDoorSpKit
import Derived.Test.YtcghiboamlaenaaDoorSpGp
import Derived.Test.YtcghiboamlaenaaDoorWire1
section
open Go Go.Sp
set_option maxRecDepth 100000
attribute [local irreducible] obj Own OwnP
namespace Go.Proofs.YtcghiboamlaenaaDoor
theorem FactKit7.flat22 : Go.Sp.flat1 Go.Proofs.Tryd.prog 22 = true := by kernel_rfl
theorem FactKit7.flat23 : Go.Sp.flat1 Go.Proofs.Tryd.prog 23 = true := by kernel_rfl
theorem FactKit7.fld25x0 : fieldOff Go.Proofs.Tryd.prog 25 0 = some 0 := by kernel_rfl
theorem FactKit7.fld25x1 : fieldOff Go.Proofs.Tryd.prog 25 1 = some 1 := by kernel_rfl
theorem FactKit7.mixed : Go.Proofs.Tryd.prog.follows .mixedOrders = true := by kernel_rfl
theorem FactKit7.ok22 : callable Go.Proofs.Tryd.prog 22 = true := by kernel_rfl
theorem FactKit7.ok33 : callable Go.Proofs.Tryd.prog 33 = true := by kernel_rfl
theorem FactKit7.size25 : (Go.Proofs.Tryd.prog.info? 25).map (·.size) = some 2 := by kernel_rfl

/-- an entry, as it reads -/
abbrev EntT : Type := UInt8 × List UInt8 × Unit
abbrev EntRp : Rp EntT := Rp.prod Rp.u8 (Rp.prod (Rp.slice Rp.u8) Rp.unit)
theorem EntRp.open {h : Fr} {cs : List Value} {x : EntT} (r : EntRp.rel h cs x) : ∃ v, cs = [byteV x.1, v] ∧ Arr Rp.u8 h v x.2.1 := by
  obtain ⟨c1, c2, rfl, hb, c3, c4, rfl, ⟨v, rfl, ha⟩, hu⟩ := r
  refine ⟨v, ?_, ha⟩
  rw [show c1 = [byteV x.1] from hb, show c4 = [] from hu]; rfl
theorem EntRp.mk {h : Fr} {v : Value} {k : UInt8} {xs : List UInt8} (ha : Arr Rp.u8 h v xs) : EntRp.rel h [byteV k, v] (k, xs, ()) := ⟨[byteV k], [v], rfl, rfl, [v], [], rfl, ⟨v, rfl, ha⟩, rfl⟩
theorem sameEntry_c {r : Fr} {k m : UInt8} {va vb : Value} {xs ys : List UInt8} (ha : Arr Rp.u8 r va xs) (hb : Arr Rp.u8 r vb ys) :
    Con Go.Proofs.Tryd.prog 33 #[.agg #[byteV k, va], .agg #[byteV m, vb]] r [] (Ret fun v η => v = .bool (decide ((k, xs, ()) = ((m, ys, ()) : EntT))) ∧ η = []) := by
  refine Con.of (n := 17) [.agg #[byteV k, va], .agg #[byteV m, vb]] rfl Go.Proofs.Tryd.func33 rfl rfl rfl fun g hg R hR => ?_
  have ha := ha.mono hg
  have hb := hb.mono hg
  obtain ⟨a1, c1, rfl⟩ := ha.shape
  obtain ⟨a2, c2, rfl⟩ := hb.shape
  refine S.seq (S.region rfl ?_)
  refine O.opE (.p rfl) (.box (cs := [_, _]) rfl rfl) ?_
  rintro _ _ ⟨b2, rfl, rfl⟩
  refine O.opE (.p rfl) (.box (cs := [_, _]) rfl rfl) ?_
  rintro _ _ ⟨b3, rfl, rfl⟩
  refine O.op (.p rfl) (.as rfl) ?_
  refine O.nil ?_
  refine S.seq (S.region rfl ?_)
  refine O.op (.p rfl) (.fieldObj FactKit7.fld25x0 rfl) ?_
  refine O.op (.p rfl) (.loadObj FactKit7.flat22 rfl (by repeat (first | exact Sel.here | apply Sel.there)) rfl) ?_
  refine O.op (.p rfl) (.fieldObj FactKit7.fld25x0 rfl) ?_
  refine O.op (.p rfl) (.loadObj FactKit7.flat22 rfl (by repeat (first | exact Sel.here | apply Sel.there)) rfl) ?_
  refine O.op (.p rfl) (.eql rfl rfl) ?_
  refine O.op (.p rfl) (.mv rfl) ?_
  first | refine O.caseD 10 rfl (fun h10 => ?_) (fun h10 => ?_) | refine O.caseB 10 rfl (fun h10 => ?_) (fun h10 => ?_)
  · have hk : k = m := UInt8.toNat_inj.1 (by omega)
    subst hk
    refine O.op (.g rfl rfl) (.fieldObj FactKit7.fld25x1 rfl) ?_
    refine O.op (.g rfl rfl) (.loadObj FactKit7.flat23 rfl (by repeat (first | exact Sel.here | apply Sel.there)) rfl) ?_
    refine O.op (.g rfl rfl) (.fieldObj FactKit7.fld25x1 rfl) ?_
    refine O.op (.g rfl rfl) (.loadObj FactKit7.flat23 rfl (by repeat (first | exact Sel.here | apply Sel.there)) rfl) ?_
    refine O.call0 (.g rfl rfl) rfl FactKit7.ok22 rfl rfl (SameBytes_c (by first | assumption | exact Arr.mono hg (by assumption) | exact Arr.left (by assumption) | exact Arr.left (Arr.mono hg (by assumption))) (by first | assumption | exact Arr.mono hg (by assumption) | exact Arr.left (by assumption) | exact Arr.left (Arr.mono hg (by assumption)))) ?_
    rintro v15 _ ⟨rfl, rfl⟩
    try simp only [List.cons_append, List.nil_append, List.append_nil]
    refine O.op (.p rfl) (.pickT rfl rfl) ?_
    refine O.op (.p rfl) (.as rfl) ?_
    refine O.nil ?_
    refine S.ret Go.Proofs.Tryd.results33 rfl fun w hw => Holds.end_ hR hw ?_
    exact ⟨_, ⟨by simp, rfl⟩, by repeat (first | exact Picks.all | exact Picks.nil | (apply Picks.cons; focus (repeat (first | exact Sel.here | apply Sel.there))) | apply Picks.skip)⟩
  · have hk : k ≠ m := fun h => h10 (by rw [h])
    refine O.opN rfl rfl rfl ?_
    refine O.opN rfl rfl rfl ?_
    refine O.opN rfl rfl rfl ?_
    refine O.opN rfl rfl rfl ?_
    refine O.opN rfl rfl rfl ?_
    refine O.op (.p rfl) (.pickF rfl rfl) ?_
    refine O.op (.p rfl) (.as rfl) ?_
    refine O.nil ?_
    refine S.ret Go.Proofs.Tryd.results33 rfl fun w hw => Holds.end_ hR hw ?_
    exact ⟨_, ⟨by simp [hk], rfl⟩, by repeat (first | exact Picks.all | exact Picks.nil | (apply Picks.cons; focus (repeat (first | exact Sel.here | apply Sel.there))) | apply Picks.skip)⟩
theorem sameEntries_c {r : Fr} {va vb : Value} {xs ys : List EntT} (ha : Arr EntRp r va xs) (hb : Arr EntRp r vb ys) :
    Con Go.Proofs.Tryd.prog 15 #[va, vb] r [] (Ret fun v η => v = .bool (decide (xs = ys)) ∧ η = []) := by
  refine Con.of (n := 27) [va, vb] rfl Go.Proofs.Tryd.func15 rfl rfl rfl fun g hg R hR => ?_
  have ha := ha.mono hg
  have hb := hb.mono hg
  obtain ⟨a1, c1, rfl⟩ := ha.shape
  obtain ⟨a2, c2, rfl⟩ := hb.shape
  have hbd := ha.bound
  refine S.seq (S.region rfl ?_)
  refine O.op (.p rfl) (.as rfl) ?_
  refine O.nil ?_
  refine S.seq (S.seq (S.region rfl ?_))
  refine O.op (.p rfl) (.mv rfl) ?_
  refine O.op (.p rfl) (.len rfl Go.Proofs.Tryd.underlying35 rfl) ?_
  refine O.op (.p rfl) (.mv rfl) ?_
  refine O.op (.p rfl) (.len rfl Go.Proofs.Tryd.underlying35 rfl) ?_
  refine O.op (.p rfl) (.neq rfl rfl) ?_
  refine O.nil ?_
  first | refine S.condD rfl (fun h10 => ?_) (fun h10 => ?_) | refine S.condB rfl (fun h10 => ?_) (fun h10 => ?_)
  · refine S.seq (S.region rfl ?_)
    refine O.op (.p rfl) (.as rfl) ?_
    refine O.nil ?_
    refine S.ret Go.Proofs.Tryd.results15 rfl fun w hw => Holds.end_ hR hw ?_
    have : xs ≠ ys := fun h => by subst h; simp at h10
    exact ⟨_, ⟨by simp [this], rfl⟩, by repeat (first | exact Picks.all | exact Picks.nil | (apply Picks.cons; focus (repeat (first | exact Sel.here | apply Sel.there))) | apply Picks.skip)⟩
  · have hl : xs.length = ys.length := by omega
    refine S.skip (S.seq (S.seq (S.region rfl ?_)))
    refine O.op (.p rfl) (.as rfl) ?_
    refine O.nil ?_
    refine S.block ?_
    refine S.loopK (ι := Nat) (fun i => i ≤ xs.length ∧ xs.take i = ys.take i) (fun i => [(5, .int .i64 (i : Int))]) [(0, _), (1, _)] (fun i => []) (fun i => xs.length - i) (0) (by simp) (.cons rfl (.nil)) (.cons rfl (.cons rfl (.nil))) rfl fun i hx ih => ?_
    have hm1 := meltRefl (g := g)
    obtain ⟨hx1, hx2⟩ := hx
    refine S.seq (S.seq (S.region rfl ?_))
    refine O.op (.p rfl) (.mv rfl) ?_
    refine O.op (.p rfl) (.mv rfl) ?_
    refine O.op (.p rfl) (.len rfl Go.Proofs.Tryd.underlying35 rfl) ?_
    refine O.op (.p rfl) (.lss rfl rfl) ?_
    refine O.nil ?_
    first | refine S.condD rfl (fun h14 => ?_) (fun h14 => ?_) | refine S.condB rfl (fun h14 => ?_) (fun h14 => ?_)
    · have hi : i < xs.length := by omega
      have hi2 : i < ys.length := by omega
      refine S.skip (S.seq (S.block (S.seq (S.regionD (L := [0, 1, 2, 3, 4, 5, 6, 7, 8, 9]) FactKit7.mixed (by kernel_rfl) ?_))))
      refine .quiet (.p rfl) rfl (fun _ => .mv rfl) ?_
      refine .quiet (.p rfl) rfl (fun _ => .mv rfl) ?_
      refine OD.idx' (.p rfl) Go.Proofs.Tryd.underlying35 FactKit7.size25 rfl rfl rfl (by first | assumption | exact Arr.mono hg (by assumption) | exact Arr.left (by assumption) | exact Arr.left (Arr.mono hg (by assumption))) (by decide) (by first | omega | (simp; done) | (simp; omega) | decide) (fun p19 cs19 hp19 hr19 => ?_)
      obtain ⟨v19, rfl, ha19⟩ := EntRp.open hr19; obtain ⟨a19, c19, rfl⟩ := ha19.shape
      refine .quiet (.p rfl) rfl (fun _ => .loadAgg Go.Proofs.Tryd.isAgg25 (by kernel_rfl) rfl hp19) ?_
      refine .quiet (.p rfl) rfl (fun _ => .mv rfl) ?_
      refine .quiet (.p rfl) rfl (fun _ => .mv rfl) ?_
      refine OD.idx' (.p rfl) Go.Proofs.Tryd.underlying35 FactKit7.size25 rfl rfl rfl (by first | assumption | exact Arr.mono hg (by assumption) | exact Arr.left (by assumption) | exact Arr.left (Arr.mono hg (by assumption))) (by decide) (by first | omega | (simp; done) | (simp; omega) | decide) (fun p23 cs23 hp23 hr23 => ?_)
      obtain ⟨v23, rfl, ha23⟩ := EntRp.open hr23; obtain ⟨a23, c23, rfl⟩ := ha23.shape
      refine .quiet (.p rfl) rfl (fun _ => .loadAgg Go.Proofs.Tryd.isAgg25 (by kernel_rfl) rfl hp23) ?_
      refine OD.call0 (.p rfl) (by kernel_rfl) rfl FactKit7.ok33 rfl rfl (sameEntry_c (by first | assumption | exact Arr.mono hg (by assumption) | exact Arr.left (by assumption) | exact Arr.left (Arr.mono hg (by assumption))) (by first | assumption | exact Arr.mono hg (by assumption) | exact Arr.left (by assumption) | exact Arr.left (Arr.mono hg (by assumption)))) ?_
      rintro v25 _ ⟨rfl, rfl⟩
      try simp only [List.cons_append, List.nil_append, List.append_nil]
      refine .quiet (.p rfl) rfl (fun _ => (by first | exact .notD rfl | exact .not rfl)) ?_
      refine .nil ?_
      first | refine S.condD rfl (fun h26 => ?_) (fun h26 => ?_) | refine S.condB rfl (fun h26 => ?_) (fun h26 => ?_)
      · refine S.seq (S.region rfl ?_)
        refine O.op (.p rfl) (.as rfl) ?_
        refine O.nil ?_
        refine S.ret Go.Proofs.Tryd.results15 rfl fun w hw => Holds.end_ hR hw ?_
        have : xs ≠ ys := fun h => by subst h; simp at h26
        exact ⟨_, ⟨by simp [this], rfl⟩, by repeat (first | exact Picks.all | exact Picks.nil | (apply Picks.cons; focus (repeat (first | exact Sel.here | apply Sel.there))) | apply Picks.skip)⟩
      · have he : xs[i] = ys[i] := by
          have h27 : (xs[i].1, xs[i].2.1, ()) = ((ys[i].1, ys[i].2.1, ()) : EntT) := by simpa using h26
          exact h27
        refine S.skip (S.inBlock (S.region rfl ?_))
        refine O.op (.p rfl) (.mv rfl) ?_
        refine O.op (.p rfl) (.add rfl rfl (IntWalk.i64_in _ (by omega))) ?_
        refine O.op (.p rfl) (.as rfl) ?_
        refine O.nil ?_
        refine S.weaken ?_ (ih (i + 1) (by (refine ⟨by omega, ?_⟩; rw [List.take_succ_eq_append_getElem hi, List.take_succ_eq_append_getElem hi2, hx2, he])) (by omega))
        repeat (first | exact Sub.nil | refine Sub.cons rfl ?_)
    · have hi : i = xs.length := by omega
      clear ih
      subst hi
      rw [List.take_length, hl, List.take_length] at hx2
      refine S.exit rfl ?_
      refine S.seq (S.region rfl ?_)
      refine O.op (.p rfl) (.as rfl) ?_
      refine O.nil ?_
      refine S.ret Go.Proofs.Tryd.results15 rfl fun w hw => Holds.end_ hR hw ?_
      exact ⟨_, ⟨by simp [hx2], rfl⟩, by repeat (first | exact Picks.all | exact Picks.nil | (apply Picks.cons; focus (repeat (first | exact Sel.here | apply Sel.there))) | apply Picks.skip)⟩
def entSum (xs : List EntT) : Nat := (xs.map fun e => e.2.1.length / 8).sum
theorem entSum_snoc (xs : List EntT) (e : EntT) : entSum (xs ++ [e]) = entSum xs + e.2.1.length / 8 := by simp [entSum]
theorem entriesOf_c {r : Fr} {va : Value} {most : Int} {xs : List EntT} (ha : Arr EntRp r va xs) (hm : most ≤ 1000000000000) :
    Con Go.Proofs.Tryd.prog 12 #[va, .int .i64 most] r [] (Ret fun v η => ∃ z : Int, v = .int .i64 z ∧ (z ≤ most → z = xs.length + entSum xs) ∧ η = []) := by
  refine Con.of (n := 30) [va, .int .i64 most] rfl Go.Proofs.Tryd.func12 rfl rfl rfl fun g hg R hR => ?_
  have ha := ha.mono hg
  obtain ⟨a1, c1, rfl⟩ := ha.shape
  have hbd := ha.bound
  refine S.seq (S.region rfl ?_)
  refine O.op (.p rfl) (.as rfl) ?_
  refine O.nil ?_
  refine S.seq (S.region rfl ?_)
  refine O.op (.p rfl) (.mv rfl) ?_
  refine O.op (.p rfl) (.len rfl Go.Proofs.Tryd.underlying35 rfl) ?_
  refine O.op (.p rfl) (.as rfl) ?_
  refine O.nil ?_
  refine S.seq (S.seq (S.region rfl ?_))
  refine O.op (.p rfl) (.as rfl) ?_
  refine O.nil ?_
  refine S.block ?_
  refine S.loopK2 (ι := Nat) (κ := Nat) (fun i z => i ≤ xs.length ∧ z = xs.length + entSum (xs.take i) ∧ z ≤ 9223372036854775807) (fun i z => [(6, .int .i64 (i : Int)), (5, .int .i64 (z : Int))]) [(0, _), (1, _)] (fun i z => []) (fun i z => xs.length - i) (0) (xs.length) (by simp [entSum]; omega) (.cons rfl (.cons rfl (.nil))) (.cons rfl (.cons rfl (.nil))) rfl fun i z hx ih => ?_
  have hm1 := meltRefl (g := g)
  obtain ⟨hx1, hx2, hx3⟩ := hx
  refine S.seq (S.seq (S.region rfl ?_))
  refine O.op (.p rfl) (.mv rfl) ?_
  refine O.op (.p rfl) (.mv rfl) ?_
  refine O.op (.p rfl) (.len rfl Go.Proofs.Tryd.underlying35 rfl) ?_
  refine O.op (.p rfl) (.lss rfl rfl) ?_
  refine O.op (.p rfl) (.mv rfl) ?_
  first | refine O.caseD 13 rfl (fun h13 => ?_) (fun h13 => ?_) | refine O.caseB 13 rfl (fun h13 => ?_) (fun h13 => ?_)
  · refine O.op (.g rfl rfl) (.mv rfl) ?_
    refine O.op (.g rfl rfl) (.mv rfl) ?_
    refine O.op (.g rfl rfl) (.leq rfl rfl) ?_
    refine O.op (.p rfl) (.pickT rfl rfl) ?_
    refine O.nil ?_
    first | refine S.condD rfl (fun h17 => ?_) (fun h17 => ?_) | refine S.condB rfl (fun h17 => ?_) (fun h17 => ?_)
    · have hi : i < xs.length := by omega
      have h20 : xs.take (i + 1) = xs.take i ++ [xs[i]] := List.take_succ_eq_append_getElem hi
      refine S.skip (S.seq (S.block (S.region rfl ?_)))
      refine O.op (.p rfl) (.mv rfl) ?_
      refine O.op (.p rfl) (.mv rfl) ?_
      refine O.op (.p rfl) (.mv rfl) ?_
      refine O.idx' (.p rfl) Go.Proofs.Tryd.underlying35 FactKit7.size25 rfl rfl rfl (by first | assumption | exact Arr.mono hg (by assumption) | exact Arr.left (by assumption) | exact Arr.left (Arr.mono hg (by assumption))) (by decide) (by first | omega | (simp; done) | (simp; omega) | decide) (fun p23 cs23 hp23 hr23 => ?_)
      obtain ⟨v23, rfl, ha23⟩ := EntRp.open hr23; obtain ⟨a23, c23, rfl⟩ := ha23.shape
      refine O.op (.p rfl) (.fieldAddr FactKit7.fld25x1 rfl) ?_
      refine O.op (.p rfl) (.loadAt FactKit7.flat23 rfl (hp23.drop 1) rfl) ?_
      refine O.op (.p rfl) (.len rfl Go.Proofs.Tryd.underlying23 rfl) ?_
      have hb23 := ha23.bound
      refine O.op (.p rfl) (.quo rfl rfl (by omega)) ?_
      refine O.slot 27 (v' := .int .i64 ((xs[i].2.1.length / 8 : Nat) : Int)) rfl (by rw [Int.tdiv_eq_ediv_of_nonneg (by omega), IntWalk.i64_in _ (by omega)]; rfl) ?_
      refine O.op (.p rfl) (.add rfl rfl (IntWalk.i64_in _ (by omega))) ?_
      refine O.op (.p rfl) (.as rfl) ?_
      refine O.nil ?_
      refine S.inBlock (S.region rfl ?_)
      refine O.op (.p rfl) (.mv rfl) ?_
      refine O.op (.p rfl) (.add rfl rfl (IntWalk.i64_in _ (by omega))) ?_
      refine O.op (.p rfl) (.as rfl) ?_
      refine O.nil ?_
      refine S.weaken ?_ (ih (i + 1) (z + xs[i].2.1.length / 8) (by (refine ⟨by omega, ?_, by omega⟩; rw [h20, entSum_snoc]; omega)) (by omega))
      repeat (first | exact Sub.nil | refine Sub.cons rfl ?_)
    · clear ih
      refine S.exit rfl ?_
      refine S.seq (S.region rfl ?_)
      refine O.op (.p rfl) (.mv rfl) ?_
      refine O.op (.p rfl) (.as rfl) ?_
      refine O.nil ?_
      refine S.ret Go.Proofs.Tryd.results12 rfl fun w hw => Holds.end_ hR hw ?_
      exact ⟨_, ⟨z, rfl, by omega, rfl⟩, by repeat (first | exact Picks.all | exact Picks.nil | (apply Picks.cons; focus (repeat (first | exact Sel.here | apply Sel.there))) | apply Picks.skip)⟩
  · clear ih
    have hi : i = xs.length := by omega
    subst hi
    rw [List.take_length] at hx2
    refine O.opN rfl rfl rfl ?_
    refine O.opN rfl rfl rfl ?_
    refine O.opN rfl rfl rfl ?_
    refine O.op (.p rfl) (.pickF rfl rfl) ?_
    refine O.nil ?_
    refine S.condF rfl ?_
    refine S.exit rfl ?_
    refine S.seq (S.region rfl ?_)
    refine O.op (.p rfl) (.mv rfl) ?_
    refine O.op (.p rfl) (.as rfl) ?_
    refine O.nil ?_
    refine S.ret Go.Proofs.Tryd.results12 rfl fun w hw => Holds.end_ hR hw ?_
    exact ⟨_, ⟨z, rfl, by omega, rfl⟩, by repeat (first | exact Picks.all | exact Picks.nil | (apply Picks.cons; focus (repeat (first | exact Sel.here | apply Sel.there))) | apply Picks.skip)⟩

end Go.Proofs.YtcghiboamlaenaaDoor
end
section
open Go Go.Sp
set_option maxRecDepth 100000
attribute [local irreducible] obj Own OwnP
namespace Go.Proofs.YtcghiboamlaenaaDoor
theorem FactCopyb.elem5 : elemIs Go.Proofs.Tryd.prog 5 1 1 [.int .u8 0] := elemIs.mk (by kernel_rfl) rfl

theorem CopyBytes_c {r : Fr} {va : Value} {xs : List UInt8} (ha : Arr Rp.u8 r va xs) (hl : xs.length ≤ 140737488355328) :
    Con Go.Proofs.Tryd.prog 16 #[va] r [] (Ret fun v η => ∃ a c, v = .slice a xs.length c ∧ η = [OwnP Rp.u8 5 v xs]) := by
  refine Con.of (n := 7) [va] rfl Go.Proofs.Tryd.func16 rfl rfl rfl fun g hg R hR => ?_
  obtain ⟨a1, c1, rfl⟩ := ha.shape
  refine S.addNil (T := Rp.u8) (e := 5) ?_
  refine S.seq (S.region rfl ?_)
  refine O.op (.p rfl) (.as rfl) ?_
  refine O.nil ?_
  refine S.seq (S.region rfl ?_)
  refine O.op (.p rfl) (.as rfl) ?_
  refine O.nil ?_
  refine S.seq (S.region rfl ?_)
  refine O.op (.p rfl) (.mv rfl) ?_
  refine O.op (.p rfl) (.mv rfl) ?_
  refine O.opE (.p rfl) (.appendP (T := Rp.u8) pure_u8 Go.Proofs.Tryd.underlying23 FactCopyb.elem5 (by decide) rfl rfl (by repeat (first | exact Sel.here | apply Sel.there)) (by first | assumption | exact Arr.mono hg (by assumption) | exact Arr.left (by assumption) | exact Arr.left (Arr.mono hg (by assumption))) (by first | omega | (simp; done) | (simp; omega) | decide) (by first | omega | (simp; done) | (simp; omega) | decide)) ?_
  rintro _ _ ⟨a6, c6, rfl, rfl⟩
  refine O.op (.p rfl) (.as rfl) ?_
  refine O.nil ?_
  refine S.ret Go.Proofs.Tryd.results16 rfl fun w hw => hR _ _ w ?_ hw
  exact ⟨a6, c6, by simp, rfl⟩
/-- a thing from a number: 0 .. n-1 -/
def pick (x n : Int) : Int := if n < 1 then 0 else if x.tmod n < 0 then x.tmod n + n else x.tmod n
theorem Pick_c {r : Fr} (x n : Int) (hn : InI64 n) : Con Go.Proofs.Tryd.prog 13 #[.int .i64 x, .int .i64 n] r [] (Ret fun v η => v = .int .i64 (pick x n) ∧ η = []) := by
  refine Con.of (n := 16) [.int .i64 x, .int .i64 n] rfl Go.Proofs.Tryd.func13 rfl rfl rfl fun g hg R hR => ?_
  unfold InI64 at hn
  refine S.seq (S.region rfl ?_)
  refine O.op (.p rfl) (.as rfl) ?_
  refine O.nil ?_
  refine S.seq (S.seq (S.region rfl ?_))
  refine O.op (.p rfl) (.mv rfl) ?_
  refine O.op (.p rfl) (.lss rfl rfl) ?_
  refine O.nil ?_
  first | refine S.condD rfl (fun h6 => ?_) (fun h6 => ?_) | refine S.condB rfl (fun h6 => ?_) (fun h6 => ?_)
  · refine S.seq (S.region rfl ?_)
    refine O.op (.p rfl) (.as rfl) ?_
    refine O.nil ?_
    refine S.ret Go.Proofs.Tryd.results13 rfl fun w hw => hR _ _ w ?_ hw
    exact ⟨by simp [pick, h6], rfl⟩
  · have b1 := Int.tmod_lt_of_pos x (show 0 < n by omega)
    have b2 := Int.lt_tmod_of_pos x (show 0 < n by omega)
    refine S.skip (S.seq (S.region rfl ?_))
    refine O.op (.p rfl) (.mv rfl) ?_
    refine O.op (.p rfl) (.mv rfl) ?_
    refine O.op (.p rfl) (.rem rfl rfl (by omega)) ?_
    refine O.op (.p rfl) (.as rfl) ?_
    refine O.nil ?_
    refine S.seq (S.seq (S.region rfl ?_))
    refine O.op (.p rfl) (.mv rfl) ?_
    refine O.op (.p rfl) (.lss rfl rfl) ?_
    refine O.nil ?_
    first | refine S.condD rfl (fun h11 => ?_) (fun h11 => ?_) | refine S.condB rfl (fun h11 => ?_) (fun h11 => ?_)
    · refine S.region rfl ?_
      refine O.op (.p rfl) (.mv rfl) ?_
      refine O.op (.p rfl) (.mv rfl) ?_
      refine O.op (.p rfl) (.add rfl rfl (IntWalk.i64_in _ (by omega))) ?_
      refine O.op (.p rfl) (.as rfl) ?_
      refine O.nil ?_
      refine S.seq (S.region rfl ?_)
      refine O.op (.p rfl) (.mv rfl) ?_
      refine O.op (.p rfl) (.as rfl) ?_
      refine O.nil ?_
      refine S.ret Go.Proofs.Tryd.results13 rfl fun w hw => hR _ _ w ?_ hw
      exact ⟨by simp [pick, h6, h11], rfl⟩
    · refine S.skip (S.seq (S.region rfl ?_))
      refine O.op (.p rfl) (.mv rfl) ?_
      refine O.op (.p rfl) (.as rfl) ?_
      refine O.nil ?_
      refine S.ret Go.Proofs.Tryd.results13 rfl fun w hw => hR _ _ w ?_ hw
      exact ⟨by simp [pick, h6, h11], rfl⟩

end Go.Proofs.YtcghiboamlaenaaDoor
end
