import Derived.Test.YthaebmfgelaleaaGreatWire1
import Derived.Test.YthaebmfgelaleaaGreatSpLink
open Go Go.Sp
set_option maxRecDepth 100000
attribute [local irreducible] obj Own OwnP
namespace Go.Proofs.YthaebmfgelaleaaGreat
theorem FactNet1.elem3 : elemIs Go.Proofs.Tryz.prog 3 1 8 [.int .i64 0] := elemIs.mk (by kernel_rfl) rfl
theorem FactNet1.flat3 : Go.Sp.flat1 Go.Proofs.Tryz.prog 3 = true := by kernel_rfl
theorem FactNet1.flat33 : Go.Sp.flat1 Go.Proofs.Tryz.prog 33 = true := by kernel_rfl
theorem FactNet1.fld35x0 : fieldOff Go.Proofs.Tryz.prog 35 0 = some 0 := by kernel_rfl
theorem FactNet1.fld35x1 : fieldOff Go.Proofs.Tryz.prog 35 1 = some 1 := by kernel_rfl
theorem FactNet1.fld35x2 : fieldOff Go.Proofs.Tryz.prog 35 2 = some 2 := by kernel_rfl
theorem FactNet1.mixed : Go.Proofs.Tryz.prog.follows .mixedOrders = true := by kernel_rfl
theorem FactNet1.ok32 : callable Go.Proofs.Tryz.prog 32 = true := by kernel_rfl
theorem FactNet1.ok43 : callable Go.Proofs.Tryz.prog 43 = true := by kernel_rfl
theorem FactNet1.ok44 : callable Go.Proofs.Tryz.prog 44 = true := by kernel_rfl
theorem FactNet1.ok58 : callable Go.Proofs.Tryz.prog 58 = true := by kernel_rfl
theorem FactNet1.size3 : (Go.Proofs.Tryz.prog.info? 3).map (·.size) = some 1 := by kernel_rfl

def cmpI (x y : Int) : Int := if x < y then -1 else if y < x then 1 else 0
theorem cmpI_in (x y : Int) : InI64 (cmpI x y) := by unfold cmpI; repeat' split
                                                     all_goals (constructor <;> omega)
/-- the order of links -/
def cmp2 (a b : Int × Int) : Int := if cmpI a.1 b.1 ≠ 0 then cmpI a.1 b.1 else cmpI a.2 b.2
theorem isNaN_c {r : Fr} (x : Int) : Con Go.Proofs.Tryz.prog 58 #[.int .i64 x] r [] (Ret fun v η => v = .bool false ∧ η = []) := by
  refine Con.of (n := 6) [.int .i64 x] rfl Go.Proofs.Tryz.func58 rfl rfl rfl fun g hg R hR => ?_
  refine S.seq (S.region rfl ?_)
  refine O.op (.p rfl) (.as rfl) ?_
  refine O.nil ?_
  refine S.seq (S.region rfl ?_)
  refine O.op (.p rfl) (.mv rfl) ?_
  refine O.op (.p rfl) (.mv rfl) ?_
  refine O.op (.p rfl) (.neq rfl rfl) ?_
  refine O.slot 5 (v' := .bool false) rfl (congrArg Value.bool (by simp)) ?_
  refine O.op (.p rfl) (.as rfl) ?_
  refine O.nil ?_
  refine S.ret Go.Proofs.Tryz.results58 rfl fun w hw => Holds.end_ hR hw ?_
  exact ⟨_, ⟨rfl, rfl⟩, by repeat (first | exact Picks.all | exact Picks.nil | (apply Picks.cons; focus (repeat (first | exact Sel.here | apply Sel.there))) | apply Picks.skip)⟩
theorem compare_c {r : Fr} (x y : Int) : Con Go.Proofs.Tryz.prog 44 #[.int .i64 x, .int .i64 y] r [] (Ret fun v η => v = .int .i64 (cmpI x y) ∧ η = []) := by
  refine Con.of (n := 20) [.int .i64 x, .int .i64 y] rfl Go.Proofs.Tryz.func44 rfl rfl rfl fun g hg R hR => ?_
  refine S.seq (S.region rfl ?_)
  refine O.op (.p rfl) (.as rfl) ?_
  refine O.nil ?_
  refine S.seq (S.region rfl ?_)
  refine O.op (.p rfl) (.mv rfl) ?_
  refine O.call0 (.p rfl) rfl FactNet1.ok58 rfl rfl (isNaN_c _) ?_
  rintro v8 _ ⟨rfl, rfl⟩
  try simp only [List.cons_append, List.nil_append, List.append_nil]
  refine O.op (.p rfl) (.as rfl) ?_
  refine O.nil ?_
  refine S.seq (S.region rfl ?_)
  refine O.op (.p rfl) (.mv rfl) ?_
  refine O.call0 (.p rfl) rfl FactNet1.ok58 rfl rfl (isNaN_c _) ?_
  rintro v10 _ ⟨rfl, rfl⟩
  try simp only [List.cons_append, List.nil_append, List.append_nil]
  refine O.op (.p rfl) (.as rfl) ?_
  refine O.nil ?_
  refine S.seq (S.seq (S.region rfl ?_))
  refine O.op (.p rfl) (.mv rfl) ?_
  refine O.nil ?_
  refine S.condF rfl ?_
  refine S.skip (S.seq (S.seq (S.region rfl ?_)))
  refine O.op (.p rfl) (.mv rfl) ?_
  refine O.nil ?_
  refine S.condF rfl ?_
  refine S.skip (S.seq (S.seq (S.region rfl ?_)))
  refine O.op (.p rfl) (.mv rfl) ?_
  refine O.op (.p rfl) (.mv rfl) ?_
  refine O.op (.p rfl) (.lss rfl rfl) ?_
  refine O.nil ?_
  first | refine S.condD rfl (fun h16 => ?_) (fun h16 => ?_) | refine S.condB rfl (fun h16 => ?_) (fun h16 => ?_)
  · refine S.seq (S.region rfl ?_)
    refine O.op (.p rfl) (.as rfl) ?_
    refine O.nil ?_
    refine S.ret Go.Proofs.Tryz.results44 rfl fun w hw => Holds.end_ hR hw ?_
    exact ⟨_, ⟨by simp [cmpI, h16], rfl⟩, by repeat (first | exact Picks.all | exact Picks.nil | (apply Picks.cons; focus (repeat (first | exact Sel.here | apply Sel.there))) | apply Picks.skip)⟩
  · refine S.skip (S.seq (S.seq (S.region rfl ?_)))
    refine O.op (.p rfl) (.mv rfl) ?_
    refine O.op (.p rfl) (.mv rfl) ?_
    refine O.op (.p rfl) (.gtr rfl rfl) ?_
    refine O.nil ?_
    first | refine S.condD rfl (fun h19 => ?_) (fun h19 => ?_) | refine S.condB rfl (fun h19 => ?_) (fun h19 => ?_)
    · refine S.seq (S.region rfl ?_)
      refine O.op (.p rfl) (.as rfl) ?_
      refine O.nil ?_
      refine S.ret Go.Proofs.Tryz.results44 rfl fun w hw => Holds.end_ hR hw ?_
      exact ⟨_, ⟨by simp only [cmpI]; rw [if_neg (by omega), if_pos (by omega)], rfl⟩, by repeat (first | exact Picks.all | exact Picks.nil | (apply Picks.cons; focus (repeat (first | exact Sel.here | apply Sel.there))) | apply Picks.skip)⟩
    · refine S.skip (S.seq (S.region rfl ?_))
      refine O.op (.p rfl) (.as rfl) ?_
      refine O.nil ?_
      refine S.ret Go.Proofs.Tryz.results44 rfl fun w hw => Holds.end_ hR hw ?_
      exact ⟨_, ⟨by simp only [cmpI]; rw [if_neg (by omega), if_neg (by omega)], rfl⟩, by repeat (first | exact Picks.all | exact Picks.nil | (apply Picks.cons; focus (repeat (first | exact Sel.here | apply Sel.there))) | apply Picks.skip)⟩
def firstNZ : List Int → Int
  | [] => 0
  | x :: l => if x ≠ 0 then x else firstNZ l
theorem firstNZ_drop {l : List Int} {i : Nat} (h : i < l.length) : firstNZ (l.drop i) = if l[i] ≠ 0 then l[i] else firstNZ (l.drop (i + 1)) := by
  rw [List.drop_eq_getElem_cons h]; rfl
theorem cmpOr_c {r : Fr} {va : Value} {l : List Int} (ha : Arr Rp.i64 r va l) : Con Go.Proofs.Tryz.prog 43 #[va] r [] (Ret fun v η => v = .int .i64 (firstNZ l) ∧ η = []) := by
  refine Con.of (n := 18) [va] rfl Go.Proofs.Tryz.func43 rfl rfl rfl fun g hg R hR => ?_
  have ha := ha.mono hg
  have hbd := ha.bound
  obtain ⟨a1, c1, rfl⟩ := ha.shape
  refine S.seq (S.region rfl ?_)
  refine O.op (.p rfl) (.as rfl) ?_
  refine O.nil ?_
  refine S.seq (S.region rfl ?_)
  refine O.op (.p rfl) (.as rfl) ?_
  refine O.nil ?_
  refine S.seq (S.seq (S.region rfl ?_))
  refine O.op (.p rfl) (.mv rfl) ?_
  refine O.op (.p rfl) (.len rfl Go.Proofs.Tryz.underlying52 rfl) ?_
  refine O.op (.p rfl) (.mv rfl) ?_
  refine O.nil ?_
  refine S.block ?_
  refine S.loopK (ι := Nat) (fun i => i ≤ l.length ∧ firstNZ (l.drop i) = firstNZ l) (fun i => [(8, .int .i64 (i : Int))]) [(3, _), (6, _), (7, _)] (fun i => []) (fun i => l.length - i) (0) (by simp) (.cons rfl (.nil)) (.cons rfl (.cons rfl (.cons rfl (.nil)))) rfl fun i hx ih => ?_
  have hm1 := meltRefl (g := g)
  obtain ⟨hx1, hx2⟩ := hx
  refine S.seq (S.region rfl ?_)
  refine O.op (.p rfl) (.lss rfl rfl) ?_
  refine O.nil ?_
  refine S.seq ?_
  first | refine S.condD rfl (fun h9 => ?_) (fun h9 => ?_) | refine S.condB rfl (fun h9 => ?_) (fun h9 => ?_)
  · have hi : i < l.length := by omega
    rw [firstNZ_drop hi] at hx2
    refine S.skip (S.seq (S.block (S.seq (S.region rfl ?_))))
    refine O.idx' (.p rfl) Go.Proofs.Tryz.underlying52 FactNet1.size3 rfl rfl rfl (by first | assumption | exact Arr.mono hg (by assumption) | exact Arr.left (by assumption) | exact Arr.left (Arr.mono hg (by assumption))) (by decide) (by first | omega | (simp; done) | (simp; omega) | decide) (fun p10 cs10 hp10 hr10 => ?_)
    obtain ⟨rfl, hz10⟩ := hr10
    refine O.op (.p rfl) (.loadAt FactNet1.flat3 rfl hp10 rfl) ?_
    refine O.op (.p rfl) (.as rfl) ?_
    refine O.nil ?_
    refine S.seq (S.region rfl ?_)
    refine O.op (.p rfl) (.mv rfl) ?_
    refine O.op (.p rfl) (.mv rfl) ?_
    refine O.op (.p rfl) (.neq rfl rfl) ?_
    refine O.nil ?_
    first | refine S.condD rfl (fun h14 => ?_) (fun h14 => ?_) | refine S.condB rfl (fun h14 => ?_) (fun h14 => ?_)
    · rw [if_pos h14] at hx2
      clear ih
      refine S.seq (S.region rfl ?_)
      refine O.op (.p rfl) (.mv rfl) ?_
      refine O.op (.p rfl) (.as rfl) ?_
      refine O.nil ?_
      refine S.ret Go.Proofs.Tryz.results43 rfl fun w hw => Holds.end_ hR hw ?_
      exact ⟨_, ⟨by rw [hx2], rfl⟩, by repeat (first | exact Picks.all | exact Picks.nil | (apply Picks.cons; focus (repeat (first | exact Sel.here | apply Sel.there))) | apply Picks.skip)⟩
    · rw [if_neg h14] at hx2
      refine S.skip (S.inBlock (S.region rfl ?_))
      refine O.op (.p rfl) (.add rfl rfl (IntWalk.i64_in _ (by omega))) ?_
      refine O.op (.p rfl) (.mv rfl) ?_
      refine O.nil ?_
      refine S.weaken ?_ (ih (i + 1) (by exact ⟨by omega, hx2⟩) (by omega))
      repeat (first | exact Sub.nil | refine Sub.cons rfl ?_)
  · clear ih
    have hi : i = l.length := by omega
    subst hi
    rw [List.drop_length] at hx2
    refine S.exit rfl ?_
    refine S.seq (S.region rfl ?_)
    refine O.op (.p rfl) (.mv rfl) ?_
    refine O.op (.p rfl) (.as rfl) ?_
    refine O.nil ?_
    refine S.ret Go.Proofs.Tryz.results43 rfl fun w hw => Holds.end_ hR hw ?_
    exact ⟨_, ⟨by rw [← hx2]; rfl, rfl⟩, by repeat (first | exact Picks.all | exact Picks.nil | (apply Picks.cons; focus (repeat (first | exact Sel.here | apply Sel.there))) | apply Picks.skip)⟩
theorem cmpOr_d {r : Fr} {e : TypeId} {va : Value} {l : List Int} : Con Go.Proofs.Tryz.prog 43 #[va] r [OwnP Rp.i64 e va l] (Ret fun v η => v = .int .i64 (firstNZ l) ∧ η = []) :=
  Con.lentD (η := []) (bs := [_]) fun _ hm hd => cmpOr_c (hm.arr.right hd)
theorem linksCmp_c {r : Fr} (a b : Int × Int) : Con Go.Proofs.Tryz.prog 42 #[enc2 a, enc2 b] r [] (Ret fun v η => v = .int .i64 (cmp2 a b) ∧ η = []) := by
  unfold enc2
  refine Con.of (n := 17) [.agg #[.int .i64 a.1, .int .i64 a.2], .agg #[.int .i64 b.1, .int .i64 b.2]] rfl Go.Proofs.Tryz.func42 rfl rfl rfl fun g hg R hR => ?_
  have hc1 := cmpI_in a.1 b.1
  have hc2 := cmpI_in a.2 b.2
  refine S.seq (S.region rfl ?_)
  refine O.opE (.p rfl) (.box (cs := [_, _]) rfl rfl) ?_
  rintro _ _ ⟨b2, rfl, rfl⟩
  refine O.opE (.p rfl) (.box (cs := [_, _]) rfl rfl) ?_
  rintro _ _ ⟨b3, rfl, rfl⟩
  refine O.op (.p rfl) (.as rfl) ?_
  refine O.nil ?_
  refine S.seq ?_
  refine S.frzO (by repeat (first | exact Sel.here | apply Sel.there)) fun g hs hm h3 => ?_
  replace hg := Fr.sub_trans hg hs
  replace hR := melted hR hm
  clear hs hm
  refine S.frzO (by repeat (first | exact Sel.here | apply Sel.there)) fun g hs hm h2 => ?_
  replace hg := Fr.sub_trans hg hs
  replace hR := melted hR hm
  try replace h3 := h3.mono hs
  clear hs hm
  refine S.regionD (L := [0, 1, 2, 3, 5, 6, 7, 8, 4, 9, 10, 11, 12]) FactNet1.mixed (by kernel_rfl) ?_
  refine .quiet (.p rfl) rfl (fun _ => .idxArrA (j := 0) Go.Proofs.Tryz.underlying54 FactNet1.size3 rfl rfl rfl (by omega)) ?_
  refine .quiet (.p rfl) rfl (fun _ => .loadAt FactNet1.flat3 rfl h2 rfl) ?_
  refine .quiet (.p rfl) rfl (fun _ => .idxArrA (j := 0) Go.Proofs.Tryz.underlying54 FactNet1.size3 rfl rfl rfl (by omega)) ?_
  refine .quiet (.p rfl) rfl (fun _ => .loadAt FactNet1.flat3 rfl h3 rfl) ?_
  refine .quiet (.p rfl) rfl (fun _ => .idxArrA (j := 1) Go.Proofs.Tryz.underlying54 FactNet1.size3 rfl rfl rfl (by omega)) ?_
  refine .quiet (.p rfl) rfl (fun _ => .loadAt FactNet1.flat3 rfl (h2.drop 1) rfl) ?_
  refine .quiet (.p rfl) rfl (fun _ => .idxArrA (j := 1) Go.Proofs.Tryz.underlying54 FactNet1.size3 rfl rfl rfl (by omega)) ?_
  refine .quiet (.p rfl) rfl (fun _ => .loadAt FactNet1.flat3 rfl (h3.drop 1) rfl) ?_
  refine OD.call0 (.p rfl) (by kernel_rfl) rfl FactNet1.ok44 rfl rfl (compare_c _ _) ?_
  rintro v9 _ ⟨rfl, rfl⟩
  try simp only [List.cons_append, List.nil_append, List.append_nil]
  refine OD.call0 (.p rfl) (by kernel_rfl) rfl FactNet1.ok44 rfl rfl (compare_c _ _) ?_
  rintro v14 _ ⟨rfl, rfl⟩
  try simp only [List.cons_append, List.nil_append, List.append_nil]
  refine OD.litP (T := Rp.i64) (ys := [_, _]) (.p rfl) (by kernel_rfl) Go.Proofs.Tryz.underlying52 FactNet1.elem3 (by decide) rfl rfl ⟨⟨rfl, by first | assumption | (constructor <;> omega)⟩, ⟨rfl, by first | assumption | (constructor <;> omega)⟩, trivial⟩ (by decide) (fun a15 c15 => ?_)
  refine OD.callS (.p rfl) (by kernel_rfl) rfl FactNet1.ok43 rfl rfl (by repeat (first | exact Sel.here | apply Sel.there)) cmpOr_d ?_
  rintro v16 _ ⟨rfl, rfl⟩
  try simp only [List.cons_append, List.nil_append, List.append_nil]
  refine .quiet (.p rfl) rfl (fun _ => .as rfl) ?_
  refine .nil ?_
  refine S.ret Go.Proofs.Tryz.results42 rfl fun w hw => Holds.end_ hR hw ?_
  exact ⟨_, ⟨by refine congrArg _ ?_; by_cases h : cmpI a.1 b.1 = 0 <;> by_cases h2 : cmpI a.2 b.2 = 0 <;> simp [firstNZ, cmp2, h, h2], rfl⟩, by repeat (first | exact Picks.all | exact Picks.nil | (apply Picks.cons; focus (repeat (first | exact Sel.here | apply Sel.there))) | apply Picks.skip)⟩
theorem samePacket_c {r : Fr} {a b c d : Int} {va vb : Value} {xs ys : List UInt8} (ha : Arr Rp.u8 r va xs) (hb : Arr Rp.u8 r vb ys) :
    Con Go.Proofs.Tryz.prog 12 #[.agg #[.int .i64 a, .int .i64 b, va], .agg #[.int .i64 c, .int .i64 d, vb]] r [] (Ret fun v η => v = .bool (decide ((a, b, xs, ()) = ((c, d, ys, ()) : Pkt))) ∧ η = []) := by
  refine Con.of (n := 24) [.agg #[.int .i64 a, .int .i64 b, va], .agg #[.int .i64 c, .int .i64 d, vb]] rfl Go.Proofs.Tryz.func12 rfl rfl rfl fun g hg R hR => ?_
  have ha := ha.mono hg
  have hb := hb.mono hg
  obtain ⟨a1, c1, rfl⟩ := ha.shape
  obtain ⟨a2, c2, rfl⟩ := hb.shape
  refine S.seq (S.region rfl ?_)
  refine O.opE (.p rfl) (.box (cs := [_, _, _]) rfl rfl) ?_
  rintro _ _ ⟨b2, rfl, rfl⟩
  refine O.opE (.p rfl) (.box (cs := [_, _, _]) rfl rfl) ?_
  rintro _ _ ⟨b3, rfl, rfl⟩
  refine O.op (.p rfl) (.as rfl) ?_
  refine O.nil ?_
  refine S.seq (S.region rfl ?_)
  refine O.op (.p rfl) (.fieldObj FactNet1.fld35x0 rfl) ?_
  refine O.op (.p rfl) (.loadObj FactNet1.flat3 rfl (by repeat (first | exact Sel.here | apply Sel.there)) rfl) ?_
  refine O.op (.p rfl) (.fieldObj FactNet1.fld35x0 rfl) ?_
  refine O.op (.p rfl) (.loadObj FactNet1.flat3 rfl (by repeat (first | exact Sel.here | apply Sel.there)) rfl) ?_
  refine O.op (.p rfl) (.eql rfl rfl) ?_
  refine O.op (.p rfl) (.mv rfl) ?_
  first | refine O.caseD 10 rfl (fun h10 => ?_) (fun h10 => ?_) | refine O.caseB 10 rfl (fun h10 => ?_) (fun h10 => ?_)
  · refine O.op (.g rfl rfl) (.fieldObj FactNet1.fld35x1 rfl) ?_
    refine O.op (.g rfl rfl) (.loadObj FactNet1.flat3 rfl (by repeat (first | exact Sel.here | apply Sel.there)) rfl) ?_
    refine O.op (.g rfl rfl) (.fieldObj FactNet1.fld35x1 rfl) ?_
    refine O.op (.g rfl rfl) (.loadObj FactNet1.flat3 rfl (by repeat (first | exact Sel.here | apply Sel.there)) rfl) ?_
    refine O.op (.g rfl rfl) (.eql rfl rfl) ?_
    refine O.op (.p rfl) (.pickT rfl rfl) ?_
    refine O.op (.p rfl) (.mv rfl) ?_
    first | refine O.caseD 17 rfl (fun h17 => ?_) (fun h17 => ?_) | refine O.caseB 17 rfl (fun h17 => ?_) (fun h17 => ?_)
    · refine O.op (.g rfl rfl) (.fieldObj FactNet1.fld35x2 rfl) ?_
      refine O.op (.g rfl rfl) (.loadObj FactNet1.flat33 rfl (by repeat (first | exact Sel.here | apply Sel.there)) rfl) ?_
      refine O.op (.g rfl rfl) (.fieldObj FactNet1.fld35x2 rfl) ?_
      refine O.op (.g rfl rfl) (.loadObj FactNet1.flat33 rfl (by repeat (first | exact Sel.here | apply Sel.there)) rfl) ?_
      refine O.call0 (.g rfl rfl) rfl FactNet1.ok32 rfl rfl (SameBytes_c (by first | assumption | exact Arr.mono hg (by assumption) | exact Arr.left (by assumption) | exact Arr.left (Arr.mono hg (by assumption))) (by first | assumption | exact Arr.mono hg (by assumption) | exact Arr.left (by assumption) | exact Arr.left (Arr.mono hg (by assumption)))) ?_
      rintro v22 _ ⟨rfl, rfl⟩
      try simp only [List.cons_append, List.nil_append, List.append_nil]
      refine O.op (.p rfl) (.pickT rfl rfl) ?_
      refine O.op (.p rfl) (.as rfl) ?_
      refine O.nil ?_
      refine S.ret Go.Proofs.Tryz.results12 rfl fun w hw => Holds.end_ hR hw ?_
      exact ⟨_, ⟨by simp [h10, h17], rfl⟩, by repeat (first | exact Picks.all | exact Picks.nil | (apply Picks.cons; focus (repeat (first | exact Sel.here | apply Sel.there))) | apply Picks.skip)⟩
    · refine O.opN rfl rfl rfl ?_
      refine O.opN rfl rfl rfl ?_
      refine O.opN rfl rfl rfl ?_
      refine O.opN rfl rfl rfl ?_
      refine O.opN rfl rfl rfl ?_
      refine O.op (.p rfl) (.pickF rfl rfl) ?_
      refine O.op (.p rfl) (.as rfl) ?_
      refine O.nil ?_
      refine S.ret Go.Proofs.Tryz.results12 rfl fun w hw => Holds.end_ hR hw ?_
      exact ⟨_, ⟨by simp [h17], rfl⟩, by repeat (first | exact Picks.all | exact Picks.nil | (apply Picks.cons; focus (repeat (first | exact Sel.here | apply Sel.there))) | apply Picks.skip)⟩
  · refine O.opN rfl rfl rfl ?_
    refine O.opN rfl rfl rfl ?_
    refine O.opN rfl rfl rfl ?_
    refine O.opN rfl rfl rfl ?_
    refine O.opN rfl rfl rfl ?_
    refine O.op (.p rfl) (.pickF rfl rfl) ?_
    refine O.op (.p rfl) (.mv rfl) ?_
    refine O.opN rfl rfl rfl ?_
    refine O.opN rfl rfl rfl ?_
    refine O.opN rfl rfl rfl ?_
    refine O.opN rfl rfl rfl ?_
    refine O.opN rfl rfl rfl ?_
    refine O.op (.p rfl) (.pickF rfl rfl) ?_
    refine O.op (.p rfl) (.as rfl) ?_
    refine O.nil ?_
    refine S.ret Go.Proofs.Tryz.results12 rfl fun w hw => Holds.end_ hR hw ?_
    exact ⟨_, ⟨by simp [h10], rfl⟩, by repeat (first | exact Picks.all | exact Picks.nil | (apply Picks.cons; focus (repeat (first | exact Sel.here | apply Sel.there))) | apply Picks.skip)⟩

end Go.Proofs.YthaebmfgelaleaaGreat
