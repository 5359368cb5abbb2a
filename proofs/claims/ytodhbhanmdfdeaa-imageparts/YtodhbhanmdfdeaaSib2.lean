import Derived.Test.YtodhbhanmdfdeaaSib1
open Go Go.Sp
set_option maxRecDepth 100000
attribute [local irreducible] obj Own OwnP
namespace Go.Proofs.Ytodhbhanmdfdeaa
theorem FactSib2.fld88x0 : fieldOff Go.Proofs.Try.prog 88 0 = some 0 := by kernel_rfl
theorem FactSib2.ok49 : callable Go.Proofs.Try.prog 49 = true := by kernel_rfl
theorem FactSib2.ok62 : callable Go.Proofs.Try.prog 62 = true := by kernel_rfl
theorem FactSib2.ok69 : callable Go.Proofs.Try.prog 69 = true := by kernel_rfl
theorem FactSib2.size88 : (Go.Proofs.Try.prog.info? 88).map (·.size) = some 8 := by kernel_rfl

theorem indexIt_c {r : Fr} {va : Value} {xs : List RecT} {f : FuncId} {first cap : Array Value} (ha : Arr ItRp r va xs) (hc : callable Go.Proofs.Try.prog f = true) (q : RecT → Bool)
    (con : ∀ cs x, x ∈ xs → ItRp.rel r cs x → Con Go.Proofs.Try.prog f (first ++ #[.agg cs.toArray] ++ cap) r [] (Ret fun v η => v = .bool (q x) ∧ η = [])) :
    Con Go.Proofs.Try.prog 69 #[va, .func (.func f) first cap] r [] (Ret fun v η => ∃ k : Int, v = .int .i64 k ∧ (0 ≤ k ↔ xs.any q = true) ∧ η = []) := by
  have har := ha
  refine Con.of (n := 19) [va, .func (.func f) first cap] rfl Go.Proofs.Try.func69 rfl rfl rfl fun g hg R hR => ?_
  have ha := ha.mono hg
  have hbd := ha.bound
  obtain ⟨a1, c1, rfl⟩ := ha.shape
  refine S.seq (S.region rfl ?_)
  refine O.op (.p rfl) (.as rfl) ?_
  refine O.nil ?_
  refine S.seq (S.seq (S.region rfl ?_))
  refine O.op (.p rfl) (.mv rfl) ?_
  refine O.op (.p rfl) (.len rfl Go.Proofs.Try.underlying84 rfl) ?_
  refine O.op (.p rfl) (.mv rfl) ?_
  refine O.nil ?_
  refine S.block ?_
  refine S.loopK (ι := Nat) (fun i => i ≤ xs.length ∧ (xs.take i).any q = false) (fun i => [(8, .int .i64 (i : Int))]) [(0, _), (1, _), (7, _)] (fun i => []) (fun i => xs.length - i) (0) (by exact ⟨by simp, by simp⟩) (.cons rfl (.nil)) (.cons rfl (.cons rfl (.cons rfl (.nil)))) rfl fun i hx ih => ?_
  have hm1 := meltRefl (g := g)
  obtain ⟨hx1, hx2⟩ := hx
  refine S.seq (S.region rfl ?_)
  refine O.op (.p rfl) (.lss rfl rfl) ?_
  refine O.nil ?_
  refine S.seq ?_
  first | refine S.condD rfl (fun h9 => ?_) (fun h9 => ?_) | refine S.condB rfl (fun h9 => ?_) (fun h9 => ?_)
  · have hi : i < xs.length := by omega
    cases e : q xs[i] with
    | true =>
      have hy : xs.any q = true := List.any_eq_true.2 ⟨xs[i], List.getElem_mem hi, e⟩
      clear ih
      refine S.skip (S.seq (S.block (S.seq (S.region rfl ?_))))
      refine O.op (.p rfl) (.mv rfl) ?_
      refine O.op (.p rfl) (.as rfl) ?_
      refine O.nil ?_
      refine S.seq (S.region rfl ?_)
      refine O.op (.p rfl) (.mv rfl) ?_
      refine O.op (.p rfl) (.mv rfl) ?_
      refine O.op (.p rfl) (.mv rfl) ?_
      refine O.idxR (.p rfl) Go.Proofs.Try.underlying84 FactSib2.size88 rfl rfl rfl har hg (by decide) (by first | omega | (simp; done) | (simp; omega) | decide) (fun p14 cs14 hp14 hrr14 => ?_)
      have hr14 := Rp.rel.mono hrr14 hg
      obtain ⟨ia3_14, ia5_14, ia6_14, ia7_14, ic3_14, ic5_14, ic6_14, ic7_14, rfl, hr1_14, ha7_14⟩ := ItRp.sh hr14
      refine O.op (.p rfl) (.loadAgg Go.Proofs.Try.isAgg88 (by kernel_rfl) rfl hp14) ?_
      refine O.call0 (.p rfl) rfl hc rfl rfl (((con _ _ (List.getElem_mem hi) hrr14).sub hg)) ?_
      rintro v16 _ ⟨rfl, rfl⟩
      try simp only [List.cons_append, List.nil_append, List.append_nil]
      refine O.slot 16 (v' := .bool true) rfl (congrArg Value.bool (by exact e)) ?_
      refine O.nil ?_
      refine S.condT rfl ?_
      refine S.seq (S.region rfl ?_)
      refine O.op (.p rfl) (.mv rfl) ?_
      refine O.op (.p rfl) (.as rfl) ?_
      refine O.nil ?_
      refine S.ret Go.Proofs.Try.results69 rfl fun w hw => Holds.end_ hR hw ?_
      exact ⟨_, ⟨(i : Int), rfl, ⟨fun _ => hy, fun _ => by omega⟩, rfl⟩, by repeat (first | exact Picks.all | exact Picks.nil | (apply Picks.cons; focus (repeat (first | exact Sel.here | apply Sel.there))) | apply Picks.skip)⟩
    | false =>
      refine S.skip (S.seq (S.block (S.seq (S.region rfl ?_))))
      refine O.op (.p rfl) (.mv rfl) ?_
      refine O.op (.p rfl) (.as rfl) ?_
      refine O.nil ?_
      refine S.seq (S.region rfl ?_)
      refine O.op (.p rfl) (.mv rfl) ?_
      refine O.op (.p rfl) (.mv rfl) ?_
      refine O.op (.p rfl) (.mv rfl) ?_
      refine O.idxR (.p rfl) Go.Proofs.Try.underlying84 FactSib2.size88 rfl rfl rfl har hg (by decide) (by first | omega | (simp; done) | (simp; omega) | decide) (fun p14 cs14 hp14 hrr14 => ?_)
      have hr14 := Rp.rel.mono hrr14 hg
      obtain ⟨ia3_14, ia5_14, ia6_14, ia7_14, ic3_14, ic5_14, ic6_14, ic7_14, rfl, hr1_14, ha7_14⟩ := ItRp.sh hr14
      refine O.op (.p rfl) (.loadAgg Go.Proofs.Try.isAgg88 (by kernel_rfl) rfl hp14) ?_
      refine O.call0 (.p rfl) rfl hc rfl rfl (((con _ _ (List.getElem_mem hi) hrr14).sub hg)) ?_
      rintro v16 _ ⟨rfl, rfl⟩
      try simp only [List.cons_append, List.nil_append, List.append_nil]
      refine O.slot 16 (v' := .bool false) rfl (congrArg Value.bool (by exact e)) ?_
      refine O.nil ?_
      refine S.condF rfl ?_
      refine S.skip (S.inBlock (S.region rfl ?_))
      refine O.op (.p rfl) (.add rfl rfl (IntWalk.i64_in _ (by omega))) ?_
      refine O.op (.p rfl) (.mv rfl) ?_
      refine O.nil ?_
      refine S.weaken ?_ (ih (i + 1) (by exact ⟨by omega, by rw [List.take_succ_eq_append_getElem hi, List.any_append, hx2]; simp [e]⟩) (by omega))
      repeat (first | exact Sub.nil | refine Sub.cons rfl ?_)
  · clear ih
    have hi : i = xs.length := by omega
    subst hi
    rw [List.take_length] at hx2
    refine S.exit rfl ?_
    refine S.seq (S.region rfl ?_)
    refine O.op (.p rfl) (.as rfl) ?_
    refine O.nil ?_
    refine S.ret Go.Proofs.Try.results69 rfl fun w hw => Holds.end_ hR hw ?_
    exact ⟨_, ⟨-1, rfl, ⟨fun h => absurd h (by decide), fun h => by rw [hx2] at h; cases h⟩, rfl⟩, by repeat (first | exact Picks.all | exact Picks.nil | (apply Picks.cons; focus (repeat (first | exact Sel.here | apply Sel.there))) | apply Picks.skip)⟩
theorem containsIt_c {r : Fr} {va : Value} {xs : List RecT} {f : FuncId} {first cap : Array Value} (ha : Arr ItRp r va xs) (hc : callable Go.Proofs.Try.prog f = true) (q : RecT → Bool)
    (con : ∀ cs x, x ∈ xs → ItRp.rel r cs x → Con Go.Proofs.Try.prog f (first ++ #[.agg cs.toArray] ++ cap) r [] (Ret fun v η => v = .bool (q x) ∧ η = [])) (h1 : (Value.func (.func f) first cap).oneCell' = true) :
    Con Go.Proofs.Try.prog 60 #[va, .func (.func f) first cap] r [] (Ret fun v η => v = .bool (xs.any q) ∧ η = []) := by
  refine Con.of (n := 9) [va, .func (.func f) first cap] rfl Go.Proofs.Try.func60 rfl rfl rfl fun g hg R hR => ?_
  refine S.seq (S.region rfl ?_)
  refine O.op (.p rfl) (.as rfl) ?_
  refine O.nil ?_
  refine S.seq (S.region rfl ?_)
  refine O.op (.p rfl) (.mv rfl) ?_
  refine O.op (.p rfl) (.mv rfl) ?_
  refine O.call0 (.p rfl) rfl FactSib2.ok69 rfl rfl (((indexIt_c ha hc q con).sub hg)) ?_
  rintro v7 _ ⟨k7, rfl, hk7, rfl⟩
  try simp only [List.cons_append, List.nil_append, List.append_nil]
  refine O.op (.p rfl) (.geq rfl rfl) ?_
  refine O.op (.p rfl) (.as rfl) ?_
  refine O.nil ?_
  refine S.ret Go.Proofs.Try.results60 rfl fun w hw => Holds.end_ hR hw ?_
  exact ⟨_, ⟨congrArg _ (by rw [Bool.eq_iff_iff, decide_eq_true_iff]; exact hk7), rfl⟩, by repeat (first | exact Picks.all | exact Picks.nil | (apply Picks.cons; focus (repeat (first | exact Sel.here | apply Sel.there))) | apply Picks.skip)⟩
theorem under1_c {r : Fr} {b : Nat} {cs ds : List Value} {x y : RecT} (hx : At r ⟨b, 0, none⟩ cs) (h : ItRp.rel r cs x) (h' : ItRp.rel r ds y) :
    Con Go.Proofs.Try.prog 61 (#[] ++ #[.agg ds.toArray] ++ #[.pointer (some ⟨b, 0, none⟩)]) r [] (Ret fun v η => v = .bool (decide (cmpR x y ≠ 0) && over y x) ∧ η = []) := by
  obtain ⟨xa3, xa5, xa6, xa7, xc3, xc5, xc6, xc7, rfl, hx1, _⟩ := ItRp.sh h
  obtain ⟨ya3, ya5, ya6, ya7, yc3, yc5, yc6, yc7, rfl, hy1, _⟩ := ItRp.sh h'
  refine Con.of (n := 15) [.agg #[.string (str y.1), .int .i64 y.2.1, .int .i64 y.2.2.1, .slice ya3 y.2.2.2.1.length yc3, .bool y.2.2.2.2.1, .slice ya5 y.2.2.2.2.2.1.length yc5, .slice ya6 y.2.2.2.2.2.2.1.length yc6, .slice ya7 (recB y).length yc7], .pointer (some ⟨b, 0, none⟩)] rfl Go.Proofs.Try.func61 rfl rfl rfl fun g hg R hR => ?_
  have hx := hx.mono hg
  have h := h.mono hg
  have h' := h'.mono hg
  have hx1 := hx1.mono hg
  have hy1 := hy1.mono hg
  by_cases e : cmpR x y = 0
  ·
    refine S.seq (S.region rfl ?_)
    refine O.opE (.p rfl) (.box (cs := [_, _, _, _, _, _, _, _]) rfl rfl) ?_
    rintro _ _ ⟨b2, rfl, rfl⟩
    refine O.op (.p rfl) (.as rfl) ?_
    refine O.nil ?_
    refine S.seq (S.region rfl ?_)
    refine O.op (.p rfl) (.loadAgg Go.Proofs.Try.isAgg88 (by kernel_rfl) rfl hx) ?_
    refine O.op (.p rfl) (.loadObjAgg (news := [_, _, _, _, _, _, _, _]) Go.Proofs.Try.isAgg88 (by kernel_rfl) rfl (by repeat (first | exact Sel.here | apply Sel.there)) rfl) ?_
    refine O.call0 (.p rfl) rfl FactSib2.ok49 rfl rfl (scompare_c h h') ?_
    rintro v6 _ ⟨rfl, rfl⟩
    try simp only [List.cons_append, List.nil_append, List.append_nil]
    refine O.op (.p rfl) (.neq rfl rfl) ?_
    refine O.slot 7 (v' := .bool false) rfl (congrArg Value.bool (by simp [e])) ?_
    refine O.op (.p rfl) (.mv rfl) ?_
    refine O.opN rfl rfl rfl ?_
    refine O.opN rfl rfl rfl ?_
    refine O.opN rfl rfl rfl ?_
    refine O.opN rfl rfl rfl ?_
    refine O.opN rfl rfl rfl ?_
    refine O.op (.p rfl) (.pickF rfl rfl) ?_
    refine O.op (.p rfl) (.as rfl) ?_
    refine O.nil ?_
    refine S.ret Go.Proofs.Try.results61 rfl fun w hw => Holds.end_ hR hw ?_
    exact ⟨_, ⟨by simp [e], rfl⟩, by repeat (first | exact Picks.all | exact Picks.nil | (apply Picks.cons; focus (repeat (first | exact Sel.here | apply Sel.there))) | apply Picks.skip)⟩
  ·
    refine S.seq (S.region rfl ?_)
    refine O.opE (.p rfl) (.box (cs := [_, _, _, _, _, _, _, _]) rfl rfl) ?_
    rintro _ _ ⟨b2, rfl, rfl⟩
    refine O.op (.p rfl) (.as rfl) ?_
    refine O.nil ?_
    refine S.seq (S.region rfl ?_)
    refine O.op (.p rfl) (.loadAgg Go.Proofs.Try.isAgg88 (by kernel_rfl) rfl hx) ?_
    refine O.op (.p rfl) (.loadObjAgg (news := [_, _, _, _, _, _, _, _]) Go.Proofs.Try.isAgg88 (by kernel_rfl) rfl (by repeat (first | exact Sel.here | apply Sel.there)) rfl) ?_
    refine O.call0 (.p rfl) rfl FactSib2.ok49 rfl rfl (scompare_c h h') ?_
    rintro v6 _ ⟨rfl, rfl⟩
    try simp only [List.cons_append, List.nil_append, List.append_nil]
    refine O.op (.p rfl) (.neq rfl rfl) ?_
    refine O.slot 7 (v' := .bool true) rfl (congrArg Value.bool (by simp [e])) ?_
    refine O.op (.p rfl) (.mv rfl) ?_
    refine O.op (.g rfl rfl) (.fieldObj FactSib2.fld88x0 rfl) ?_
    refine O.op (.g rfl rfl) (.loadObjAgg (news := [_, _, _, _, _, _, _]) Go.Proofs.Try.isAgg68 (by kernel_rfl) rfl (by repeat (first | exact Sel.here | apply Sel.there)) rfl) ?_
    refine O.op (.g rfl rfl) (.fieldAddr FactSib2.fld88x0 rfl) ?_
    refine O.op (.g rfl rfl) (.loadAgg (cs := [.string (str x.1), .int .i64 x.2.1, .int .i64 x.2.2.1, .slice xa3 x.2.2.2.1.length xc3, .bool x.2.2.2.2.1, .slice xa5 x.2.2.2.2.2.1.length xc5, .slice xa6 x.2.2.2.2.2.2.1.length xc6]) Go.Proofs.Try.isAgg68 (by kernel_rfl) rfl (hx.take 7)) ?_
    refine O.call0 (.g rfl rfl) rfl FactSib2.ok62 rfl rfl (rOver_c hy1 hx1) ?_
    rintro v13 _ ⟨rfl, rfl⟩
    try simp only [List.cons_append, List.nil_append, List.append_nil]
    refine O.op (.p rfl) (.pickT rfl rfl) ?_
    refine O.op (.p rfl) (.as rfl) ?_
    refine O.nil ?_
    refine S.ret Go.Proofs.Try.results61 rfl fun w hw => Holds.end_ hR hw ?_
    exact ⟨_, ⟨by simp [e], rfl⟩, by repeat (first | exact Picks.all | exact Picks.nil | (apply Picks.cons; focus (repeat (first | exact Sel.here | apply Sel.there))) | apply Picks.skip)⟩

end Go.Proofs.Ytodhbhanmdfdeaa
