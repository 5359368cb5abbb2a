import Derived.Test.YtodhbhanmdfdeaaRoot1
open Go Go.Sp
set_option maxRecDepth 100000
attribute [local irreducible] obj Own OwnP
namespace Go.Proofs.Ytodhbhanmdfdeaa
theorem FactEvid1.flat109 : Go.Sp.flat1 Go.Proofs.Try.prog 109 = true := by kernel_rfl
theorem FactEvid1.fld42x0 : fieldOff Go.Proofs.Try.prog 42 0 = some 0 := by kernel_rfl
theorem FactEvid1.fld42x1 : fieldOff Go.Proofs.Try.prog 42 1 = some 5 := by kernel_rfl
theorem FactEvid1.ok64 : callable Go.Proofs.Try.prog 64 = true := by kernel_rfl
theorem FactEvid1.ok73 : callable Go.Proofs.Try.prog 73 = true := by kernel_rfl
theorem FactEvid1.ok74 : callable Go.Proofs.Try.prog 74 = true := by kernel_rfl
theorem FactEvid1.ok80 : callable Go.Proofs.Try.prog 80 = true := by kernel_rfl
theorem FactEvid1.size40 : (Go.Proofs.Try.prog.info? 40).map (·.size) = some 5 := by kernel_rfl

theorem indexRoot_c {r : Fr} {va : Value} {xs : List RootT} {f : FuncId} {first cap : Array Value} (ha : Arr RootRp r va xs) (hc : callable Go.Proofs.Try.prog f = true) (q : RootT → Bool)
    (con : ∀ cs x, x ∈ xs → RootRp.rel r cs x → Con Go.Proofs.Try.prog f (first ++ #[.agg cs.toArray] ++ cap) r [] (Ret fun v η => v = .bool (q x) ∧ η = [])) :
    Con Go.Proofs.Try.prog 80 #[va, .func (.func f) first cap] r [] (Ret fun v η => ∃ k : Int, v = .int .i64 k ∧ (0 ≤ k ↔ xs.any q = true) ∧ η = []) := by
  have har := ha
  refine Con.of (n := 19) [va, .func (.func f) first cap] rfl Go.Proofs.Try.func80 rfl rfl rfl fun g hg R hR => ?_
  have ha := ha.mono hg
  have hbd := ha.bound
  obtain ⟨a1, c1, rfl⟩ := ha.shape
  refine S.seq (S.region rfl ?_)
  refine O.op (.p rfl) (.as rfl) ?_
  refine O.nil ?_
  refine S.seq (S.seq (S.region rfl ?_))
  refine O.op (.p rfl) (.mv rfl) ?_
  refine O.op (.p rfl) (.len rfl Go.Proofs.Try.underlying23 rfl) ?_
  refine O.op (.p rfl) (.mv rfl) ?_
  refine O.nil ?_
  refine S.block ?_
  refine S.loopK (ι := Nat) (fun i => i ≤ xs.length ∧ (xs.take i).any q = false) (fun i => [(8, .int .i64 (i : Int))]) [(0, _), (1, _), (7, _)] (fun i => []) (fun i => xs.length - i) (0) (by exact ⟨by simp, by simp⟩) (.cons rfl (.nil)) (.cons rfl (.cons rfl (.cons rfl (.nil)))) rfl fun i hx ih => ?_
  have hm1 := meltRefl (g := g)
  obtain ⟨hx1, hx2⟩ := hx
  refine S.seq (S.region rfl ?_)
  refine O.op (.p rfl) (.lss rfl rfl) ?_
  refine O.nil ?_
  refine S.seq ?_
  first | refine S.condD rfl (fun h9 => ?_) (fun h9 => ?_) | refine S.condB rfl (fun h9 => ?_) (fun h9 => ?_)
  · have hi : i < xs.length := by omega
    cases e : q xs[i] with
    | true =>
      have hy : xs.any q = true := List.any_eq_true.2 ⟨xs[i], List.getElem_mem hi, e⟩
      clear ih
      refine S.skip (S.seq (S.block (S.seq (S.region rfl ?_))))
      refine O.op (.p rfl) (.mv rfl) ?_
      refine O.op (.p rfl) (.as rfl) ?_
      refine O.nil ?_
      refine S.seq (S.region rfl ?_)
      refine O.op (.p rfl) (.mv rfl) ?_
      refine O.op (.p rfl) (.mv rfl) ?_
      refine O.op (.p rfl) (.mv rfl) ?_
      refine O.idxR (.p rfl) Go.Proofs.Try.underlying23 FactEvid1.size40 rfl rfl rfl har hg (by decide) (by first | omega | (simp; done) | (simp; omega) | decide) (fun p14 cs14 hp14 hrr14 => ?_)
      have hr14 := Rp.rel.mono hrr14 hg
      obtain ⟨ta3_14, ta4_14, tc3_14, tc4_14, rfl, ho0_14, ho1_14, ho2_14, ha3_14, ha4_14⟩ := RootRp.sh hr14
      refine O.op (.p rfl) (.loadAgg Go.Proofs.Try.isAgg40 (by kernel_rfl) rfl hp14) ?_
      refine O.call0 (.p rfl) rfl hc rfl rfl (((con _ _ (List.getElem_mem hi) hrr14).sub hg)) ?_
      rintro v16 _ ⟨rfl, rfl⟩
      try simp only [List.cons_append, List.nil_append, List.append_nil]
      refine O.slot 16 (v' := .bool true) rfl (congrArg Value.bool (by exact e)) ?_
      refine O.nil ?_
      refine S.condT rfl ?_
      refine S.seq (S.region rfl ?_)
      refine O.op (.p rfl) (.mv rfl) ?_
      refine O.op (.p rfl) (.as rfl) ?_
      refine O.nil ?_
      refine S.ret Go.Proofs.Try.results80 rfl fun w hw => Holds.end_ hR hw ?_
      exact ⟨_, ⟨(i : Int), rfl, ⟨fun _ => hy, fun _ => by omega⟩, rfl⟩, by repeat (first | exact Picks.all | exact Picks.nil | (apply Picks.cons; focus (repeat (first | exact Sel.here | apply Sel.there))) | apply Picks.skip)⟩
    | false =>
      refine S.skip (S.seq (S.block (S.seq (S.region rfl ?_))))
      refine O.op (.p rfl) (.mv rfl) ?_
      refine O.op (.p rfl) (.as rfl) ?_
      refine O.nil ?_
      refine S.seq (S.region rfl ?_)
      refine O.op (.p rfl) (.mv rfl) ?_
      refine O.op (.p rfl) (.mv rfl) ?_
      refine O.op (.p rfl) (.mv rfl) ?_
      refine O.idxR (.p rfl) Go.Proofs.Try.underlying23 FactEvid1.size40 rfl rfl rfl har hg (by decide) (by first | omega | (simp; done) | (simp; omega) | decide) (fun p14 cs14 hp14 hrr14 => ?_)
      have hr14 := Rp.rel.mono hrr14 hg
      obtain ⟨ta3_14, ta4_14, tc3_14, tc4_14, rfl, ho0_14, ho1_14, ho2_14, ha3_14, ha4_14⟩ := RootRp.sh hr14
      refine O.op (.p rfl) (.loadAgg Go.Proofs.Try.isAgg40 (by kernel_rfl) rfl hp14) ?_
      refine O.call0 (.p rfl) rfl hc rfl rfl (((con _ _ (List.getElem_mem hi) hrr14).sub hg)) ?_
      rintro v16 _ ⟨rfl, rfl⟩
      try simp only [List.cons_append, List.nil_append, List.append_nil]
      refine O.slot 16 (v' := .bool false) rfl (congrArg Value.bool (by exact e)) ?_
      refine O.nil ?_
      refine S.condF rfl ?_
      refine S.skip (S.inBlock (S.region rfl ?_))
      refine O.op (.p rfl) (.add rfl rfl (IntWalk.i64_in _ (by omega))) ?_
      refine O.op (.p rfl) (.mv rfl) ?_
      refine O.nil ?_
      refine S.weaken ?_ (ih (i + 1) (by exact ⟨by omega, by rw [List.take_succ_eq_append_getElem hi, List.any_append, hx2]; simp [e]⟩) (by omega))
      repeat (first | exact Sub.nil | refine Sub.cons rfl ?_)
  · clear ih
    have hi : i = xs.length := by omega
    subst hi
    rw [List.take_length] at hx2
    refine S.exit rfl ?_
    refine S.seq (S.region rfl ?_)
    refine O.op (.p rfl) (.as rfl) ?_
    refine O.nil ?_
    refine S.ret Go.Proofs.Try.results80 rfl fun w hw => Holds.end_ hR hw ?_
    exact ⟨_, ⟨-1, rfl, ⟨fun h => absurd h (by decide), fun h => by rw [hx2] at h; cases h⟩, rfl⟩, by repeat (first | exact Picks.all | exact Picks.nil | (apply Picks.cons; focus (repeat (first | exact Sel.here | apply Sel.there))) | apply Picks.skip)⟩
theorem containsRoot_c {r : Fr} {va : Value} {xs : List RootT} {f : FuncId} {first cap : Array Value} (ha : Arr RootRp r va xs) (hc : callable Go.Proofs.Try.prog f = true) (q : RootT → Bool)
    (con : ∀ cs x, x ∈ xs → RootRp.rel r cs x → Con Go.Proofs.Try.prog f (first ++ #[.agg cs.toArray] ++ cap) r [] (Ret fun v η => v = .bool (q x) ∧ η = [])) (h1 : (Value.func (.func f) first cap).oneCell' = true) :
    Con Go.Proofs.Try.prog 73 #[va, .func (.func f) first cap] r [] (Ret fun v η => v = .bool (xs.any q) ∧ η = []) := by
  refine Con.of (n := 9) [va, .func (.func f) first cap] rfl Go.Proofs.Try.func73 rfl rfl rfl fun g hg R hR => ?_
  refine S.seq (S.region rfl ?_)
  refine O.op (.p rfl) (.as rfl) ?_
  refine O.nil ?_
  refine S.seq (S.region rfl ?_)
  refine O.op (.p rfl) (.mv rfl) ?_
  refine O.op (.p rfl) (.mv rfl) ?_
  refine O.call0 (.p rfl) rfl FactEvid1.ok80 rfl rfl (((indexRoot_c ha hc q con).sub hg)) ?_
  rintro v7 _ ⟨k7, rfl, hk7, rfl⟩
  try simp only [List.cons_append, List.nil_append, List.append_nil]
  refine O.op (.p rfl) (.geq rfl rfl) ?_
  refine O.op (.p rfl) (.as rfl) ?_
  refine O.nil ?_
  refine S.ret Go.Proofs.Try.results73 rfl fun w hw => Holds.end_ hR hw ?_
  exact ⟨_, ⟨congrArg _ (by rw [Bool.eq_iff_iff, decide_eq_true_iff]; exact hk7), rfl⟩, by repeat (first | exact Picks.all | exact Picks.nil | (apply Picks.cons; focus (repeat (first | exact Sel.here | apply Sel.there))) | apply Picks.skip)⟩
theorem all1_c {r : Fr} {b : Nat} {cs : List Value} {x : RootT} (hb : At r ⟨b, 0, none⟩ [.func (.func 64) #[] #[]]) (h : RootRp.rel r cs x) :
    Con Go.Proofs.Try.prog 74 (#[] ++ #[.agg cs.toArray] ++ #[.pointer (some ⟨b, 0, none⟩)]) r [] (Ret fun v η => v = .bool (!rootOk x) ∧ η = []) := by
  obtain ⟨xa3, xa4, xc3, xc4, rfl, k0, k1, k2, k3, k4⟩ := RootRp.sh h
  refine Con.of (n := 8) [.agg #[.int .i64 x.1, .int .i64 x.2.1, .int .i64 x.2.2.1, .slice xa3 x.2.2.2.1.length xc3, .slice xa4 x.2.2.2.2.1.length xc4], .pointer (some ⟨b, 0, none⟩)] rfl Go.Proofs.Try.func74 rfl rfl rfl fun g hg R hR => ?_
  have h := h.mono hg
  have hb := hb.mono hg
  refine S.seq (S.region rfl ?_)
  refine O.opE (.p rfl) (.box (cs := [_, _, _, _, _]) rfl rfl) ?_
  rintro _ _ ⟨b2, rfl, rfl⟩
  refine O.op (.p rfl) (.as rfl) ?_
  refine O.nil ?_
  refine S.seq (S.region rfl ?_)
  refine O.op (.p rfl) (.loadAt FactEvid1.flat109 rfl hb rfl) ?_
  refine O.op (.p rfl) (.loadObjAgg (news := [_, _, _, _, _]) Go.Proofs.Try.isAgg40 (by kernel_rfl) rfl (by repeat (first | exact Sel.here | apply Sel.there)) rfl) ?_
  refine O.call0 (.p rfl) rfl FactEvid1.ok64 rfl rfl (tRight_c h) ?_
  rintro v6 _ ⟨rfl, rfl⟩
  try simp only [List.cons_append, List.nil_append, List.append_nil]
  refine O.op (.p rfl) (.not rfl) ?_
  refine O.op (.p rfl) (.as rfl) ?_
  refine O.nil ?_
  refine S.ret Go.Proofs.Try.results74 rfl fun w hw => Holds.end_ hR hw ?_
  exact ⟨_, ⟨rfl, rfl⟩, by repeat (first | exact Picks.all | exact Picks.nil | (apply Picks.cons; focus (repeat (first | exact Sel.here | apply Sel.there))) | apply Picks.skip)⟩
theorem eall_c {r : Fr} {va : Value} {l : List RootT} (ha : Arr RootRp r va l) :
    Con Go.Proofs.Try.prog 63 #[.func (.func 64) #[] #[], va] r [] (Ret fun v η => v = .bool (l.all rootOk) ∧ η = []) := by
  refine Con.of (n := 9) [.func (.func 64) #[] #[], va] rfl Go.Proofs.Try.func63 rfl rfl rfl fun g hg R hR => ?_
  have ha := ha.mono hg
  obtain ⟨a1, c1, rfl⟩ := ha.shape
  refine S.seq (S.region rfl ?_)
  refine O.opE (.p rfl) (.box (cs := [_]) rfl rfl) ?_
  rintro _ _ ⟨b2, rfl, rfl⟩
  refine O.op (.p rfl) (.as rfl) ?_
  refine O.nil ?_
  refine S.seq ?_
  refine S.frzO (by repeat (first | exact Sel.here | apply Sel.there)) fun g hs hm hb2 => ?_
  replace hg := Fr.sub_trans hg hs
  replace hR := melted hR hm
  try replace ha := ha.mono hs
  clear hs hm
  refine S.region rfl ?_
  refine O.op (.p rfl) (.mv rfl) ?_
  refine O.op (.p rfl) (.mkFunc rfl rfl) ?_
  refine O.call0 (.p rfl) rfl FactEvid1.ok73 rfl rfl ((containsRoot_c ha FactEvid1.ok74 (fun x => !rootOk x) (fun cs x _ h => all1_c hb2 h) rfl)) ?_
  rintro v7 _ ⟨rfl, rfl⟩
  try simp only [List.cons_append, List.nil_append, List.append_nil]
  refine O.op (.p rfl) (.not rfl) ?_
  refine O.op (.p rfl) (.as rfl) ?_
  refine O.nil ?_
  refine S.ret Go.Proofs.Try.results63 rfl fun w hw => Holds.end_ hR hw ?_
  exact ⟨_, ⟨by rw [List.all_eq_not_any_not], rfl⟩, by repeat (first | exact Picks.all | exact Picks.nil | (apply Picks.cons; focus (repeat (first | exact Sel.here | apply Sel.there))) | apply Picks.skip)⟩
theorem bcompare_c {r : Fr} {va vb : Value} {xs ys : List UInt8} (ha : Arr Rp.u8 r va xs) (hb : Arr Rp.u8 r vb ys) : Con Go.Proofs.Try.prog 65 #[va, vb] r [] (Ret fun v η => v = .int .i64 (Lib.compareBytes xs ys) ∧ η = []) := by
  refine Con.of (n := 8) [va, vb] rfl Go.Proofs.Try.func65 rfl rfl rfl fun g hg R hR => ?_
  have ha := ha.mono hg
  have hb := hb.mono hg
  obtain ⟨a1, c1, rfl⟩ := ha.shape
  obtain ⟨a2, c2, rfl⟩ := hb.shape
  refine S.seq (S.region rfl ?_)
  refine O.op (.p rfl) (.as rfl) ?_
  refine O.nil ?_
  refine S.seq (S.region rfl ?_)
  refine O.op (.p rfl) (.mv rfl) ?_
  refine O.op (.p rfl) (.mv rfl) ?_
  refine O.op (.p rfl) (.compareExt Go.Proofs.Try.func75 (by kernel_rfl) rfl (by kernel_rfl) (by kernel_rfl) rfl rfl rfl ha hb) ?_
  refine O.op (.p rfl) (.as rfl) ?_
  refine O.nil ?_
  refine S.ret Go.Proofs.Try.results65 rfl fun w hw => Holds.end_ hR hw ?_
  exact ⟨_, ⟨rfl, rfl⟩, by repeat (first | exact Picks.all | exact Picks.nil | (apply Picks.cons; focus (repeat (first | exact Sel.here | apply Sel.there))) | apply Picks.skip)⟩
theorem pairOf_c {r : Fr} {cs : List Value} {e : EvdT} (h : EvdRp.rel r cs e) : Con Go.Proofs.Try.prog 54 #[.agg cs.toArray] r [] (Ret fun v η => v = .agg cs.toArray ∧ η = []) := by
  obtain ⟨xa3, xa4, xa8, xa9, xc3, xc4, xc8, xc9, rfl, _⟩ := EvdRp.sh h
  refine Con.of (n := 8) [.agg #[.int .i64 e.1.1, .int .i64 e.1.2.1, .int .i64 e.1.2.2.1, .slice xa3 e.1.2.2.2.1.length xc3, .slice xa4 e.1.2.2.2.2.1.length xc4, .int .i64 e.2.1.1, .int .i64 e.2.1.2.1, .int .i64 e.2.1.2.2.1, .slice xa8 e.2.1.2.2.2.1.length xc8, .slice xa9 e.2.1.2.2.2.2.1.length xc9]] rfl Go.Proofs.Try.func54 rfl rfl rfl fun g hg R hR => ?_
  refine S.seq (S.region rfl ?_)
  refine O.opE (.p rfl) (.box (cs := [_, _, _, _, _, _, _, _, _, _]) rfl rfl) ?_
  rintro _ _ ⟨b1, rfl, rfl⟩
  refine O.opE (.p rfl) (.alloc (cs := [.int .i64 0, .int .i64 0, .int .i64 0, .slice none 0 0, .slice none 0 0, .int .i64 0, .int .i64 0, .int .i64 0, .slice none 0 0, .slice none 0 0]) Go.Proofs.Try.zeroValue99 rfl) ?_
  rintro _ _ ⟨b2, rfl, rfl⟩
  refine O.nil ?_
  refine S.seq (S.region rfl ?_)
  refine O.op (.p rfl) (.fieldObj FactEvid1.fld42x0 rfl) ?_
  refine O.op (.p rfl) (.loadObjAgg (news := [_, _, _, _, _]) Go.Proofs.Try.isAgg40 (by kernel_rfl) rfl (by repeat (first | exact Sel.here | apply Sel.there)) rfl) ?_
  refine O.op (.p rfl) (.fieldObj FactEvid1.fld42x1 rfl) ?_
  refine O.op (.p rfl) (.loadObjAgg (news := [_, _, _, _, _]) Go.Proofs.Try.isAgg40 (by kernel_rfl) rfl (by repeat (first | exact Sel.here | apply Sel.there)) rfl) ?_
  refine O.op (.p rfl) (.build (cs := [_, _, _, _, _, _, _, _, _, _]) Go.Proofs.Try.underlying99 rfl rfl rfl rfl rfl) ?_
  refine O.opU rfl (.storeObj (by kernel_rfl) rfl rfl rfl rfl (by repeat (first | exact Sel.here | apply Sel.there)) (by first | (simp; done) | (simp [Value.cells]; done))) ?_
  refine O.nil ?_
  refine S.retCellAgg Go.Proofs.Try.results54 Go.Proofs.Try.isAgg99 (by kernel_rfl) rfl (by repeat (first | exact Sel.here | apply Sel.there)) fun w hw => Holds.end_ hR hw ?_
  exact ⟨_, ⟨rfl, rfl⟩, by repeat (first | exact Picks.all | exact Picks.nil | (apply Picks.cons; focus (repeat (first | exact Sel.here | apply Sel.there))) | apply Picks.skip)⟩

end Go.Proofs.Ytodhbhanmdfdeaa
