import Derived.Test.YtodkpkmhnpmmgaaWire4
open Go Go.Sp
set_option maxRecDepth 100000
attribute [local irreducible] obj Own OwnP
namespace Go.Proofs.Ytodkpkmhnpmmgaa
/-! a reader that is no reader -/
theorem rGood_n {r : Fr} : Con Go.Proofs.Try.prog 17 #[.pointer none] r [] (Ret fun u η => u = .bool false ∧ η = []) := by
  refine Con.of (n := 18) [.pointer none] rfl Go.Proofs.Try.func17 rfl rfl rfl fun g hg R hR => ?_
  refine S.seq (S.region rfl ?_)
  refine O.op (.p rfl) (.as rfl) ?_
  refine O.nil ?_
  refine S.seq (S.region rfl ?_)
  refine O.op (.p rfl) (.mv rfl) ?_
  refine O.op (.p rfl) (.neqP Go.Proofs.Try.underlying32 rfl rfl) ?_
  refine O.slot 4 (v' := .bool false) rfl (congrArg Value.bool (by first | decide | simp)) ?_
  refine O.op (.p rfl) (.mv rfl) ?_
  refine O.opN rfl rfl rfl ?_
  refine O.opN rfl rfl rfl ?_
  refine O.opN rfl rfl rfl ?_
  refine O.opN rfl rfl rfl ?_
  refine O.op (.p rfl) (.pickF rfl rfl) ?_
  refine O.op (.p rfl) (.mv rfl) ?_
  refine O.opN rfl rfl rfl ?_
  refine O.opN rfl rfl rfl ?_
  refine O.opN rfl rfl rfl ?_
  refine O.opN rfl rfl rfl ?_
  refine O.opN rfl rfl rfl ?_
  refine O.op (.p rfl) (.pickF rfl rfl) ?_
  refine O.op (.p rfl) (.as rfl) ?_
  refine O.nil ?_
  refine S.ret Go.Proofs.Try.results17 rfl fun w hw => hR _ _ w ?_ hw
  exact ⟨rfl, rfl⟩
theorem rDone_n {r : Fr} : Con Go.Proofs.Try.prog 18 #[.pointer none] r [] (Ret fun u η => u = .bool false ∧ η = []) := by
  refine Con.of (n := 14) [.pointer none] rfl Go.Proofs.Try.func18 rfl rfl rfl fun g hg R hR => ?_
  refine S.seq (S.region rfl ?_)
  refine O.op (.p rfl) (.as rfl) ?_
  refine O.nil ?_
  refine S.seq (S.region rfl ?_)
  refine O.op (.p rfl) (.mv rfl) ?_
  refine O.call0 (.p rfl) rfl Fact.ok17 rfl rfl (rGood_n) ?_
  rintro v4 _ ⟨rfl, rfl⟩
  try simp only [List.cons_append, List.nil_append, List.append_nil]
  refine O.slot 4 (v' := .bool false) rfl (congrArg Value.bool (by first | decide | simp)) ?_
  refine O.op (.p rfl) (.mv rfl) ?_
  refine O.opN rfl rfl rfl ?_
  refine O.opN rfl rfl rfl ?_
  refine O.opN rfl rfl rfl ?_
  refine O.opN rfl rfl rfl ?_
  refine O.opN rfl rfl rfl ?_
  refine O.opN rfl rfl rfl ?_
  refine O.opN rfl rfl rfl ?_
  refine O.op (.p rfl) (.pickF rfl rfl) ?_
  refine O.op (.p rfl) (.as rfl) ?_
  refine O.nil ?_
  refine S.ret Go.Proofs.Try.results18 rfl fun w hw => hR _ _ w ?_ hw
  exact ⟨rfl, rfl⟩
theorem triedI_n {r : Fr} {f : Value} (hf : f.oneCell' = true) : Con Go.Proofs.Try.prog 25 #[.pointer none, f] r [] (Ret fun u η => u = .int .i64 0 ∧ η = []) := by
  refine Con.of (n := 12) [.pointer none, f] rfl Go.Proofs.Try.func25 rfl rfl rfl fun g hg R hR => ?_
  refine S.seq (S.region rfl ?_)
  refine O.opE (.p rfl) (.box (cs := [_]) rfl rfl) ?_
  rintro _ _ ⟨b2, rfl, rfl⟩
  refine O.opE (.p rfl) (.alloc (cs := [.int .i64 0]) Go.Proofs.Try.zeroValue3 rfl) ?_
  rintro _ _ ⟨b4, rfl, rfl⟩
  refine O.nil ?_
  refine S.seq (S.seq (S.region rfl ?_))
  refine O.op (.p rfl) (.loadObj Fact.flat32 rfl (by repeat (first | exact Sel.here | apply Sel.there)) rfl) ?_
  refine O.call0 (.p rfl) rfl Fact.ok17 rfl rfl (rGood_n) ?_
  rintro v6 _ ⟨rfl, rfl⟩
  try simp only [List.cons_append, List.nil_append, List.append_nil]
  refine O.slot 6 (v' := .bool false) rfl (congrArg Value.bool (by first | decide | simp)) ?_
  refine O.op (.p rfl) (.not rfl) ?_
  refine O.slot 7 (v' := .bool true) rfl (congrArg Value.bool (by first | decide | simp)) ?_
  refine O.nil ?_
  refine S.condT rfl ?_
  refine S.seq (S.region rfl ?_)
  refine O.op (.p rfl) (.loadObj Fact.flat3 rfl (by repeat (first | exact Sel.here | apply Sel.there)) rfl) ?_
  refine O.opU rfl (.store1 Fact.flat3 rfl rfl (by first | rfl | assumption) (by repeat (first | exact Sel.here | apply Sel.there)) (by simp)) ?_
  refine O.nil ?_
  refine S.retCell Go.Proofs.Try.results25 Fact.flat3 rfl (by repeat (first | exact Sel.here | apply Sel.there)) fun w hw => Holds.end_ hR hw ?_
  exact ⟨_, ⟨rfl, rfl⟩, by repeat (first | exact Picks.all | exact Picks.nil | (apply Picks.cons; focus (repeat (first | exact Sel.here | apply Sel.there))) | apply Picks.skip)⟩
theorem triedS_n {r : Fr} {f : Value} (hf : f.oneCell' = true) : Con Go.Proofs.Try.prog 27 #[.pointer none, f] r [] (Ret fun u η => u = .slice none 0 0 ∧ η = []) := by
  refine Con.of (n := 12) [.pointer none, f] rfl Go.Proofs.Try.func27 rfl rfl rfl fun g hg R hR => ?_
  refine S.seq (S.region rfl ?_)
  refine O.opE (.p rfl) (.box (cs := [_]) rfl rfl) ?_
  rintro _ _ ⟨b2, rfl, rfl⟩
  refine O.opE (.p rfl) (.alloc (cs := [.slice none 0 0]) Go.Proofs.Try.zeroValue25 rfl) ?_
  rintro _ _ ⟨b4, rfl, rfl⟩
  refine O.nil ?_
  refine S.seq (S.seq (S.region rfl ?_))
  refine O.op (.p rfl) (.loadObj Fact.flat32 rfl (by repeat (first | exact Sel.here | apply Sel.there)) rfl) ?_
  refine O.call0 (.p rfl) rfl Fact.ok17 rfl rfl (rGood_n) ?_
  rintro v6 _ ⟨rfl, rfl⟩
  try simp only [List.cons_append, List.nil_append, List.append_nil]
  refine O.slot 6 (v' := .bool false) rfl (congrArg Value.bool (by first | decide | simp)) ?_
  refine O.op (.p rfl) (.not rfl) ?_
  refine O.slot 7 (v' := .bool true) rfl (congrArg Value.bool (by first | decide | simp)) ?_
  refine O.nil ?_
  refine S.condT rfl ?_
  refine S.seq (S.region rfl ?_)
  refine O.op (.p rfl) (.loadObj Fact.flat25 rfl (by repeat (first | exact Sel.here | apply Sel.there)) rfl) ?_
  refine O.opU rfl (.store1 Fact.flat25 rfl rfl (by first | rfl | assumption) (by repeat (first | exact Sel.here | apply Sel.there)) (by simp)) ?_
  refine O.nil ?_
  refine S.retCell Go.Proofs.Try.results27 Fact.flat25 rfl (by repeat (first | exact Sel.here | apply Sel.there)) fun w hw => Holds.end_ hR hw ?_
  exact ⟨_, ⟨rfl, rfl⟩, by repeat (first | exact Picks.all | exact Picks.nil | (apply Picks.cons; focus (repeat (first | exact Sel.here | apply Sel.there))) | apply Picks.skip)⟩
theorem rByte_n {r : Fr} : Con Go.Proofs.Try.prog 13 #[.pointer none] r [] (Ret fun u η => u = .int .u8 0 ∧ η = []) := by
  refine Con.of (n := 11) [.pointer none] rfl Go.Proofs.Try.func13 rfl rfl rfl fun g hg R hR => ?_
  refine S.seq (S.region rfl ?_)
  refine O.op (.p rfl) (.as rfl) ?_
  refine O.nil ?_
  refine S.seq (S.seq (S.region rfl ?_))
  refine O.op (.p rfl) (.mv rfl) ?_
  refine O.op (.p rfl) (.eqlP Go.Proofs.Try.underlying32 rfl rfl) ?_
  refine O.slot 4 (v' := .bool true) rfl (congrArg Value.bool (by first | decide | simp)) ?_
  refine O.nil ?_
  refine S.condT rfl ?_
  refine S.seq (S.region rfl ?_)
  refine O.op (.p rfl) (.as rfl) ?_
  refine O.nil ?_
  refine S.ret Go.Proofs.Try.results13 rfl fun w hw => hR _ _ w ?_ hw
  exact ⟨rfl, rfl⟩
theorem rNumber_n {r : Fr} : Con Go.Proofs.Try.prog 14 #[.pointer none] r [] (Ret fun u η => u = .int .i64 0 ∧ η = []) := by
  refine Con.of (n := 11) [.pointer none] rfl Go.Proofs.Try.func14 rfl rfl rfl fun g hg R hR => ?_
  refine S.seq (S.region rfl ?_)
  refine O.op (.p rfl) (.as rfl) ?_
  refine O.nil ?_
  refine S.seq (S.seq (S.region rfl ?_))
  refine O.op (.p rfl) (.mv rfl) ?_
  refine O.op (.p rfl) (.eqlP Go.Proofs.Try.underlying32 rfl rfl) ?_
  refine O.slot 4 (v' := .bool true) rfl (congrArg Value.bool (by first | decide | simp)) ?_
  refine O.nil ?_
  refine S.condT rfl ?_
  refine S.seq (S.region rfl ?_)
  refine O.op (.p rfl) (.as rfl) ?_
  refine O.nil ?_
  refine S.ret Go.Proofs.Try.results14 rfl fun w hw => hR _ _ w ?_ hw
  exact ⟨rfl, rfl⟩
theorem rBytes_n {r : Fr} {most : Int} : Con Go.Proofs.Try.prog 15 #[.pointer none, .int .i64 most] r [] (Ret fun u η => u = .slice none 0 0 ∧ η = []) := by
  refine Con.of (n := 8) [.pointer none, .int .i64 most] rfl Go.Proofs.Try.func15 rfl rfl rfl fun g hg R hR => ?_
  refine S.seq (S.region rfl ?_)
  refine O.opE (.p rfl) (.box (cs := [_]) rfl rfl) ?_
  rintro _ _ ⟨b2, rfl, rfl⟩
  refine O.opE (.p rfl) (.box (cs := [_]) rfl rfl) ?_
  rintro _ _ ⟨b3, rfl, rfl⟩
  refine O.op (.p rfl) (.as rfl) ?_
  refine O.nil ?_
  refine S.seq (S.region rfl ?_)
  refine O.op (.p rfl) (.loadObj Fact.flat32 rfl (by repeat (first | exact Sel.here | apply Sel.there)) rfl) ?_
  refine O.op (.p rfl) (.mkFunc rfl rfl) ?_
  refine O.call0 (.p rfl) rfl Fact.ok27 rfl rfl ((triedS_n rfl)) ?_
  rintro v7 _ ⟨rfl, rfl⟩
  try simp only [List.cons_append, List.nil_append, List.append_nil]
  refine O.op (.p rfl) (.as rfl) ?_
  refine O.nil ?_
  refine S.ret Go.Proofs.Try.results15 rfl fun w hw => Holds.end_ hR hw ?_
  exact ⟨_, ⟨rfl, rfl⟩, by repeat (first | exact Picks.all | exact Picks.nil | (apply Picks.cons; focus (repeat (first | exact Sel.here | apply Sel.there))) | apply Picks.skip)⟩
theorem rCount_n {r : Fr} {most : Int} : Con Go.Proofs.Try.prog 16 #[.pointer none, .int .i64 most] r [] (Ret fun u η => u = .int .i64 0 ∧ η = []) := by
  refine Con.of (n := 8) [.pointer none, .int .i64 most] rfl Go.Proofs.Try.func16 rfl rfl rfl fun g hg R hR => ?_
  refine S.seq (S.region rfl ?_)
  refine O.opE (.p rfl) (.box (cs := [_]) rfl rfl) ?_
  rintro _ _ ⟨b2, rfl, rfl⟩
  refine O.opE (.p rfl) (.box (cs := [_]) rfl rfl) ?_
  rintro _ _ ⟨b3, rfl, rfl⟩
  refine O.op (.p rfl) (.as rfl) ?_
  refine O.nil ?_
  refine S.seq (S.region rfl ?_)
  refine O.op (.p rfl) (.loadObj Fact.flat32 rfl (by repeat (first | exact Sel.here | apply Sel.there)) rfl) ?_
  refine O.op (.p rfl) (.mkFunc rfl rfl) ?_
  refine O.call0 (.p rfl) rfl Fact.ok25 rfl rfl ((triedI_n rfl)) ?_
  rintro v7 _ ⟨rfl, rfl⟩
  try simp only [List.cons_append, List.nil_append, List.append_nil]
  refine O.op (.p rfl) (.as rfl) ?_
  refine O.nil ?_
  refine S.ret Go.Proofs.Try.results16 rfl fun w hw => Holds.end_ hR hw ?_
  exact ⟨_, ⟨rfl, rfl⟩, by repeat (first | exact Picks.all | exact Picks.nil | (apply Picks.cons; focus (repeat (first | exact Sel.here | apply Sel.there))) | apply Picks.skip)⟩

theorem WireNil_c {r : Fr} {most : Int} : Con Go.Proofs.Try.prog 4 #[.int .i64 most] r [] (Ret fun u η => u = .bool true ∧ η = []) := by
  refine Con.of (n := 47) [.int .i64 most] rfl Go.Proofs.Try.func4 rfl rfl rfl fun g hg R hR => ?_
  refine S.seq (S.region rfl ?_)
  refine O.op (.p rfl) (.as rfl) ?_
  refine O.nil ?_
  refine S.seq (S.region rfl ?_)
  refine O.op (.p rfl) (.build (cs := [_, _, _]) Go.Proofs.Try.underlying36 rfl rfl rfl rfl rfl) ?_
  refine O.opE (.p rfl) (.box (cs := [_, _, _]) rfl rfl) ?_
  rintro _ _ ⟨b7, rfl, rfl⟩
  refine O.opE (.p rfl) (.litP (T := Rp.val) (ys := [_, _]) Go.Proofs.Try.underlying37 Fact.elem32 (by decide) rfl rfl ⟨⟨rfl, rfl⟩, ⟨rfl, rfl⟩, trivial⟩ (by decide)) ?_
  rintro _ _ ⟨a8, c8, rfl, rfl⟩
  refine O.frzA (by repeat (first | exact Sel.here | apply Sel.there)) fun g hs hm ha8 => ?_
  replace hg := Fr.sub_trans hg hs
  replace hR := melted hR hm
  clear hs hm
  refine O.op (.p rfl) (.as rfl) ?_
  refine O.nil ?_
  refine S.seq (S.seq (S.region rfl ?_))
  refine O.op (.p rfl) (.as rfl) ?_
  refine O.nil ?_
  refine S.block ?_
  refine S.loopK2 (ι := Nat) (κ := Value) (fun i v => i ≤ 2 ∧ Arr Rp.u8 g.h v []) (fun i v => [(4, .int .i64 (i : Int))]) [(0, _), (3, _)] (fun i v => [obj b7 36 [v, .bool false, .bool false]]) (fun i v => 2 - i) (0) (.slice none 0 0) (by exact ⟨by simp, Arr.nil⟩) (.cons rfl (.nil)) (.cons rfl (.cons rfl (.nil))) rfl fun i v hx ih => ?_
  have hm1 := meltRefl (g := g)
  obtain ⟨hx, hv⟩ := hx
  refine S.seq (S.seq (S.region rfl ?_))
  refine O.op (.p rfl) (.mv rfl) ?_
  refine O.op (.p rfl) (.lss rfl rfl) ?_
  refine O.nil ?_
  first | refine S.condD rfl (fun h10 => ?_) (fun h10 => ?_) | refine S.condB rfl (fun h10 => ?_) (fun h10 => ?_)
  · have hi : i = 0 ∨ i = 1 := by omega
    rcases hi with rfl | rfl
    · refine S.skip (S.seq (S.block (S.seq (S.region rfl ?_))))
      refine O.op (.p rfl) (.mv rfl) ?_
      refine O.op (.p rfl) (.mv rfl) ?_
      refine O.idx' (.p rfl) Go.Proofs.Try.underlying37 Fact.size32 rfl rfl rfl (by first | assumption | exact Arr.mono hg (by assumption) | exact Arr.left (by assumption) | exact Arr.left (Arr.mono hg (by assumption))) (by decide) (by first | omega | (simp; done) | (simp; omega) | decide) (fun p15 cs15 hp15 hr15 => ?_)
      obtain ⟨rfl, hz15⟩ := hr15
      refine O.op (.p rfl) (.loadAt Fact.flat32 rfl hp15 rfl) ?_
      refine O.op (.p rfl) (.as rfl) ?_
      refine O.nil ?_
      refine S.seq (S.region rfl ?_)
      refine O.op (.p rfl) (.mv rfl) ?_
      refine O.call0 (.p rfl) rfl Fact.ok13 rfl rfl (rByte_n) ?_
      rintro v18 _ ⟨rfl, rfl⟩
      try simp only [List.cons_append, List.nil_append, List.append_nil]
      refine O.op (.p rfl) (.neq rfl rfl) ?_
      refine O.slot 19 (v' := .bool false) rfl (congrArg Value.bool (by first | decide | simp)) ?_
      refine O.op (.p rfl) (.mv rfl) ?_
      refine O.op (.g rfl rfl) (.mv rfl) ?_
      refine O.call0 (.g rfl rfl) rfl Fact.ok14 rfl rfl (rNumber_n) ?_
      rintro v22 _ ⟨rfl, rfl⟩
      try simp only [List.cons_append, List.nil_append, List.append_nil]
      refine O.op (.g rfl rfl) (.neq rfl rfl) ?_
      refine O.slot 23 (v' := .bool false) rfl (congrArg Value.bool (by first | decide | simp)) ?_
      refine O.op (.p rfl) (.pickF rfl rfl) ?_
      refine O.op (.p rfl) (.mv rfl) ?_
      refine O.op (.g rfl rfl) (.mv rfl) ?_
      refine O.op (.g rfl rfl) (.mv rfl) ?_
      refine O.call0 (.g rfl rfl) rfl Fact.ok15 rfl rfl (rBytes_n) ?_
      rintro v28 _ ⟨rfl, rfl⟩
      try simp only [List.cons_append, List.nil_append, List.append_nil]
      refine O.op (.g rfl rfl) (.len rfl Go.Proofs.Try.underlying25 rfl) ?_
      refine O.op (.g rfl rfl) (.neq rfl rfl) ?_
      refine O.slot 30 (v' := .bool false) rfl (congrArg Value.bool (by first | decide | simp)) ?_
      refine O.op (.p rfl) (.pickF rfl rfl) ?_
      refine O.op (.p rfl) (.mv rfl) ?_
      refine O.op (.g rfl rfl) (.mv rfl) ?_
      refine O.op (.g rfl rfl) (.mv rfl) ?_
      refine O.call0 (.g rfl rfl) rfl Fact.ok16 rfl rfl (rCount_n) ?_
      rintro v35 _ ⟨rfl, rfl⟩
      try simp only [List.cons_append, List.nil_append, List.append_nil]
      refine O.op (.g rfl rfl) (.neq rfl rfl) ?_
      refine O.slot 36 (v' := .bool false) rfl (congrArg Value.bool (by first | decide | simp)) ?_
      refine O.op (.p rfl) (.pickF rfl rfl) ?_
      refine O.op (.p rfl) (.mv rfl) ?_
      refine O.op (.g rfl rfl) (.mv rfl) ?_
      refine O.call0 (.g rfl rfl) rfl Fact.ok17 rfl rfl (rGood_n) ?_
      rintro v40 _ ⟨rfl, rfl⟩
      try simp only [List.cons_append, List.nil_append, List.append_nil]
      refine O.slot 40 (v' := .bool false) rfl (congrArg Value.bool (by first | decide | simp)) ?_
      refine O.op (.p rfl) (.pickF rfl rfl) ?_
      refine O.op (.p rfl) (.mv rfl) ?_
      refine O.op (.g rfl rfl) (.mv rfl) ?_
      refine O.call0 (.g rfl rfl) rfl Fact.ok18 rfl rfl (rDone_n) ?_
      rintro v44 _ ⟨rfl, rfl⟩
      try simp only [List.cons_append, List.nil_append, List.append_nil]
      refine O.slot 44 (v' := .bool false) rfl (congrArg Value.bool (by first | decide | simp)) ?_
      refine O.op (.p rfl) (.pickF rfl rfl) ?_
      refine O.nil ?_
      refine S.condF rfl ?_
      refine S.skip (S.inBlock (S.region rfl ?_))
      refine O.op (.p rfl) (.mv rfl) ?_
      refine O.op (.p rfl) (.add rfl rfl (IntWalk.i64_in _ (by omega))) ?_
      refine O.op (.p rfl) (.as rfl) ?_
      refine O.nil ?_
      refine S.weaken ?_ (ih (1) (v) (by exact ⟨by simp, hv⟩) (by omega))
      repeat (first | exact Sub.nil | refine Sub.cons rfl ?_)
    · refine S.skip (S.seq (S.block (S.seq (S.region rfl ?_))))
      refine O.op (.p rfl) (.mv rfl) ?_
      refine O.op (.p rfl) (.mv rfl) ?_
      refine O.idx' (.p rfl) Go.Proofs.Try.underlying37 Fact.size32 rfl rfl rfl (by first | assumption | exact Arr.mono hg (by assumption) | exact Arr.left (by assumption) | exact Arr.left (Arr.mono hg (by assumption))) (by decide) (by first | omega | (simp; done) | (simp; omega) | decide) (fun p15 cs15 hp15 hr15 => ?_)
      obtain ⟨rfl, hz15⟩ := hr15
      refine O.op (.p rfl) (.loadAt Fact.flat32 rfl hp15 rfl) ?_
      refine O.op (.p rfl) (.as rfl) ?_
      refine O.nil ?_
      refine S.seq (S.region rfl ?_)
      refine O.op (.p rfl) (.mv rfl) ?_
      refine O.callS (.p rfl) rfl Fact.ok13 rfl rfl (by repeat (first | exact Sel.here | apply Sel.there)) (rByte_e (rest := []) (z := 0) (rest' := []) (f := false) (bad' := false) hv rfl rfl) ?_
      rintro v18 _ ⟨v18', rfl, ha18', rfl⟩
      try simp only [List.cons_append, List.nil_append, List.append_nil]
      refine O.op (.p rfl) (.neq rfl rfl) ?_
      refine O.slot 19 (v' := .bool false) rfl (congrArg Value.bool (by first | decide | simp)) ?_
      refine O.op (.p rfl) (.mv rfl) ?_
      refine O.op (.g rfl rfl) (.mv rfl) ?_
      refine O.callS (.g rfl rfl) rfl Fact.ok14 rfl rfl (by repeat (first | exact Sel.here | apply Sel.there)) (rNumber_e (z := 0) (rest' := []) (f := false) (bad' := false) ha18' rfl rfl) ?_
      rintro v22 _ ⟨v22', rfl, ha22', rfl⟩
      try simp only [List.cons_append, List.nil_append, List.append_nil]
      refine O.op (.g rfl rfl) (.neq rfl rfl) ?_
      refine O.slot 23 (v' := .bool false) rfl (congrArg Value.bool (by first | decide | simp)) ?_
      refine O.op (.p rfl) (.pickF rfl rfl) ?_
      refine O.op (.p rfl) (.mv rfl) ?_
      refine O.op (.g rfl rfl) (.mv rfl) ?_
      refine O.op (.g rfl rfl) (.mv rfl) ?_
      refine O.callS (.g rfl rfl) rfl Fact.ok15 rfl rfl (by repeat (first | exact Sel.here | apply Sel.there)) (rBytes_e (out := []) (rest' := []) (f := false) (bad' := false) _ ha22' (by decide) rfl rfl) ?_
      rintro v28 _ ⟨a28, c28, v28', rfl, ha28', rfl⟩
      try simp only [List.cons_append, List.nil_append, List.append_nil]
      refine O.op (.g rfl rfl) (.len rfl Go.Proofs.Try.underlying25 rfl) ?_
      refine O.op (.g rfl rfl) (.neq rfl rfl) ?_
      refine O.slot 30 (v' := .bool false) rfl (congrArg Value.bool (by first | decide | simp)) ?_
      refine O.op (.p rfl) (.pickF rfl rfl) ?_
      refine O.op (.p rfl) (.mv rfl) ?_
      refine O.op (.g rfl rfl) (.mv rfl) ?_
      refine O.op (.g rfl rfl) (.mv rfl) ?_
      refine O.callS (.g rfl rfl) rfl Fact.ok16 rfl rfl (by repeat (first | exact Sel.here | apply Sel.there)) (rCount_e (z := 0) (rest' := []) (f := false) (bad' := false) _ ha28' rfl rfl) ?_
      rintro v35 _ ⟨v35', rfl, ha35', rfl⟩
      try simp only [List.cons_append, List.nil_append, List.append_nil]
      refine O.op (.g rfl rfl) (.neq rfl rfl) ?_
      refine O.slot 36 (v' := .bool false) rfl (congrArg Value.bool (by first | decide | simp)) ?_
      refine O.op (.p rfl) (.pickF rfl rfl) ?_
      refine O.op (.p rfl) (.mv rfl) ?_
      refine O.op (.g rfl rfl) (.mv rfl) ?_
      refine O.callS (.g rfl rfl) rfl Fact.ok17 rfl rfl (by repeat (first | exact Sel.here | apply Sel.there)) rGood_c ?_
      rintro v40 _ ⟨rfl, rfl⟩
      try simp only [List.cons_append, List.nil_append, List.append_nil]
      refine O.slot 40 (v' := .bool false) rfl (congrArg Value.bool (by first | decide | simp)) ?_
      refine O.op (.p rfl) (.pickF rfl rfl) ?_
      refine O.op (.p rfl) (.mv rfl) ?_
      refine O.op (.g rfl rfl) (.mv rfl) ?_
      refine O.callS (.g rfl rfl) rfl Fact.ok18 rfl rfl (by repeat (first | exact Sel.here | apply Sel.there)) (rDone_c ha35') ?_
      rintro v44 _ ⟨rfl, rfl⟩
      try simp only [List.cons_append, List.nil_append, List.append_nil]
      refine O.slot 44 (v' := .bool false) rfl (congrArg Value.bool (by first | decide | simp)) ?_
      refine O.op (.p rfl) (.pickF rfl rfl) ?_
      refine O.nil ?_
      refine S.condF rfl ?_
      refine S.skip (S.inBlock (S.region rfl ?_))
      refine O.op (.p rfl) (.mv rfl) ?_
      refine O.op (.p rfl) (.add rfl rfl (IntWalk.i64_in _ (by omega))) ?_
      refine O.op (.p rfl) (.as rfl) ?_
      refine O.nil ?_
      refine S.pk ?_ (S.weaken ?_ (ih (2) (v35') (by exact ⟨by simp, ha35'⟩) (by omega)))
      · repeat (first | exact Picks.all | exact Picks.nil | (apply Picks.cons; focus (repeat (first | exact Sel.here | apply Sel.there))) | apply Picks.skip)
      repeat (first | exact Sub.nil | refine Sub.cons rfl ?_)
  · refine S.exit rfl ?_
    refine S.seq (S.region rfl ?_)
    refine O.call0 (.p rfl) rfl Fact.ok6 rfl rfl (awake_c) ?_
    rintro v46 _ ⟨rfl, rfl⟩
    try simp only [List.cons_append, List.nil_append, List.append_nil]
    refine O.op (.p rfl) (.as rfl) ?_
    refine O.nil ?_
    refine S.ret Go.Proofs.Try.results4 rfl fun w hw => Holds.end_ hR hw ?_
    exact ⟨_, ⟨rfl, rfl⟩, by repeat (first | exact Picks.all | exact Picks.nil | (apply Picks.cons; focus (repeat (first | exact Sel.here | apply Sel.there))) | apply Picks.skip)⟩

end Go.Proofs.Ytodkpkmhnpmmgaa
