import Derived.Test.YthaebmfgelaleaaGreatNet8
open Go Go.Sp
set_option maxRecDepth 100000
attribute [local irreducible] obj Own OwnP
namespace Go.Proofs.YthaebmfgelaleaaGreat
theorem FactNet9.elem35 : elemIs Go.Proofs.Tryz.prog 35 3 40 [.int .i64 0, .int .i64 0, .slice none 0 0] := elemIs.mk (by kernel_rfl) rfl
theorem FactNet9.flat33 : Go.Sp.flat1 Go.Proofs.Tryz.prog 33 = true := by kernel_rfl
theorem FactNet9.fld35x2 : fieldOff Go.Proofs.Tryz.prog 35 2 = some 2 := by kernel_rfl
theorem FactNet9.ok10 : callable Go.Proofs.Tryz.prog 10 = true := by kernel_rfl
theorem FactNet9.ok13 : callable Go.Proofs.Tryz.prog 13 = true := by kernel_rfl
theorem FactNet9.ok16 : callable Go.Proofs.Tryz.prog 16 = true := by kernel_rfl
theorem FactNet9.ok21 : callable Go.Proofs.Tryz.prog 21 = true := by kernel_rfl
theorem FactNet9.ok23 : callable Go.Proofs.Tryz.prog 23 = true := by kernel_rfl
theorem FactNet9.ok26 : callable Go.Proofs.Tryz.prog 26 = true := by kernel_rfl
theorem FactNet9.ok7 : callable Go.Proofs.Tryz.prog 7 = true := by kernel_rfl
theorem FactNet9.size3 : (Go.Proofs.Tryz.prog.info? 3).map (·.size) = some 1 := by kernel_rfl
theorem FactNet9.size54 : (Go.Proofs.Tryz.prog.info? 54).map (·.size) = some 2 := by kernel_rfl

theorem of_c {r : Fr} (f t : Int) {s : List UInt8} (hl : s.length ≤ 9223372036854775807) : Con Go.Proofs.Tryz.prog 26 #[.int .i64 f, .int .i64 t, .string (str s)] r [] (Ret fun u η => ∃ a c, u = .agg #[.int .i64 f, .int .i64 t, .slice a s.length c] ∧ η = [OwnP Rp.u8 5 (.slice a s.length c) s]) := by
  refine Con.of (n := 12) [.int .i64 f, .int .i64 t, .string (str s)] rfl Go.Proofs.Tryz.func26 rfl rfl rfl fun g hg R hR => ?_
  refine S.seq (S.region rfl ?_)
  refine O.opE (.p rfl) (.alloc (cs := [.int .i64 0, .int .i64 0, .slice none 0 0]) Go.Proofs.Tryz.zeroValue35 rfl) ?_
  rintro _ _ ⟨b6, rfl, rfl⟩
  refine O.nil ?_
  refine S.seq (S.region rfl ?_)
  refine O.op (.p rfl) (.mv rfl) ?_
  refine O.op (.p rfl) (.mv rfl) ?_
  refine O.op (.p rfl) (.mv rfl) ?_
  refine O.opE (.p rfl) (.strBytesO Go.Proofs.Tryz.underlying9 Go.Proofs.Tryz.underlying33 Go.Proofs.Tryz.underlying5 rfl hl) ?_
  rintro v10 _ ⟨a10, c10, rfl, rfl⟩
  refine O.op (.p rfl) (.build (cs := [_, _, _]) Go.Proofs.Tryz.underlying35 rfl rfl rfl rfl rfl) ?_
  refine O.opU rfl (.storeObj (by kernel_rfl) rfl rfl rfl rfl (by repeat (first | exact Sel.here | apply Sel.there)) (by first | (simp; done) | (simp [Value.cells]; done))) ?_
  refine O.nil ?_
  refine S.retCellAgg Go.Proofs.Tryz.results26 Go.Proofs.Tryz.isAgg35 (by kernel_rfl) rfl (by repeat (first | exact Sel.here | apply Sel.there)) fun w hw => Holds.end_ hR hw ?_
  exact ⟨_, ⟨a10, c10, rfl, rfl⟩, by repeat (first | exact Picks.all | exact Picks.nil | (apply Picks.cons; focus (repeat (first | exact Sel.here | apply Sel.there))) | apply Picks.skip)⟩
theorem one64 : InI64 1 := by constructor <;> decide
theorem two64 : InI64 2 := by constructor <;> decide
abbrev awX : Pkt := (1, 2, [120], ())
abbrev awY : Pkt := (1, 2, [121], ())
theorem awake_c {r : Fr} : Con Go.Proofs.Tryz.prog 6 #[] r [] (Ret fun v η => v = .bool true ∧ η = []) := by
  refine Con.of (n := 82) [] rfl Go.Proofs.Tryz.func6 rfl rfl rfl fun g hg R hR => ?_
  refine S.seq (S.region rfl ?_)
  refine O.op (.p rfl) (.as rfl) ?_
  refine O.nil ?_
  refine S.seq (S.region rfl ?_)
  refine O.call0 (.p rfl) rfl FactNet9.ok7 rfl rfl ((nnew_c)) ?_
  rintro v12 _ ⟨d12, b12, rfl, rfl⟩
  try simp only [List.cons_append, List.nil_append, List.append_nil]
  refine O.frzO (by repeat (first | exact Sel.here | apply Sel.there)) fun g hs hm hat => ?_
  replace hg := Fr.sub_trans hg hs
  replace hR := melted hR hm
  clear hs hm
  refine O.op (.p rfl) (.as rfl) ?_
  refine O.nil ?_
  refine S.seq (S.region rfl ?_)
  refine O.op (.p rfl) (.mv rfl) ?_
  refine O.call0 (.p rfl) rfl FactNet9.ok26 rfl rfl ((of_c (s := [120]) 1 2 (by decide))) ?_
  rintro v14 _ ⟨a14, c14, rfl, rfl⟩
  try simp only [List.cons_append, List.nil_append, List.append_nil]
  refine O.frzA (by repeat (first | exact Sel.here | apply Sel.there)) fun g hs hm ha14 => ?_
  replace hg := Fr.sub_trans hg hs
  replace hR := melted hR hm
  try replace hat := hat.mono hs
  clear hs hm
  refine O.call0 (.p rfl) rfl FactNet9.ok26 rfl rfl ((of_c (s := [121]) 1 2 (by decide))) ?_
  rintro v15 _ ⟨a15, c15, rfl, rfl⟩
  try simp only [List.cons_append, List.nil_append, List.append_nil]
  refine O.frzA (by repeat (first | exact Sel.here | apply Sel.there)) fun g hs hm ha15 => ?_
  replace hg := Fr.sub_trans hg hs
  replace hR := melted hR hm
  try replace hat := hat.mono hs
  try replace ha14 := ha14.mono hs
  clear hs hm
  refine O.opE (.p rfl) (.litP (T := (Rp.cells 3)) (ys := [_, _]) Go.Proofs.Tryz.underlying29 FactNet9.elem35 (by decide) rfl rfl ⟨⟨rfl, rfl, by first | (simp; done) | (intro v hv; simp [Value.cells] at hv; rcases hv with rfl | rfl <;> rfl) | (refine List.forall_mem_cons.2 ⟨rfl, ?_⟩; repeat (first | exact (fun _ h => absurd h List.not_mem_nil) | refine List.forall_mem_cons.2 ⟨rfl, ?_⟩))⟩, ⟨rfl, rfl, by first | (simp; done) | (intro v hv; simp [Value.cells] at hv; rcases hv with rfl | rfl <;> rfl) | (refine List.forall_mem_cons.2 ⟨rfl, ?_⟩; repeat (first | exact (fun _ h => absurd h List.not_mem_nil) | refine List.forall_mem_cons.2 ⟨rfl, ?_⟩))⟩, trivial⟩ (by decide)) ?_
  rintro _ _ ⟨a16, c16, rfl, rfl⟩
  refine O.frzA (by repeat (first | exact Sel.here | apply Sel.there)) fun g hs hm ha16 => ?_
  replace hg := Fr.sub_trans hg hs
  replace hR := melted hR hm
  try replace hat := hat.mono hs
  try replace ha14 := ha14.mono hs
  try replace ha15 := ha15.mono hs
  clear hs hm
  refine O.callS (.p rfl) rfl FactNet9.ok16 rfl rfl (by repeat (first | exact Sel.here | apply Sel.there)) (send_g (ps := [awX, awY]) hat (Arr.ofCells ha16 ⟨PktRp.mk one64 two64 ha14, PktRp.mk one64 two64 ha15, trivial⟩ rfl)) ?_
  rintro v17 _ ⟨rfl, rfl⟩
  try simp only [List.cons_append, List.nil_append, List.append_nil]
  rw [show sendE [] [awX, awY] = 0 from by decide, show sendM [] [awX, awY] = [((1, 2), [awX, awY])] from by rfl]
  refine O.op (.p rfl) (.as rfl) ?_
  refine O.nil ?_
  refine S.seq (S.region rfl ?_)
  refine O.op (.p rfl) (.mv rfl) ?_
  refine O.callS (.p rfl) rfl FactNet9.ok13 rfl rfl (by repeat (first | exact Sel.here | apply Sel.there)) (twice_yes (ls := [((1, 2), [awX, awY])]) (f := 1) (t := 2) (i := 0) hat (by decide) (by decide)) ?_
  rintro v19 _ ⟨rfl, rfl⟩
  try simp only [List.cons_append, List.nil_append, List.append_nil]
  rw [show fullL [((1, 2), [awX, awY])] (atL [((1, 2), [awX, awY])] (1, 2))[0] = false from by decide, show sendL [((1, 2), [awX, awY])] (atL [((1, 2), [awX, awY])] (1, 2))[0] = [((1, 2), [awX, awY, awX])] from by rfl]
  refine O.op (.p rfl) (.as rfl) ?_
  refine O.nil ?_
  refine S.seq (S.region rfl ?_)
  refine O.op (.p rfl) (.mv rfl) ?_
  refine O.callS (.p rfl) rfl FactNet9.ok23 rfl rfl (by repeat (first | exact Sel.here | apply Sel.there)) (many_g (ls := [((1, 2), [awX, awY, awX])]) hat) ?_
  rintro v21 _ ⟨rfl, rfl⟩
  try simp only [List.cons_append, List.nil_append, List.append_nil]
  refine O.op (.p rfl) (.as rfl) ?_
  refine O.nil ?_
  refine S.seq (S.region rfl ?_)
  refine O.op (.p rfl) (.mv rfl) ?_
  refine O.callS (.p rfl) rfl FactNet9.ok10 rfl rfl (by repeat (first | exact Sel.here | apply Sel.there)) (take_yes (ls := [((1, 2), [awX, awY, awX])]) (f := 1) (t := 2) (i := 1) hat (by decide)) ?_
  rintro v24 _ ⟨a24, c24, rfl, _, _, rfl⟩
  try simp only [List.cons_append, List.nil_append, List.append_nil]
  rw [show takeL [((1, 2), [awX, awY, awX])] (1, 2) 1 = [((1, 2), [awX, awX])] from by rfl]
  refine O.frzA (by repeat (first | exact Sel.here | apply Sel.there)) fun g hs hm ha24 => ?_
  replace hg := Fr.sub_trans hg hs
  replace hR := melted hR hm
  try replace hat := hat.mono hs
  try replace ha14 := ha14.mono hs
  try replace ha15 := ha15.mono hs
  try replace ha16 := ha16.mono hs
  clear hs hm
  refine O.op (.p rfl) (.mv rfl) ?_
  refine O.op (.p rfl) (.extract rfl rfl) ?_
  refine O.op (.p rfl) (.extract rfl rfl) ?_
  refine O.opE (.p rfl) (.alloc (cs := [.int .i64 0, .int .i64 0, .slice none 0 0]) Go.Proofs.Tryz.zeroValue35 rfl) ?_
  rintro _ _ ⟨b5, rfl, rfl⟩
  refine O.opU rfl (.storeObj (by kernel_rfl) rfl rfl rfl rfl (by repeat (first | exact Sel.here | apply Sel.there)) (by first | (simp; done) | (simp [Value.cells]; done))) ?_
  refine O.op (.p rfl) (.as rfl) ?_
  refine O.nil ?_
  refine S.seq (S.region rfl ?_)
  refine O.op (.p rfl) (.mv rfl) ?_
  refine O.callS (.p rfl) rfl FactNet9.ok10 rfl rfl (by repeat (first | exact Sel.here | apply Sel.there)) (take_yes (ls := [((1, 2), [awX, awX])]) (f := 1) (t := 2) (i := 1) hat (by decide)) ?_
  rintro v29 _ ⟨a29, c29, rfl, _, _, rfl⟩
  try simp only [List.cons_append, List.nil_append, List.append_nil]
  rw [show takeL [((1, 2), [awX, awX])] (1, 2) 1 = [((1, 2), [awX])] from by rfl]
  refine O.frzA (by repeat (first | exact Sel.here | apply Sel.there)) fun g hs hm ha29 => ?_
  replace hg := Fr.sub_trans hg hs
  replace hR := melted hR hm
  try replace hat := hat.mono hs
  try replace ha14 := ha14.mono hs
  try replace ha15 := ha15.mono hs
  try replace ha16 := ha16.mono hs
  try replace ha24 := ha24.mono hs
  clear hs hm
  refine O.op (.p rfl) (.mv rfl) ?_
  refine O.op (.p rfl) (.extract rfl rfl) ?_
  refine O.op (.p rfl) (.extract rfl rfl) ?_
  refine O.opE (.p rfl) (.alloc (cs := [.int .i64 0, .int .i64 0, .slice none 0 0]) Go.Proofs.Tryz.zeroValue35 rfl) ?_
  rintro _ _ ⟨b7, rfl, rfl⟩
  refine O.opU rfl (.storeObj (by kernel_rfl) rfl rfl rfl rfl (by repeat (first | exact Sel.here | apply Sel.there)) (by first | (simp; done) | (simp [Value.cells]; done))) ?_
  refine O.op (.p rfl) (.as rfl) ?_
  refine O.nil ?_
  refine S.seq (S.region rfl ?_)
  refine O.op (.p rfl) (.mv rfl) ?_
  refine O.callS (.p rfl) rfl FactNet9.ok10 rfl rfl (by repeat (first | exact Sel.here | apply Sel.there)) (take_no (ls := [((1, 2), [awX])]) (f := 1) (t := 2) (z := 1) hat (by decide)) ?_
  rintro v34 _ ⟨rfl, rfl⟩
  try simp only [List.cons_append, List.nil_append, List.append_nil]
  refine O.op (.p rfl) (.mv rfl) ?_
  refine O.op (.p rfl) (.extract rfl rfl) ?_
  refine O.op (.p rfl) (.extract rfl rfl) ?_
  refine O.opE (.p rfl) (.alloc (cs := [.int .i64 0, .int .i64 0, .slice none 0 0]) Go.Proofs.Tryz.zeroValue35 rfl) ?_
  rintro _ _ ⟨b9, rfl, rfl⟩
  refine O.opU rfl (.storeObj (by kernel_rfl) rfl rfl rfl rfl (by repeat (first | exact Sel.here | apply Sel.there)) (by first | (simp; done) | (simp [Value.cells]; done))) ?_
  refine O.op (.p rfl) (.as rfl) ?_
  refine O.nil ?_
  refine S.seq (S.region rfl ?_)
  refine O.op (.p rfl) (.mv rfl) ?_
  refine O.callS (.p rfl) rfl FactNet9.ok21 rfl rfl (by repeat (first | exact Sel.here | apply Sel.there)) (links_g (ls := [((1, 2), [awX])]) hat (by decide)) ?_
  rintro v38 _ ⟨a38, c38, rfl, rfl⟩
  try simp only [List.cons_append, List.nil_append, List.append_nil]
  rw [show linksS [((1, 2), [awX])] = [(1, 2)] from by simp [linksS, sortF]]
  refine O.frzA (by repeat (first | exact Sel.here | apply Sel.there)) fun g hs hm ha38 => ?_
  replace hg := Fr.sub_trans hg hs
  replace hR := melted hR hm
  try replace hat := hat.mono hs
  try replace ha14 := ha14.mono hs
  try replace ha15 := ha15.mono hs
  try replace ha16 := ha16.mono hs
  try replace ha24 := ha24.mono hs
  try replace ha29 := ha29.mono hs
  clear hs hm
  refine O.op (.p rfl) (.as rfl) ?_
  refine O.nil ?_
  refine S.seq (S.region rfl ?_)
  refine O.op (.p rfl) (.mv rfl) ?_
  refine O.op (.p rfl) (.eql rfl rfl) ?_
  refine O.slot 40 (v' := .bool true) rfl (congrArg Value.bool (by rfl)) ?_
  refine O.op (.p rfl) (.mv rfl) ?_
  refine O.op (.g rfl rfl) (.mv rfl) ?_
  refine O.slot 42 (v' := .bool true) rfl (congrArg Value.bool (by rfl)) ?_
  refine O.op (.p rfl) (.pickT rfl rfl) ?_
  refine O.op (.p rfl) (.mv rfl) ?_
  refine O.op (.g rfl rfl) (.mv rfl) ?_
  refine O.op (.g rfl rfl) (.eql rfl rfl) ?_
  refine O.slot 46 (v' := .bool true) rfl (congrArg Value.bool (by rfl)) ?_
  refine O.op (.p rfl) (.pickT rfl rfl) ?_
  refine O.op (.p rfl) (.mv rfl) ?_
  refine O.op (.g rfl rfl) (.fieldObj FactNet9.fld35x2 rfl) ?_
  refine O.op (.g rfl rfl) (.loadObj FactNet9.flat33 rfl (by repeat (first | exact Sel.here | apply Sel.there)) rfl) ?_
  refine O.op (.g rfl rfl) (.toStr Go.Proofs.Tryz.underlying33 Go.Proofs.Tryz.underlying5 Go.Proofs.Tryz.underlying9 rfl (by first | assumption | exact Arr.mono hg (by assumption) | exact Arr.left (by assumption) | exact Arr.left (Arr.mono hg (by assumption)))) ?_
  refine O.op (.g rfl rfl) (.eqlS rfl rfl) ?_
  refine O.slot 52 (v' := .bool true) rfl (congrArg Value.bool (by rw [show ({ data := #[121] } : ByteArray) = str [121] from rfl, str_toList, str_toList]; rfl)) ?_
  refine O.op (.p rfl) (.pickT rfl rfl) ?_
  refine O.op (.p rfl) (.mv rfl) ?_
  refine O.op (.g rfl rfl) (.mv rfl) ?_
  refine O.op (.p rfl) (.pickT rfl rfl) ?_
  refine O.op (.p rfl) (.mv rfl) ?_
  refine O.op (.g rfl rfl) (.fieldObj FactNet9.fld35x2 rfl) ?_
  refine O.op (.g rfl rfl) (.loadObj FactNet9.flat33 rfl (by repeat (first | exact Sel.here | apply Sel.there)) rfl) ?_
  refine O.op (.g rfl rfl) (.toStr Go.Proofs.Tryz.underlying33 Go.Proofs.Tryz.underlying5 Go.Proofs.Tryz.underlying9 rfl (by first | assumption | exact Arr.mono hg (by assumption) | exact Arr.left (by assumption) | exact Arr.left (Arr.mono hg (by assumption)))) ?_
  refine O.op (.g rfl rfl) (.eqlS rfl rfl) ?_
  refine O.slot 61 (v' := .bool true) rfl (congrArg Value.bool (by rw [show ({ data := #[120] } : ByteArray) = str [120] from rfl, str_toList, str_toList]; rfl)) ?_
  refine O.op (.p rfl) (.pickT rfl rfl) ?_
  refine O.op (.p rfl) (.mv rfl) ?_
  refine O.op (.g rfl rfl) (.mv rfl) ?_
  refine O.op (.p rfl) (.pickT rfl rfl) ?_
  refine O.op (.p rfl) (.mv rfl) ?_
  refine O.op (.g rfl rfl) (.mv rfl) ?_
  refine O.op (.g rfl rfl) (.not rfl) ?_
  refine O.op (.p rfl) (.pickT rfl rfl) ?_
  refine O.op (.p rfl) (.mv rfl) ?_
  refine O.op (.g rfl rfl) (.mv rfl) ?_
  refine O.op (.g rfl rfl) (.len rfl Go.Proofs.Tryz.underlying47 rfl) ?_
  refine O.op (.g rfl rfl) (.eql rfl rfl) ?_
  refine O.slot 73 (v' := .bool true) rfl (congrArg Value.bool (by rfl)) ?_
  refine O.op (.p rfl) (.pickT rfl rfl) ?_
  refine O.op (.p rfl) (.mv rfl) ?_
  refine O.op (.g rfl rfl) (.mv rfl) ?_
  refine O.idx' (.g rfl rfl) Go.Proofs.Tryz.underlying47 FactNet9.size54 rfl rfl (show _ = (((0) : Nat) : Int) by omega) (ha38) (by decide) (by first | omega | (simp; done) | (simp; omega) | decide) (fun p77 cs77 hp77 hr77 => ?_)
  obtain ⟨rfl, _, _⟩ := hr77
  refine O.op (.g rfl rfl) (.loadAgg Go.Proofs.Tryz.isAgg54 (by kernel_rfl) rfl hp77) ?_
  refine O.op (.g rfl rfl) (.build2 Go.Proofs.Tryz.underlying54 FactNet9.size3 Go.Proofs.Tryz.zeroValue54 rfl rfl) ?_
  refine O.op (.g rfl rfl) (.eql2 Go.Proofs.Tryz.underlying54 Go.Proofs.Tryz.underlying3 FactNet9.size3 (by kernel_rfl) rfl rfl) ?_
  refine O.slot 80 (v' := .bool true) rfl (congrArg Value.bool (by rfl)) ?_
  refine O.op (.p rfl) (.pickT rfl rfl) ?_
  refine O.op (.p rfl) (.as rfl) ?_
  refine O.nil ?_
  refine S.ret Go.Proofs.Tryz.results6 rfl fun w hw => Holds.end_ hR hw ?_
  exact ⟨_, ⟨rfl, rfl⟩, by repeat (first | exact Picks.all | exact Picks.nil | (apply Picks.cons; focus (repeat (first | exact Sel.here | apply Sel.there))) | apply Picks.skip)⟩

end Go.Proofs.YthaebmfgelaleaaGreat
