import Derived.Test.YthaebmfgelaleaaGreatNet9
open Go Go.Sp
set_option maxRecDepth 100000
attribute [local irreducible] obj Own OwnP
namespace Go.Proofs.YthaebmfgelaleaaGreat
theorem FactNet10.elem25 : elemIs Go.Proofs.Tryz.prog 25 1 8 [.pointer none] := elemIs.mk (by kernel_rfl) rfl
theorem FactNet10.elem35 : elemIs Go.Proofs.Tryz.prog 35 3 40 [.int .i64 0, .int .i64 0, .slice none 0 0] := elemIs.mk (by kernel_rfl) rfl
theorem FactNet10.flat25 : Go.Sp.flat1 Go.Proofs.Tryz.prog 25 = true := by kernel_rfl
theorem FactNet10.mixed : Go.Proofs.Tryz.prog.follows .mixedOrders = true := by kernel_rfl
theorem FactNet10.ok10 : callable Go.Proofs.Tryz.prog 10 = true := by kernel_rfl
theorem FactNet10.ok12 : callable Go.Proofs.Tryz.prog 12 = true := by kernel_rfl
theorem FactNet10.ok13 : callable Go.Proofs.Tryz.prog 13 = true := by kernel_rfl
theorem FactNet10.ok16 : callable Go.Proofs.Tryz.prog 16 = true := by kernel_rfl
theorem FactNet10.ok21 : callable Go.Proofs.Tryz.prog 21 = true := by kernel_rfl
theorem FactNet10.ok23 : callable Go.Proofs.Tryz.prog 23 = true := by kernel_rfl
theorem FactNet10.ok6 : callable Go.Proofs.Tryz.prog 6 = true := by kernel_rfl
theorem FactNet10.size25 : (Go.Proofs.Tryz.prog.info? 25).map (·.size) = some 1 := by kernel_rfl

theorem netNil_c {r : Fr} {f t z a b : Int} {v : Value} {xs : List UInt8} (ha : Arr Rp.u8 r v xs) :
    Con Go.Proofs.Tryz.prog 27 #[.int .i64 f, .int .i64 t, .int .i64 z, .agg #[.int .i64 a, .int .i64 b, v]] r [] (Ret fun u η => u = .bool true ∧ η = []) := by
  refine Con.of (n := 86) [.int .i64 f, .int .i64 t, .int .i64 z, .agg #[.int .i64 a, .int .i64 b, v]] rfl Go.Proofs.Tryz.func27 rfl rfl rfl fun g hg R hR => ?_
  have ha := ha.mono hg
  obtain ⟨a1, c1, rfl⟩ := ha.shape
  refine S.seq (S.region rfl ?_)
  refine O.opE (.p rfl) (.box (cs := [_, _, _]) rfl rfl) ?_
  rintro _ _ ⟨b7, rfl, rfl⟩
  refine O.op (.p rfl) (.as rfl) ?_
  refine O.nil ?_
  refine S.seq (S.region rfl ?_)
  refine O.op (.p rfl) (.build (cs := [_]) Go.Proofs.Tryz.underlying59 rfl rfl rfl rfl rfl) ?_
  refine O.opE (.p rfl) (.box (cs := [_]) rfl rfl) ?_
  rintro _ _ ⟨b14, rfl, rfl⟩
  refine O.opE (.p rfl) (.litP (T := Rp.val) (ys := [_, _]) Go.Proofs.Tryz.underlying104 FactNet10.elem25 (by decide) rfl rfl ⟨⟨rfl, rfl⟩, ⟨rfl, rfl⟩, trivial⟩ (by decide)) ?_
  rintro _ _ ⟨a15, c15, rfl, rfl⟩
  refine O.op (.p rfl) (.as rfl) ?_
  refine O.nil ?_
  refine S.seq (S.seq ?_)
  refine S.frzA (by repeat (first | exact Sel.here | apply Sel.there)) fun g hs hm hl => ?_
  replace hg := Fr.sub_trans hg hs
  replace hR := melted hR hm
  clear hs hm
  refine S.frzO (by repeat (first | exact Sel.here | apply Sel.there)) fun g hs hm hz => ?_
  replace hg := Fr.sub_trans hg hs
  replace hR := melted hR hm
  try replace hl := hl.mono hs
  clear hs hm
  refine S.frzO (by repeat (first | exact Sel.here | apply Sel.there)) fun g hs hm h7 => ?_
  replace hg := Fr.sub_trans hg hs
  replace hR := melted hR hm
  try replace hl := hl.mono hs
  try replace hz := hz.mono hs
  clear hs hm
  refine S.region rfl ?_
  refine O.op (.p rfl) (.as rfl) ?_
  refine O.nil ?_
  refine S.block ?_
  refine S.unroll ?_
  refine S.seq (S.seq (S.region rfl ?_))
  refine O.op (.p rfl) (.mv rfl) ?_
  refine O.op (.p rfl) (.lss rfl rfl) ?_
  refine O.nil ?_
  refine S.condT rfl ?_
  refine S.skip (S.seq (S.block (S.seq (S.region rfl ?_))))
  refine O.op (.p rfl) (.mv rfl) ?_
  refine O.op (.p rfl) (.mv rfl) ?_
  refine O.idx' (.p rfl) Go.Proofs.Tryz.underlying104 FactNet10.size25 rfl rfl (show _ = (((0) : Nat) : Int) by omega) (by first | assumption | exact Arr.mono hg (by assumption) | exact Arr.left (by assumption) | exact Arr.left (Arr.mono hg (by assumption))) (by decide) (by first | omega | (simp; done) | (simp; omega) | decide) (fun p23 cs23 hp23 hr23 => ?_)
  obtain ⟨rfl, hz23⟩ := hr23
  refine O.op (.p rfl) (.loadAt FactNet10.flat25 rfl hp23 rfl) ?_
  refine O.op (.p rfl) (.mv rfl) ?_
  refine O.op (.p rfl) (.mv rfl) ?_
  refine O.op (.p rfl) (.mv rfl) ?_
  refine O.call0 (.p rfl) rfl FactNet10.ok10 rfl rfl ((take_0)) ?_
  rintro v28 _ ⟨rfl, rfl⟩
  try simp only [List.cons_append, List.nil_append, List.append_nil]
  refine O.op (.p rfl) (.mv rfl) ?_
  refine O.op (.p rfl) (.extract rfl rfl) ?_
  refine O.op (.p rfl) (.extract rfl rfl) ?_
  refine O.opE (.p rfl) (.alloc (cs := [.int .i64 0, .int .i64 0, .slice none 0 0]) Go.Proofs.Tryz.zeroValue35 rfl) ?_
  rintro _ _ ⟨b11, rfl, rfl⟩
  refine O.opU rfl (.storeObj (by kernel_rfl) rfl rfl rfl rfl (by repeat (first | exact Sel.here | apply Sel.there)) (by first | (simp; done) | (simp [Value.cells]; done))) ?_
  refine O.op (.p rfl) (.as rfl) ?_
  refine O.nil ?_
  refine S.seq ?_
  refine S.frzO (by repeat (first | exact Sel.here | apply Sel.there)) fun g hs hm h11 => ?_
  replace hg := Fr.sub_trans hg hs
  replace hR := melted hR hm
  try replace hl := hl.mono hs
  try replace hz := hz.mono hs
  try replace h7 := h7.mono hs
  try replace hp23 := hp23.mono hs
  clear hs hm
  refine S.regionD (L := [0, 1, 2, 3, 4, 5, 6, 7, 8, 9, 10, 11, 12, 13, 14, 15, 16, 17, 18, 19, 20, 21, 22, 23, 24, 25, 26, 27, 28, 29, 30, 31, 32, 33, 34, 35, 36, 37, 38, 39, 40, 41, 42, 43, 44, 45, 46, 47, 48, 49, 50, 51, 52, 53]) FactNet10.mixed (by kernel_rfl) ?_
  refine .quiet (.p rfl) rfl (fun _ => .mv rfl) ?_
  refine .quiet (.p rfl) rfl (fun _ => .mv rfl) ?_
  refine .quiet (.g rfl rfl) rfl (fun _ => .loadAgg Go.Proofs.Tryz.isAgg35 (by kernel_rfl) rfl h11) ?_
  refine .quiet (.g rfl rfl) rfl (fun _ => .build (cs := [_, _, _]) Go.Proofs.Tryz.underlying35 rfl rfl rfl rfl rfl) ?_
  refine OD.call0 (.g rfl rfl) (by kernel_rfl) rfl FactNet10.ok12 rfl rfl ((samePacket_c Arr.nil Arr.nil)) ?_
  rintro v35 _ ⟨rfl, rfl⟩
  try simp only [List.cons_append, List.nil_append, List.append_nil]
  refine .quiet (.g rfl rfl) rfl (fun _ => (by first | exact .notD rfl | exact .not rfl)) ?_
  refine OD.slot 36 (v' := .bool false) rfl (congrArg Value.bool (by rfl)) ?_
  refine .quiet (.p rfl) rfl (fun _ => .pickF rfl rfl) ?_
  refine .quiet (.p rfl) rfl (fun _ => .mv rfl) ?_
  refine .quiet (.g rfl rfl) rfl (fun _ => .mv rfl) ?_
  refine .quiet (.g rfl rfl) rfl (fun _ => .mv rfl) ?_
  refine OD.idx' (.g rfl rfl) Go.Proofs.Tryz.underlying104 FactNet10.size25 rfl rfl (show _ = (((0) : Nat) : Int) by omega) (by first | assumption | exact Arr.mono hg (by assumption) | exact Arr.left (by assumption) | exact Arr.left (Arr.mono hg (by assumption))) (by decide) (by first | omega | (simp; done) | (simp; omega) | decide) (fun p41 cs41 hp41 hr41 => ?_)
  obtain ⟨rfl, hz41⟩ := hr41
  refine .quiet (.g rfl rfl) rfl (fun _ => .loadAt FactNet10.flat25 rfl hp41 rfl) ?_
  refine .quiet (.g rfl rfl) rfl (fun _ => .loadAgg Go.Proofs.Tryz.isAgg35 (by kernel_rfl) rfl h7) ?_
  refine OD.litP (T := (Rp.cells 3)) (ys := [_]) (.g rfl rfl) (by kernel_rfl) Go.Proofs.Tryz.underlying29 FactNet10.elem35 (by decide) rfl rfl ⟨⟨rfl, rfl, by first | (simp; done) | (intro v hv; simp [Value.cells] at hv; rcases hv with rfl | rfl <;> rfl) | (refine List.forall_mem_cons.2 ⟨rfl, ?_⟩; repeat (first | exact (fun _ h => absurd h List.not_mem_nil) | refine List.forall_mem_cons.2 ⟨rfl, ?_⟩))⟩, trivial⟩ (by decide) (fun a44 c44 => ?_)
  refine OD.call0 (.g rfl rfl) (by kernel_rfl) rfl FactNet10.ok16 rfl rfl ((send_0)) ?_
  rintro v45 _ ⟨rfl, rfl⟩
  try simp only [List.cons_append, List.nil_append, List.append_nil]
  refine .quiet (.g rfl rfl) rfl (fun _ => .neq rfl rfl) ?_
  refine OD.slot 46 (v' := .bool false) rfl (congrArg Value.bool (by rfl)) ?_
  refine .quiet (.p rfl) rfl (fun _ => .pickF rfl rfl) ?_
  refine .quiet (.p rfl) rfl (fun _ => .mv rfl) ?_
  refine .quiet (.g rfl rfl) rfl (fun _ => .mv rfl) ?_
  refine .quiet (.g rfl rfl) rfl (fun _ => .mv rfl) ?_
  refine OD.idx' (.g rfl rfl) Go.Proofs.Tryz.underlying104 FactNet10.size25 rfl rfl (show _ = (((0) : Nat) : Int) by omega) (by first | assumption | exact Arr.mono hg (by assumption) | exact Arr.left (by assumption) | exact Arr.left (Arr.mono hg (by assumption))) (by decide) (by first | omega | (simp; done) | (simp; omega) | decide) (fun p51 cs51 hp51 hr51 => ?_)
  obtain ⟨rfl, hz51⟩ := hr51
  refine .quiet (.g rfl rfl) rfl (fun _ => .loadAt FactNet10.flat25 rfl hp51 rfl) ?_
  refine OD.call0 (.g rfl rfl) (by kernel_rfl) rfl FactNet10.ok16 rfl rfl ((send_0)) ?_
  rintro v53 _ ⟨rfl, rfl⟩
  try simp only [List.cons_append, List.nil_append, List.append_nil]
  refine .quiet (.g rfl rfl) rfl (fun _ => .neq rfl rfl) ?_
  refine OD.slot 54 (v' := .bool false) rfl (congrArg Value.bool (by rfl)) ?_
  refine .quiet (.p rfl) rfl (fun _ => .pickF rfl rfl) ?_
  refine .quiet (.p rfl) rfl (fun _ => .mv rfl) ?_
  refine .quiet (.g rfl rfl) rfl (fun _ => .mv rfl) ?_
  refine .quiet (.g rfl rfl) rfl (fun _ => .mv rfl) ?_
  refine OD.idx' (.g rfl rfl) Go.Proofs.Tryz.underlying104 FactNet10.size25 rfl rfl (show _ = (((0) : Nat) : Int) by omega) (by first | assumption | exact Arr.mono hg (by assumption) | exact Arr.left (by assumption) | exact Arr.left (Arr.mono hg (by assumption))) (by decide) (by first | omega | (simp; done) | (simp; omega) | decide) (fun p59 cs59 hp59 hr59 => ?_)
  obtain ⟨rfl, hz59⟩ := hr59
  refine .quiet (.g rfl rfl) rfl (fun _ => .loadAt FactNet10.flat25 rfl hp59 rfl) ?_
  refine .quiet (.g rfl rfl) rfl (fun _ => .mv rfl) ?_
  refine .quiet (.g rfl rfl) rfl (fun _ => .mv rfl) ?_
  refine .quiet (.g rfl rfl) rfl (fun _ => .mv rfl) ?_
  refine OD.call0 (.g rfl rfl) (by kernel_rfl) rfl FactNet10.ok13 rfl rfl ((twice_0)) ?_
  rintro v64 _ ⟨rfl, rfl⟩
  try simp only [List.cons_append, List.nil_append, List.append_nil]
  refine .quiet (.p rfl) rfl (fun _ => .pickF rfl rfl) ?_
  refine .quiet (.p rfl) rfl (fun _ => .mv rfl) ?_
  refine .quiet (.g rfl rfl) rfl (fun _ => .mv rfl) ?_
  refine .quiet (.g rfl rfl) rfl (fun _ => .mv rfl) ?_
  refine OD.idx' (.g rfl rfl) Go.Proofs.Tryz.underlying104 FactNet10.size25 rfl rfl (show _ = (((0) : Nat) : Int) by omega) (by first | assumption | exact Arr.mono hg (by assumption) | exact Arr.left (by assumption) | exact Arr.left (Arr.mono hg (by assumption))) (by decide) (by first | omega | (simp; done) | (simp; omega) | decide) (fun p69 cs69 hp69 hr69 => ?_)
  obtain ⟨rfl, hz69⟩ := hr69
  refine .quiet (.g rfl rfl) rfl (fun _ => .loadAt FactNet10.flat25 rfl hp69 rfl) ?_
  refine OD.call0 (.g rfl rfl) (by kernel_rfl) rfl FactNet10.ok21 rfl rfl ((links_0)) ?_
  rintro v71 _ ⟨rfl, rfl⟩
  try simp only [List.cons_append, List.nil_append, List.append_nil]
  refine .quiet (.g rfl rfl) rfl (fun _ => .len rfl Go.Proofs.Tryz.underlying47 rfl) ?_
  refine .quiet (.g rfl rfl) rfl (fun _ => .neq rfl rfl) ?_
  refine OD.slot 73 (v' := .bool false) rfl (congrArg Value.bool (by rfl)) ?_
  refine .quiet (.p rfl) rfl (fun _ => .pickF rfl rfl) ?_
  refine .quiet (.p rfl) rfl (fun _ => .mv rfl) ?_
  refine .quiet (.g rfl rfl) rfl (fun _ => .mv rfl) ?_
  refine .quiet (.g rfl rfl) rfl (fun _ => .mv rfl) ?_
  refine OD.idx' (.g rfl rfl) Go.Proofs.Tryz.underlying104 FactNet10.size25 rfl rfl (show _ = (((0) : Nat) : Int) by omega) (by first | assumption | exact Arr.mono hg (by assumption) | exact Arr.left (by assumption) | exact Arr.left (Arr.mono hg (by assumption))) (by decide) (by first | omega | (simp; done) | (simp; omega) | decide) (fun p78 cs78 hp78 hr78 => ?_)
  obtain ⟨rfl, hz78⟩ := hr78
  refine .quiet (.g rfl rfl) rfl (fun _ => .loadAt FactNet10.flat25 rfl hp78 rfl) ?_
  refine .quiet (.g rfl rfl) rfl (fun _ => .mv rfl) ?_
  refine .quiet (.g rfl rfl) rfl (fun _ => .mv rfl) ?_
  refine OD.call0 (.g rfl rfl) (by kernel_rfl) rfl FactNet10.ok23 rfl rfl ((many_0)) ?_
  rintro v82 _ ⟨rfl, rfl⟩
  try simp only [List.cons_append, List.nil_append, List.append_nil]
  refine .quiet (.g rfl rfl) rfl (fun _ => .neq rfl rfl) ?_
  refine OD.slot 83 (v' := .bool false) rfl (congrArg Value.bool (by rfl)) ?_
  refine .quiet (.p rfl) rfl (fun _ => .pickF rfl rfl) ?_
  refine .nil ?_
  refine S.condF rfl ?_
  refine S.skip (S.inBlock (S.region rfl ?_))
  refine O.op (.p rfl) (.mv rfl) ?_
  refine O.op (.p rfl) (.add rfl rfl (IntWalk.i64_in _ (by omega))) ?_
  refine O.op (.p rfl) (.as rfl) ?_
  refine O.nil ?_
  refine S.reloop ?_
  refine S.seq (S.seq (S.region rfl ?_))
  refine O.op (.p rfl) (.mv rfl) ?_
  refine O.op (.p rfl) (.lss rfl rfl) ?_
  refine O.nil ?_
  refine S.condT rfl ?_
  refine S.skip (S.seq (S.block (S.seq (S.region rfl ?_))))
  refine O.op (.p rfl) (.mv rfl) ?_
  refine O.op (.p rfl) (.mv rfl) ?_
  refine O.idx' (.p rfl) Go.Proofs.Tryz.underlying104 FactNet10.size25 rfl rfl (show _ = (((1) : Nat) : Int) by omega) (by first | assumption | exact Arr.mono hg (by assumption) | exact Arr.left (by assumption) | exact Arr.left (Arr.mono hg (by assumption))) (by decide) (by first | omega | (simp; done) | (simp; omega) | decide) (fun p23 cs23 hp23 hr23 => ?_)
  obtain ⟨rfl, hz23⟩ := hr23
  refine O.op (.p rfl) (.loadAt FactNet10.flat25 rfl hp23 rfl) ?_
  refine O.op (.p rfl) (.mv rfl) ?_
  refine O.op (.p rfl) (.mv rfl) ?_
  refine O.op (.p rfl) (.mv rfl) ?_
  refine O.call0 (.p rfl) rfl FactNet10.ok10 rfl rfl ((take_n hz)) ?_
  rintro v28 _ ⟨rfl, rfl⟩
  try simp only [List.cons_append, List.nil_append, List.append_nil]
  refine O.op (.p rfl) (.mv rfl) ?_
  refine O.op (.p rfl) (.extract rfl rfl) ?_
  refine O.op (.p rfl) (.extract rfl rfl) ?_
  refine O.opE (.p rfl) (.alloc (cs := [.int .i64 0, .int .i64 0, .slice none 0 0]) Go.Proofs.Tryz.zeroValue35 rfl) ?_
  rintro _ _ ⟨b11, rfl, rfl⟩
  refine O.opU rfl (.storeObj (by kernel_rfl) rfl rfl rfl rfl (by repeat (first | exact Sel.here | apply Sel.there)) (by first | (simp; done) | (simp [Value.cells]; done))) ?_
  refine O.op (.p rfl) (.as rfl) ?_
  refine O.nil ?_
  refine S.seq ?_
  refine S.frzO (by repeat (first | exact Sel.here | apply Sel.there)) fun g hs hm h11 => ?_
  replace hg := Fr.sub_trans hg hs
  replace hR := melted hR hm
  try replace hl := hl.mono hs
  try replace hz := hz.mono hs
  try replace h7 := h7.mono hs
  try replace hp23 := hp23.mono hs
  try replace h11 := h11.mono hs
  try replace hp41 := hp41.mono hs
  try replace hp51 := hp51.mono hs
  try replace hp59 := hp59.mono hs
  try replace hp69 := hp69.mono hs
  try replace hp78 := hp78.mono hs
  try replace hp23 := hp23.mono hs
  clear hs hm
  refine S.regionD (L := [0, 1, 2, 3, 4, 5, 6, 7, 8, 9, 10, 11, 12, 13, 14, 15, 16, 17, 18, 19, 20, 21, 22, 23, 24, 25, 26, 27, 28, 29, 30, 31, 32, 33, 34, 35, 36, 37, 38, 39, 40, 41, 42, 43, 44, 45, 46, 47, 48, 49, 50, 51, 52, 53]) FactNet10.mixed (by kernel_rfl) ?_
  refine .quiet (.p rfl) rfl (fun _ => .mv rfl) ?_
  refine .quiet (.p rfl) rfl (fun _ => .mv rfl) ?_
  refine .quiet (.g rfl rfl) rfl (fun _ => .loadAgg Go.Proofs.Tryz.isAgg35 (by kernel_rfl) rfl h11) ?_
  refine .quiet (.g rfl rfl) rfl (fun _ => .build (cs := [_, _, _]) Go.Proofs.Tryz.underlying35 rfl rfl rfl rfl rfl) ?_
  refine OD.call0 (.g rfl rfl) (by kernel_rfl) rfl FactNet10.ok12 rfl rfl ((samePacket_c Arr.nil Arr.nil)) ?_
  rintro v35 _ ⟨rfl, rfl⟩
  try simp only [List.cons_append, List.nil_append, List.append_nil]
  refine .quiet (.g rfl rfl) rfl (fun _ => (by first | exact .notD rfl | exact .not rfl)) ?_
  refine OD.slot 36 (v' := .bool false) rfl (congrArg Value.bool (by rfl)) ?_
  refine .quiet (.p rfl) rfl (fun _ => .pickF rfl rfl) ?_
  refine .quiet (.p rfl) rfl (fun _ => .mv rfl) ?_
  refine .quiet (.g rfl rfl) rfl (fun _ => .mv rfl) ?_
  refine .quiet (.g rfl rfl) rfl (fun _ => .mv rfl) ?_
  refine OD.idx' (.g rfl rfl) Go.Proofs.Tryz.underlying104 FactNet10.size25 rfl rfl (show _ = (((1) : Nat) : Int) by omega) (by first | assumption | exact Arr.mono hg (by assumption) | exact Arr.left (by assumption) | exact Arr.left (Arr.mono hg (by assumption))) (by decide) (by first | omega | (simp; done) | (simp; omega) | decide) (fun p41 cs41 hp41 hr41 => ?_)
  obtain ⟨rfl, hz41⟩ := hr41
  refine .quiet (.g rfl rfl) rfl (fun _ => .loadAt FactNet10.flat25 rfl hp41 rfl) ?_
  refine .quiet (.g rfl rfl) rfl (fun _ => .loadAgg Go.Proofs.Tryz.isAgg35 (by kernel_rfl) rfl h7) ?_
  refine OD.litP (T := (Rp.cells 3)) (ys := [_]) (.g rfl rfl) (by kernel_rfl) Go.Proofs.Tryz.underlying29 FactNet10.elem35 (by decide) rfl rfl ⟨⟨rfl, rfl, by first | (simp; done) | (intro v hv; simp [Value.cells] at hv; rcases hv with rfl | rfl <;> rfl) | (refine List.forall_mem_cons.2 ⟨rfl, ?_⟩; repeat (first | exact (fun _ h => absurd h List.not_mem_nil) | refine List.forall_mem_cons.2 ⟨rfl, ?_⟩))⟩, trivial⟩ (by decide) (fun a44 c44 => ?_)
  refine OD.call0 (.g rfl rfl) (by kernel_rfl) rfl FactNet10.ok16 rfl rfl ((send_n hz)) ?_
  rintro v45 _ ⟨rfl, rfl⟩
  try simp only [List.cons_append, List.nil_append, List.append_nil]
  refine .quiet (.g rfl rfl) rfl (fun _ => .neq rfl rfl) ?_
  refine OD.slot 46 (v' := .bool false) rfl (congrArg Value.bool (by rfl)) ?_
  refine .quiet (.p rfl) rfl (fun _ => .pickF rfl rfl) ?_
  refine .quiet (.p rfl) rfl (fun _ => .mv rfl) ?_
  refine .quiet (.g rfl rfl) rfl (fun _ => .mv rfl) ?_
  refine .quiet (.g rfl rfl) rfl (fun _ => .mv rfl) ?_
  refine OD.idx' (.g rfl rfl) Go.Proofs.Tryz.underlying104 FactNet10.size25 rfl rfl (show _ = (((1) : Nat) : Int) by omega) (by first | assumption | exact Arr.mono hg (by assumption) | exact Arr.left (by assumption) | exact Arr.left (Arr.mono hg (by assumption))) (by decide) (by first | omega | (simp; done) | (simp; omega) | decide) (fun p51 cs51 hp51 hr51 => ?_)
  obtain ⟨rfl, hz51⟩ := hr51
  refine .quiet (.g rfl rfl) rfl (fun _ => .loadAt FactNet10.flat25 rfl hp51 rfl) ?_
  refine OD.call0 (.g rfl rfl) (by kernel_rfl) rfl FactNet10.ok16 rfl rfl ((send_n hz)) ?_
  rintro v53 _ ⟨rfl, rfl⟩
  try simp only [List.cons_append, List.nil_append, List.append_nil]
  refine .quiet (.g rfl rfl) rfl (fun _ => .neq rfl rfl) ?_
  refine OD.slot 54 (v' := .bool false) rfl (congrArg Value.bool (by rfl)) ?_
  refine .quiet (.p rfl) rfl (fun _ => .pickF rfl rfl) ?_
  refine .quiet (.p rfl) rfl (fun _ => .mv rfl) ?_
  refine .quiet (.g rfl rfl) rfl (fun _ => .mv rfl) ?_
  refine .quiet (.g rfl rfl) rfl (fun _ => .mv rfl) ?_
  refine OD.idx' (.g rfl rfl) Go.Proofs.Tryz.underlying104 FactNet10.size25 rfl rfl (show _ = (((1) : Nat) : Int) by omega) (by first | assumption | exact Arr.mono hg (by assumption) | exact Arr.left (by assumption) | exact Arr.left (Arr.mono hg (by assumption))) (by decide) (by first | omega | (simp; done) | (simp; omega) | decide) (fun p59 cs59 hp59 hr59 => ?_)
  obtain ⟨rfl, hz59⟩ := hr59
  refine .quiet (.g rfl rfl) rfl (fun _ => .loadAt FactNet10.flat25 rfl hp59 rfl) ?_
  refine .quiet (.g rfl rfl) rfl (fun _ => .mv rfl) ?_
  refine .quiet (.g rfl rfl) rfl (fun _ => .mv rfl) ?_
  refine .quiet (.g rfl rfl) rfl (fun _ => .mv rfl) ?_
  refine OD.call0 (.g rfl rfl) (by kernel_rfl) rfl FactNet10.ok13 rfl rfl ((twice_n hz)) ?_
  rintro v64 _ ⟨rfl, rfl⟩
  try simp only [List.cons_append, List.nil_append, List.append_nil]
  refine .quiet (.p rfl) rfl (fun _ => .pickF rfl rfl) ?_
  refine .quiet (.p rfl) rfl (fun _ => .mv rfl) ?_
  refine .quiet (.g rfl rfl) rfl (fun _ => .mv rfl) ?_
  refine .quiet (.g rfl rfl) rfl (fun _ => .mv rfl) ?_
  refine OD.idx' (.g rfl rfl) Go.Proofs.Tryz.underlying104 FactNet10.size25 rfl rfl (show _ = (((1) : Nat) : Int) by omega) (by first | assumption | exact Arr.mono hg (by assumption) | exact Arr.left (by assumption) | exact Arr.left (Arr.mono hg (by assumption))) (by decide) (by first | omega | (simp; done) | (simp; omega) | decide) (fun p69 cs69 hp69 hr69 => ?_)
  obtain ⟨rfl, hz69⟩ := hr69
  refine .quiet (.g rfl rfl) rfl (fun _ => .loadAt FactNet10.flat25 rfl hp69 rfl) ?_
  refine OD.call0 (.g rfl rfl) (by kernel_rfl) rfl FactNet10.ok21 rfl rfl ((links_n hz)) ?_
  rintro v71 _ ⟨rfl, rfl⟩
  try simp only [List.cons_append, List.nil_append, List.append_nil]
  refine .quiet (.g rfl rfl) rfl (fun _ => .len rfl Go.Proofs.Tryz.underlying47 rfl) ?_
  refine .quiet (.g rfl rfl) rfl (fun _ => .neq rfl rfl) ?_
  refine OD.slot 73 (v' := .bool false) rfl (congrArg Value.bool (by rfl)) ?_
  refine .quiet (.p rfl) rfl (fun _ => .pickF rfl rfl) ?_
  refine .quiet (.p rfl) rfl (fun _ => .mv rfl) ?_
  refine .quiet (.g rfl rfl) rfl (fun _ => .mv rfl) ?_
  refine .quiet (.g rfl rfl) rfl (fun _ => .mv rfl) ?_
  refine OD.idx' (.g rfl rfl) Go.Proofs.Tryz.underlying104 FactNet10.size25 rfl rfl (show _ = (((1) : Nat) : Int) by omega) (by first | assumption | exact Arr.mono hg (by assumption) | exact Arr.left (by assumption) | exact Arr.left (Arr.mono hg (by assumption))) (by decide) (by first | omega | (simp; done) | (simp; omega) | decide) (fun p78 cs78 hp78 hr78 => ?_)
  obtain ⟨rfl, hz78⟩ := hr78
  refine .quiet (.g rfl rfl) rfl (fun _ => .loadAt FactNet10.flat25 rfl hp78 rfl) ?_
  refine .quiet (.g rfl rfl) rfl (fun _ => .mv rfl) ?_
  refine .quiet (.g rfl rfl) rfl (fun _ => .mv rfl) ?_
  refine OD.call0 (.g rfl rfl) (by kernel_rfl) rfl FactNet10.ok23 rfl rfl ((many_n hz)) ?_
  rintro v82 _ ⟨rfl, rfl⟩
  try simp only [List.cons_append, List.nil_append, List.append_nil]
  refine .quiet (.g rfl rfl) rfl (fun _ => .neq rfl rfl) ?_
  refine OD.slot 83 (v' := .bool false) rfl (congrArg Value.bool (by rfl)) ?_
  refine .quiet (.p rfl) rfl (fun _ => .pickF rfl rfl) ?_
  refine .nil ?_
  refine S.condF rfl ?_
  refine S.skip (S.inBlock (S.region rfl ?_))
  refine O.op (.p rfl) (.mv rfl) ?_
  refine O.op (.p rfl) (.add rfl rfl (IntWalk.i64_in _ (by omega))) ?_
  refine O.op (.p rfl) (.as rfl) ?_
  refine O.nil ?_
  refine S.reloop ?_
  refine S.seq (S.seq (S.region rfl ?_))
  refine O.op (.p rfl) (.mv rfl) ?_
  refine O.op (.p rfl) (.lss rfl rfl) ?_
  refine O.nil ?_
  refine S.condF rfl ?_
  refine S.exit rfl ?_
  refine S.seq (S.region rfl ?_)
  refine O.call0 (.p rfl) rfl FactNet10.ok6 rfl rfl (awake_c) ?_
  rintro v85 _ ⟨rfl, rfl⟩
  try simp only [List.cons_append, List.nil_append, List.append_nil]
  refine O.op (.p rfl) (.as rfl) ?_
  refine O.nil ?_
  refine S.ret Go.Proofs.Tryz.results27 rfl fun w hw => Holds.end_ hR hw ?_
  exact ⟨_, ⟨rfl, rfl⟩, by repeat (first | exact Picks.all | exact Picks.nil | (apply Picks.cons; focus (repeat (first | exact Sel.here | apply Sel.there))) | apply Picks.skip)⟩
theorem arr_of_list {cs : Array Value} {l : List Value} (h : cs.toList = l) : cs = l.toArray := by subst h; simp
theorem netNil_e {r : Fr} {f t z : Int} {cs : Array Value} {x : Pkt} (h : PktRp.rel r cs.toList x) :
    Con Go.Proofs.Tryz.prog 27 #[.int .i64 f, .int .i64 t, .int .i64 z, .agg cs] r [] (Ret fun u η => u = .bool true ∧ η = []) := by
  obtain ⟨v, e, _, _, ha⟩ := PktRp.open h
  obtain rfl := arr_of_list e
  exact netNil_c ha

end Go.Proofs.YthaebmfgelaleaaGreat
