import Derived.Test.YthaebmfgelaleaaGreatRnet6
open Go Go.Sp
set_option maxRecDepth 100000
attribute [local irreducible] obj Own OwnP
namespace Go.Proofs.YthaebmfgelaleaaGreat
theorem FactRnet7.elem3 : elemIs Go.Proofs.Tryz.prog 3 1 8 [.int .i64 0] := elemIs.mk (by kernel_rfl) rfl
theorem FactRnet7.elem31 : elemIs Go.Proofs.Tryz.prog 31 5 56 [.int .i64 0, .int .i64 0, .int .i64 0, .int .i64 0, .slice none 0 0] := elemIs.mk (by kernel_rfl) rfl
theorem FactRnet7.elem35 : elemIs Go.Proofs.Tryz.prog 35 3 40 [.int .i64 0, .int .i64 0, .slice none 0 0] := elemIs.mk (by kernel_rfl) rfl
theorem FactRnet7.elem5 : elemIs Go.Proofs.Tryz.prog 5 1 1 [.int .u8 0] := elemIs.mk (by kernel_rfl) rfl
theorem FactRnet7.flat3 : Go.Sp.flat1 Go.Proofs.Tryz.prog 3 = true := by kernel_rfl
theorem FactRnet7.mixed : Go.Proofs.Tryz.prog.follows .mixedOrders = true := by kernel_rfl
theorem FactRnet7.ok13 : callable Go.Proofs.Tryz.prog 13 = true := by kernel_rfl
theorem FactRnet7.ok16 : callable Go.Proofs.Tryz.prog 16 = true := by kernel_rfl
theorem FactRnet7.ok23 : callable Go.Proofs.Tryz.prog 23 = true := by kernel_rfl
theorem FactRnet7.ok26 : callable Go.Proofs.Tryz.prog 26 = true := by kernel_rfl
theorem FactRnet7.ok27 : callable Go.Proofs.Tryz.prog 27 = true := by kernel_rfl
theorem FactRnet7.ok3 : callable Go.Proofs.Tryz.prog 3 = true := by kernel_rfl
theorem FactRnet7.ok6 : callable Go.Proofs.Tryz.prog 6 = true := by kernel_rfl
theorem FactRnet7.ok7 : callable Go.Proofs.Tryz.prog 7 = true := by kernel_rfl
theorem FactRnet7.size3 : (Go.Proofs.Tryz.prog.info? 3).map (·.size) = some 1 := by kernel_rfl
theorem FactRnet7.size5 : (Go.Proofs.Tryz.prog.info? 5).map (·.size) = some 1 := by kernel_rfl

abbrev nA : Pkt := (5, 6, [97], ())
abbrev nB : Pkt := (5, 6, [98], ())
abbrev nC : Pkt := (6, 5, [99], ())
abbrev nX : Pkt := (1, 1, [120], ())
def lsN : Nat → NetM
  | 0 => []
  | i + 1 => [((5, 6), List.replicate (i + 1) nA)]
theorem atL_lsN (i : Nat) : atL (lsN i) (5, 6) = List.replicate i nA := by
  cases i with
  | zero => rfl
  | succ i => show atL [((5, 6), List.replicate (i + 1) nA)] (5, 6) = _; rw [atL_cons, if_pos rfl]
theorem full_lsN (i : Nat) (p : Pkt) (hp : keyP p = (5, 6)) : fullL (lsN i) p = decide (64 ≤ i) := by
  rw [fullL, hp, atL_lsN, List.length_replicate]
theorem send_lsN {i : Nat} (h : i < 64) : sendL (lsN i) nA = lsN (i + 1) := by
  have e : sendL (lsN i) nA = putA (lsN i) (5, 6) (atL (lsN i) (5, 6) ++ [nA]) := by
    rw [sendL, full_lsN i nA rfl, decide_eq_false (by omega)]; rfl
  rw [e, atL_lsN, ← List.replicate_succ']
  cases i with
  | zero => rfl
  | succ i => show putA [((5, 6), List.replicate (i + 1) nA)] (5, 6) _ = _; rw [putA_cons, if_pos rfl]; rfl
theorem longP_no {p : Pkt} (h : p.2.2.1.length ≤ 262144) : longP p = false := by unfold longP; simp; omega
theorem sendE1 {ls : NetM} {p : Pkt} (h : p.2.2.1.length ≤ 262144) : sendE ls [p] = if fullL ls p then 8 else 0 := by
  simp [sendE, longP_no h, anyFull]
theorem sendM1 {ls : NetM} {p : Pkt} (h : p.2.2.1.length ≤ 262144) : sendM ls [p] = sendL ls p := by
  simp [sendM, longP_no h, sendsL]
/-- behind the full link *-/
def ls65 : NetM := [((5, 6), List.replicate 64 nA), ((6, 5), [nC])]
theorem at65 : atL ls65 (5, 6) = List.replicate 64 nA ∧ atL ls65 (6, 5) = [nC] ∧ atL ls65 (1, 1) = [] := ⟨rfl, rfl, rfl⟩
theorem full65 (p : Pkt) (hp : keyP p = (5, 6)) : fullL ls65 p = true := by rw [fullL, hp, at65.1, List.length_replicate]; rfl
theorem same65 (p : Pkt) (hp : keyP p = (5, 6)) : sendL ls65 p = ls65 := by rw [sendL, full65 p hp]; rfl
theorem send65 : sendE (lsN 64) [nB, nC] = 8 ∧ sendM (lsN 64) [nB, nC] = ls65 := by
  have h1 : fullL (lsN 64) nB = true := by rw [full_lsN 64 nB rfl]; rfl
  have h2 : sendL (lsN 64) nB = lsN 64 := by rw [sendL, h1]; rfl
  have h3 : sendL (lsN 64) nC = ls65 := rfl
  have h4 : [nB, nC].any longP = false := rfl
  constructor
  · rw [sendE, h4, anyFull, h1]; rfl
  · rw [sendM, h4]
    show sendL (sendL (lsN 64) nB) nC = ls65
    rw [h2, h3]
theorem send66 {xs : List UInt8} (h : xs.length = 262144) : sendE ls65 [(1, 1, xs, ())] = 0 ∧ atL (sendM ls65 [(1, 1, xs, ())]) (1, 1) = [(1, 1, xs, ())] := by
  have hl : ((1, 1, xs, ()) : Pkt).2.2.1.length ≤ 262144 := by show xs.length ≤ 262144; omega
  have hf : fullL ls65 (1, 1, xs, ()) = false := rfl
  rw [sendE1 hl, sendM1 hl, hf]
  refine ⟨rfl, ?_⟩
  rw [sendL, hf]
  show atL (putA ls65 (1, 1) (atL ls65 (1, 1) ++ [(1, 1, xs, ())])) (1, 1) = _
  rw [atL_put, if_pos rfl, at65.2.2]; rfl
theorem send67 (ls : NetM) {ys : List UInt8} (h : ys.length = 262145) : sendE ls [nX, (1, 2, ys, ())] = 3 ∧ sendM ls [nX, (1, 2, ys, ())] = ls := by
  have h1 : longP (1, 2, ys, ()) = true := by unfold longP; show decide (262144 < ys.length) = true; rw [h]; rfl
  have h2 : [nX, (1, 2, ys, ())].any longP = true := by simp [h1]
  exact ⟨by rw [sendE, h2]; rfl, by rw [sendM, h2]; rfl⟩
abbrev nums6 : List Int := [-9223372036854775808, -1, 0, 1, 2, 9223372036854775807]
theorem nums_in : ∀ x ∈ nums6, InI64 x := by
  intro x hx
  simp only [nums6, List.mem_cons, List.not_mem_nil, or_false] at hx
  rcases hx with rfl | rfl | rfl | rfl | rfl | rfl <;> constructor <;> decide
/-- a short life -/
abbrev lifeN (a b : Int) : List DoT := [(0, 0, 0, 0, [(a, b, [49], ()), (b, a, [50], ()), (1, 2, [51], ())], ()), (3, a, b, b, [], ()), (2, a, b, a, [], ()), (3, a, b, 0, [], ()), (2, a, b, 0, [], ()), (2, b, a, 0, [], ()), (2, 1, 2, 0, [], ())]
theorem short_life (a b : Int) : ShortD (lifeN a b) := by
  refine ⟨by show (7 : Nat) ≤ 140737488351232; decide, fun d hd => ?_⟩
  simp only [lifeN, List.mem_cons, List.not_mem_nil, or_false] at hd
  rcases hd with rfl | rfl | rfl | rfl | rfl | rfl | rfl
  · refine ⟨by show (3 : Nat) ≤ 140737488351232; decide, fun p hp => ?_⟩
    simp only [DoT.L, List.mem_cons, List.not_mem_nil, or_false] at hp
    rcases hp with rfl | rfl | rfl <;> (show (1 : Nat) ≤ 140737488351232; decide)
  all_goals exact ⟨by show (0 : Nat) ≤ 140737488351232; decide, fun p hp => by cases hp⟩
theorem netNumbers_c {r : Fr} : Con Go.Proofs.Tryz.prog 4 #[] r [] (Ret fun v η => v = .bool true ∧ η = []) := by
  refine Con.of (n := 175) [] rfl Go.Proofs.Tryz.func4 rfl rfl rfl fun g hg R hR => ?_
  refine S.seq (S.region rfl ?_)
  refine O.op (.p rfl) (.as rfl) ?_
  refine O.nil ?_
  refine S.seq (S.region rfl ?_)
  refine O.call0 (.p rfl) rfl FactRnet7.ok7 rfl rfl ((nnew_c)) ?_
  rintro v11 _ ⟨d11, b11, rfl, rfl⟩
  try simp only [List.cons_append, List.nil_append, List.append_nil]
  refine O.frzO (by repeat (first | exact Sel.here | apply Sel.there)) fun g hs hm hat => ?_
  replace hg := Fr.sub_trans hg hs
  replace hR := melted hR hm
  clear hs hm
  refine O.op (.p rfl) (.as rfl) ?_
  refine O.nil ?_
  refine S.seq (S.seq (S.region rfl ?_))
  refine O.op (.p rfl) (.as rfl) ?_
  refine O.nil ?_
  refine S.block ?_
  refine S.loopK (ι := Nat) (fun i => i ≤ 64) (fun i => [(2, .int .i64 (i : Int))]) [(1, _)] (fun i => [linksW b11 (lsN i)]) (fun i => 64 - i) (0) (by omega) (.cons rfl (.nil)) (.cons rfl (.nil)) rfl fun i hx ih => ?_
  have hm1 := meltRefl (g := g)
  refine S.seq (S.seq (S.region rfl ?_))
  refine O.op (.p rfl) (.mv rfl) ?_
  refine O.op (.p rfl) (.lss rfl rfl) ?_
  refine O.nil ?_
  first | refine S.condD rfl (fun h13 => ?_) (fun h13 => ?_) | refine S.condB rfl (fun h13 => ?_) (fun h13 => ?_)
  · have hi : i < 64 := by omega
    refine S.skip (S.seq (S.block (S.seq (S.region rfl ?_))))
    refine O.op (.p rfl) (.mv rfl) ?_
    refine O.call0 (.p rfl) rfl FactRnet7.ok26 rfl rfl ((of_c (s := [97]) 5 6 (by decide))) ?_
    rintro v17 _ ⟨a17, c17, rfl, rfl⟩
    try simp only [List.cons_append, List.nil_append, List.append_nil]
    refine O.frzA (by repeat (first | exact Sel.here | apply Sel.there)) fun g hs hm ha17 => ?_
    replace hg := Fr.sub_trans hg hs
    replace hR := melted hR hm
    try replace hat := hat.mono hs
    try replace hat := hat.mono hs
    replace hm1 := meltTrans hm1 hm
    clear hs hm
    refine O.opE (.p rfl) (.litP (T := (Rp.cells 3)) (ys := [_]) Go.Proofs.Tryz.underlying29 FactRnet7.elem35 (by decide) rfl rfl ⟨⟨rfl, rfl, by first | (simp; done) | (intro v hv; simp [Value.cells] at hv; rcases hv with rfl | rfl <;> rfl) | (refine List.forall_mem_cons.2 ⟨rfl, ?_⟩; repeat (first | exact (fun _ h => absurd h List.not_mem_nil) | refine List.forall_mem_cons.2 ⟨rfl, ?_⟩))⟩, trivial⟩ (by decide)) ?_
    rintro _ _ ⟨a18, c18, rfl, rfl⟩
    refine O.frzA (by repeat (first | exact Sel.here | apply Sel.there)) fun g hs hm ha18 => ?_
    replace hg := Fr.sub_trans hg hs
    replace hR := melted hR hm
    try replace hat := hat.mono hs
    try replace hat := hat.mono hs
    try replace ha17 := ha17.mono hs
    replace hm1 := meltTrans hm1 hm
    clear hs hm
    refine O.callS (.p rfl) rfl FactRnet7.ok16 rfl rfl (by repeat (first | exact Sel.here | apply Sel.there)) (send_g (ps := [nA]) hat (Arr.ofCells ha18 ⟨PktRp.mk (by constructor <;> decide) (by constructor <;> decide) ha17, trivial⟩ rfl)) ?_
    rintro v19 _ ⟨rfl, rfl⟩
    try simp only [List.cons_append, List.nil_append, List.append_nil]
    rw [sendE1 (p := nA) (by decide), sendM1 (p := nA) (by decide), full_lsN i nA rfl, decide_eq_false (by omega), send_lsN hi]
    refine O.op (.p rfl) (.neq rfl rfl) ?_
    refine O.slot 20 (v' := .bool false) rfl (congrArg Value.bool (by rfl)) ?_
    refine O.nil ?_
    refine S.condF rfl ?_
    refine S.skip (S.inBlock (S.region rfl ?_))
    refine O.op (.p rfl) (.mv rfl) ?_
    refine O.op (.p rfl) (.add rfl rfl (IntWalk.i64_in _ (by omega))) ?_
    refine O.op (.p rfl) (.as rfl) ?_
    refine O.nil ?_
    refine S.melt hm1 (S.weaken ?_ (ih (i + 1) (by omega) (by omega)))
    repeat (first | exact Sub.nil | refine Sub.cons rfl ?_)
  · clear ih
    have hi : i = 64 := by omega
    subst hi
    refine S.exit rfl ?_
    refine S.seq (S.region rfl ?_)
    refine O.op (.p rfl) (.mv rfl) ?_
    refine O.call0 (.p rfl) rfl FactRnet7.ok26 rfl rfl ((of_c (s := [98]) 5 6 (by decide))) ?_
    rintro v22 _ ⟨a22, c22, rfl, rfl⟩
    try simp only [List.cons_append, List.nil_append, List.append_nil]
    refine O.frzA (by repeat (first | exact Sel.here | apply Sel.there)) fun g hs hm ha22 => ?_
    replace hg := Fr.sub_trans hg hs
    replace hR := melted hR hm
    try replace hat := hat.mono hs
    try replace hat := hat.mono hs
    replace hm1 := meltTrans hm1 hm
    clear hs hm
    refine O.call0 (.p rfl) rfl FactRnet7.ok26 rfl rfl ((of_c (s := [99]) 6 5 (by decide))) ?_
    rintro v23 _ ⟨a23, c23, rfl, rfl⟩
    try simp only [List.cons_append, List.nil_append, List.append_nil]
    refine O.frzA (by repeat (first | exact Sel.here | apply Sel.there)) fun g hs hm ha23 => ?_
    replace hg := Fr.sub_trans hg hs
    replace hR := melted hR hm
    try replace hat := hat.mono hs
    try replace hat := hat.mono hs
    try replace ha22 := ha22.mono hs
    replace hm1 := meltTrans hm1 hm
    clear hs hm
    refine O.opE (.p rfl) (.litP (T := (Rp.cells 3)) (ys := [_, _]) Go.Proofs.Tryz.underlying29 FactRnet7.elem35 (by decide) rfl rfl ⟨⟨rfl, rfl, by first | (simp; done) | (intro v hv; simp [Value.cells] at hv; rcases hv with rfl | rfl <;> rfl) | (refine List.forall_mem_cons.2 ⟨rfl, ?_⟩; repeat (first | exact (fun _ h => absurd h List.not_mem_nil) | refine List.forall_mem_cons.2 ⟨rfl, ?_⟩))⟩, ⟨rfl, rfl, by first | (simp; done) | (intro v hv; simp [Value.cells] at hv; rcases hv with rfl | rfl <;> rfl) | (refine List.forall_mem_cons.2 ⟨rfl, ?_⟩; repeat (first | exact (fun _ h => absurd h List.not_mem_nil) | refine List.forall_mem_cons.2 ⟨rfl, ?_⟩))⟩, trivial⟩ (by decide)) ?_
    rintro _ _ ⟨a24, c24, rfl, rfl⟩
    refine O.frzA (by repeat (first | exact Sel.here | apply Sel.there)) fun g hs hm ha24 => ?_
    replace hg := Fr.sub_trans hg hs
    replace hR := melted hR hm
    try replace hat := hat.mono hs
    try replace hat := hat.mono hs
    try replace ha22 := ha22.mono hs
    try replace ha23 := ha23.mono hs
    replace hm1 := meltTrans hm1 hm
    clear hs hm
    refine O.callS (.p rfl) rfl FactRnet7.ok16 rfl rfl (by repeat (first | exact Sel.here | apply Sel.there)) (send_g (ps := [nB, nC]) hat (Arr.ofCells ha24 ⟨PktRp.mk (by constructor <;> decide) (by constructor <;> decide) ha22, PktRp.mk (by constructor <;> decide) (by constructor <;> decide) ha23, trivial⟩ rfl)) ?_
    rintro v25 _ ⟨rfl, rfl⟩
    try simp only [List.cons_append, List.nil_append, List.append_nil]
    rw [send65.1, send65.2]
    refine O.op (.p rfl) (.mv rfl) ?_
    refine O.callS (.p rfl) rfl FactRnet7.ok13 rfl rfl (by repeat (first | exact Sel.here | apply Sel.there)) (twice_yes (ls := ls65) (f := 5) (t := 6) (i := 0) hat (by decide) (by decide)) ?_
    rintro v27 _ ⟨rfl, rfl⟩
    try simp only [List.cons_append, List.nil_append, List.append_nil]
    rw [full65 _ (by decide), same65 _ (by decide)]
    refine O.op (.p rfl) (.mv rfl) ?_
    refine O.callS (.p rfl) rfl FactRnet7.ok23 rfl rfl (by repeat (first | exact Sel.here | apply Sel.there)) (many_g (ls := ls65) hat) ?_
    rintro v29 _ ⟨rfl, rfl⟩
    try simp only [List.cons_append, List.nil_append, List.append_nil]
    refine O.op (.p rfl) (.as rfl) ?_
    refine O.op (.p rfl) (.as rfl) ?_
    refine O.op (.p rfl) (.as rfl) ?_
    refine O.nil ?_
    refine S.seq (S.seq (S.region rfl ?_))
    refine O.op (.p rfl) (.mv rfl) ?_
    refine O.op (.p rfl) (.neq rfl rfl) ?_
    refine O.slot 31 (v' := .bool false) rfl (congrArg Value.bool (by rfl)) ?_
    refine O.op (.p rfl) (.mv rfl) ?_
    refine O.op (.g rfl rfl) (.mv rfl) ?_
    refine O.op (.p rfl) (.pickF rfl rfl) ?_
    refine O.op (.p rfl) (.mv rfl) ?_
    refine O.op (.g rfl rfl) (.mv rfl) ?_
    refine O.op (.g rfl rfl) (.neq rfl rfl) ?_
    refine O.slot 37 (v' := .bool false) rfl (congrArg Value.bool (by rfl)) ?_
    refine O.op (.p rfl) (.pickF rfl rfl) ?_
    refine O.op (.p rfl) (.mv rfl) ?_
    refine O.op (.g rfl rfl) (.mv rfl) ?_
    refine O.callS (.g rfl rfl) rfl FactRnet7.ok23 rfl rfl (by repeat (first | exact Sel.here | apply Sel.there)) (many_g (ls := ls65) hat) ?_
    rintro v41 _ ⟨rfl, rfl⟩
    try simp only [List.cons_append, List.nil_append, List.append_nil]
    refine O.op (.g rfl rfl) (.neq rfl rfl) ?_
    refine O.slot 42 (v' := .bool false) rfl (congrArg Value.bool (by rfl)) ?_
    refine O.op (.p rfl) (.pickF rfl rfl) ?_
    refine O.nil ?_
    refine S.condF rfl ?_
    refine S.skip (S.seq (S.region rfl ?_))
    refine O.opE (.p rfl) (.makeP (T := Rp.u8) (0 : UInt8) (m := 262145) Go.Proofs.Tryz.underlying33 FactRnet7.elem5 (by decide) rfl rfl rfl rfl rfl (by decide) (by decide)) ?_
    rintro v44 _ ⟨a44, c44, rfl, rfl⟩
    refine O.op (.p rfl) (.as rfl) ?_
    refine O.nil ?_
    refine S.seq (S.seq ?_)
    refine S.frzA (by repeat (first | exact Sel.here | apply Sel.there)) fun g hs hm hlong => ?_
    replace hg := Fr.sub_trans hg hs
    replace hR := melted hR hm
    try replace hat := hat.mono hs
    try replace hat := hat.mono hs
    try replace ha22 := ha22.mono hs
    try replace ha23 := ha23.mono hs
    try replace ha24 := ha24.mono hs
    replace hm1 := meltTrans hm1 hm
    clear hs hm
    obtain ⟨zs, hz⟩ : ∃ zs, List.replicate 262145 (0 : UInt8) = zs := ⟨_, rfl⟩
    rw [hz] at hlong
    have hzl : zs.length = 262145 := by rw [← hz, List.length_replicate]
    clear hz
    have hd1 : (zs.drop 1).length = 262144 := by rw [List.length_drop]; omega
    have hs66 := send66 hd1
    have hs67 := send67 (sendM ls65 [(1, 1, zs.drop 1, ())]) hzl
    obtain ⟨L6, hL6⟩ : ∃ L6, sendM ls65 [(1, 1, zs.drop 1, ())] = L6 := ⟨_, rfl⟩
    rw [hL6] at hs66 hs67
    refine S.region rfl ?_
    refine O.op (.p rfl) (.mv rfl) ?_
    refine O.op (.p rfl) (.mv rfl) ?_
    refine O.sliceFrom (a := 1) (.p rfl) Go.Proofs.Tryz.underlying33 FactRnet7.size5 rfl rfl (by assumption) (by first | omega | (simp; done) | (simp; omega) | decide) (by first | omega | (simp; done) | (simp; omega) | decide) (fun u47 ha47 => ?_)
    obtain ⟨a47, c47, rfl⟩ := ha47.shape
    refine O.op (.p rfl) (.build (cs := [_, _, _]) Go.Proofs.Tryz.underlying35 rfl rfl rfl rfl rfl) ?_
    refine O.opE (.p rfl) (.litP (T := (Rp.cells 3)) (ys := [_]) Go.Proofs.Tryz.underlying29 FactRnet7.elem35 (by decide) rfl rfl ⟨⟨rfl, rfl, by first | (simp; done) | (intro v hv; simp [Value.cells] at hv; rcases hv with rfl | rfl <;> rfl) | (refine List.forall_mem_cons.2 ⟨rfl, ?_⟩; repeat (first | exact (fun _ h => absurd h List.not_mem_nil) | refine List.forall_mem_cons.2 ⟨rfl, ?_⟩))⟩, trivial⟩ (by decide)) ?_
    rintro _ _ ⟨a49, c49, rfl, rfl⟩
    refine O.frzA (by repeat (first | exact Sel.here | apply Sel.there)) fun g hs hm ha49 => ?_
    replace hg := Fr.sub_trans hg hs
    replace hR := melted hR hm
    try replace hat := hat.mono hs
    try replace hat := hat.mono hs
    try replace ha22 := ha22.mono hs
    try replace ha23 := ha23.mono hs
    try replace ha24 := ha24.mono hs
    try replace hlong := hlong.mono hs
    try replace ha47 := ha47.mono hs
    replace hm1 := meltTrans hm1 hm
    clear hs hm
    refine O.callS (.p rfl) rfl FactRnet7.ok16 rfl rfl (by repeat (first | exact Sel.here | apply Sel.there)) (send_g (ps := [(1, 1, zs.drop 1, ())]) hat (Arr.ofCells ha49 ⟨PktRp.mk (by constructor <;> decide) (by constructor <;> decide) ha47, trivial⟩ rfl)) ?_
    rintro v50 _ ⟨rfl, rfl⟩
    try simp only [List.cons_append, List.nil_append, List.append_nil]
    rw [hL6, hs66.1]
    refine O.op (.p rfl) (.neq rfl rfl) ?_
    refine O.slot 51 (v' := .bool false) rfl (congrArg Value.bool (by rfl)) ?_
    refine O.op (.p rfl) (.mv rfl) ?_
    refine O.op (.g rfl rfl) (.mv rfl) ?_
    refine O.call0 (.g rfl rfl) rfl FactRnet7.ok26 rfl rfl ((of_c (s := [120]) 1 1 (by decide))) ?_
    rintro v54 _ ⟨a54, c54, rfl, rfl⟩
    try simp only [List.cons_append, List.nil_append, List.append_nil]
    refine O.frzA (by repeat (first | exact Sel.here | apply Sel.there)) fun g hs hm ha54 => ?_
    replace hg := Fr.sub_trans hg hs
    replace hR := melted hR hm
    try replace hat := hat.mono hs
    try replace hat := hat.mono hs
    try replace ha22 := ha22.mono hs
    try replace ha23 := ha23.mono hs
    try replace ha24 := ha24.mono hs
    try replace hlong := hlong.mono hs
    try replace ha47 := ha47.mono hs
    try replace ha49 := ha49.mono hs
    replace hm1 := meltTrans hm1 hm
    clear hs hm
    refine O.op (.g rfl rfl) (.mv rfl) ?_
    refine O.op (.g rfl rfl) (.build (cs := [_, _, _]) Go.Proofs.Tryz.underlying35 rfl rfl rfl rfl rfl) ?_
    refine O.opE (.g rfl rfl) (.litP (T := (Rp.cells 3)) (ys := [_, _]) Go.Proofs.Tryz.underlying29 FactRnet7.elem35 (by decide) rfl rfl ⟨⟨rfl, rfl, by first | (simp; done) | (intro v hv; simp [Value.cells] at hv; rcases hv with rfl | rfl <;> rfl) | (refine List.forall_mem_cons.2 ⟨rfl, ?_⟩; repeat (first | exact (fun _ h => absurd h List.not_mem_nil) | refine List.forall_mem_cons.2 ⟨rfl, ?_⟩))⟩, ⟨rfl, rfl, by first | (simp; done) | (intro v hv; simp [Value.cells] at hv; rcases hv with rfl | rfl <;> rfl) | (refine List.forall_mem_cons.2 ⟨rfl, ?_⟩; repeat (first | exact (fun _ h => absurd h List.not_mem_nil) | refine List.forall_mem_cons.2 ⟨rfl, ?_⟩))⟩, trivial⟩ (by decide)) ?_
    rintro _ _ ⟨a57, c57, rfl, rfl⟩
    refine O.frzA (by repeat (first | exact Sel.here | apply Sel.there)) fun g hs hm ha57 => ?_
    replace hg := Fr.sub_trans hg hs
    replace hR := melted hR hm
    try replace hat := hat.mono hs
    try replace hat := hat.mono hs
    try replace ha22 := ha22.mono hs
    try replace ha23 := ha23.mono hs
    try replace ha24 := ha24.mono hs
    try replace hlong := hlong.mono hs
    try replace ha47 := ha47.mono hs
    try replace ha49 := ha49.mono hs
    try replace ha54 := ha54.mono hs
    replace hm1 := meltTrans hm1 hm
    clear hs hm
    refine O.callS (.g rfl rfl) rfl FactRnet7.ok16 rfl rfl (by repeat (first | exact Sel.here | apply Sel.there)) (send_g (ps := [nX, (1, 2, zs, ())]) hat (Arr.ofCells ha57 ⟨PktRp.mk (by constructor <;> decide) (by constructor <;> decide) ha54, PktRp.mk (by constructor <;> decide) (by constructor <;> decide) hlong, trivial⟩ rfl)) ?_
    rintro v58 _ ⟨rfl, rfl⟩
    try simp only [List.cons_append, List.nil_append, List.append_nil]
    rw [hs67.1, hs67.2]
    refine O.op (.g rfl rfl) (.neq rfl rfl) ?_
    refine O.slot 59 (v' := .bool false) rfl (congrArg Value.bool (by rfl)) ?_
    refine O.op (.p rfl) (.pickF rfl rfl) ?_
    refine O.op (.p rfl) (.mv rfl) ?_
    refine O.op (.g rfl rfl) (.mv rfl) ?_
    refine O.callS (.g rfl rfl) rfl FactRnet7.ok23 rfl rfl (by repeat (first | exact Sel.here | apply Sel.there)) (many_g (ls := L6) hat) ?_
    rintro v63 _ ⟨rfl, rfl⟩
    try simp only [List.cons_append, List.nil_append, List.append_nil]
    rw [hs66.2]
    refine O.op (.g rfl rfl) (.neq rfl rfl) ?_
    refine O.slot 64 (v' := .bool false) rfl (congrArg Value.bool (by rfl)) ?_
    refine O.op (.p rfl) (.pickF rfl rfl) ?_
    refine O.nil ?_
    refine S.condF rfl ?_
    refine S.skip (S.seq (S.region rfl ?_))
    refine O.opE (.p rfl) (.litP (T := Rp.i64) (ys := [-9223372036854775808, -1, 0, 1, 2, 9223372036854775807]) Go.Proofs.Tryz.underlying52 FactRnet7.elem3 (by decide) rfl rfl ⟨⟨rfl, by first | assumption | (constructor <;> omega)⟩, ⟨rfl, by first | assumption | (constructor <;> omega)⟩, ⟨rfl, by first | assumption | (constructor <;> omega)⟩, ⟨rfl, by first | assumption | (constructor <;> omega)⟩, ⟨rfl, by first | assumption | (constructor <;> omega)⟩, ⟨rfl, by first | assumption | (constructor <;> omega)⟩, trivial⟩ (by decide)) ?_
    rintro _ _ ⟨a66, c66, rfl, rfl⟩
    refine O.frzA (by repeat (first | exact Sel.here | apply Sel.there)) fun g hs hm ha66 => ?_
    replace hg := Fr.sub_trans hg hs
    replace hR := melted hR hm
    try replace hat := hat.mono hs
    try replace hat := hat.mono hs
    try replace ha22 := ha22.mono hs
    try replace ha23 := ha23.mono hs
    try replace ha24 := ha24.mono hs
    try replace hlong := hlong.mono hs
    try replace ha47 := ha47.mono hs
    try replace ha49 := ha49.mono hs
    try replace ha54 := ha54.mono hs
    try replace ha57 := ha57.mono hs
    replace hm1 := meltTrans hm1 hm
    clear hs hm
    refine O.op (.p rfl) (.as rfl) ?_
    refine O.nil ?_
    refine S.seq (S.seq (S.region rfl ?_))
    refine O.op (.p rfl) (.as rfl) ?_
    refine O.nil ?_
    refine S.block ?_
    have hn6 : nums6.length = 6 := rfl
    refine S.pk Picks.nil ?_
    refine S.loopK (ι := Nat) (fun i => i ≤ 6) (fun i => [(8, .int .i64 (i : Int))]) [(7, _)] (fun i => []) (fun i => 6 - i) (0) (by omega) (.cons rfl (.nil)) (.cons rfl (.nil)) rfl fun i hx ih => ?_
    have hm2 := meltRefl (g := g)
    refine S.seq (S.seq (S.region rfl ?_))
    refine O.op (.p rfl) (.mv rfl) ?_
    refine O.op (.p rfl) (.mv rfl) ?_
    refine O.op (.p rfl) (.len rfl Go.Proofs.Tryz.underlying52 rfl) ?_
    refine O.op (.p rfl) (.lss rfl rfl) ?_
    refine O.nil ?_
    first | refine S.condD rfl (fun h70 => ?_) (fun h70 => ?_) | refine S.condB rfl (fun h70 => ?_) (fun h70 => ?_)
    · have hi : i < nums6.length := by omega
      refine S.skip (S.seq (S.block (S.seq (S.region rfl ?_))))
      refine O.op (.p rfl) (.as rfl) ?_
      refine O.nil ?_
      refine S.block ?_
      refine S.loopK (ι := Nat) (fun k => k ≤ 6) (fun k => [(9, .int .i64 (k : Int))]) [(7, _), (8, _)] (fun k => []) (fun k => 6 - k) (0) (by omega) (.cons rfl (.nil)) (.cons rfl (.cons rfl (.nil))) rfl fun k hx ih => ?_
      have hm3 := meltRefl (g := g)
      rename_i ihO
      refine S.seq (S.seq (S.region rfl ?_))
      refine O.op (.p rfl) (.mv rfl) ?_
      refine O.op (.p rfl) (.mv rfl) ?_
      refine O.op (.p rfl) (.len rfl Go.Proofs.Tryz.underlying52 rfl) ?_
      refine O.op (.p rfl) (.lss rfl rfl) ?_
      refine O.nil ?_
      first | refine S.condD rfl (fun h76 => ?_) (fun h76 => ?_) | refine S.condB rfl (fun h76 => ?_) (fun h76 => ?_)
      · have hk : k < nums6.length := by omega
        have hIa := nums_in nums6[i] (List.getElem_mem hi)
        have hIb := nums_in nums6[k] (List.getElem_mem hk)
        refine S.skip (S.seq (S.block (S.seq (S.regionD (L := [0, 1, 2, 3, 4, 5, 6, 7, 9, 10, 11, 12, 13, 14, 15, 16, 21, 22, 23, 24, 25, 26, 27, 28, 29, 30, 31, 32, 33, 34, 35, 36, 37, 38, 39, 40, 41, 42, 43, 44, 45, 46, 47, 48, 49, 50, 51, 52, 53, 54, 55, 56, 57, 58, 59, 60, 61, 62, 63, 64, 65, 66, 67, 68, 69, 70, 71, 72, 73, 74, 8, 17, 18, 19, 20, 75, 76]) FactRnet7.mixed (by kernel_rfl) ?_))))
        refine .quiet (.p rfl) rfl (fun _ => .mv rfl) ?_
        refine .quiet (.p rfl) rfl (fun _ => .mv rfl) ?_
        refine OD.idx' (.p rfl) Go.Proofs.Tryz.underlying52 FactRnet7.size3 rfl rfl rfl (by first | assumption | exact Arr.mono hg (by assumption) | exact Arr.left (by assumption) | exact Arr.left (Arr.mono hg (by assumption))) (by decide) (by first | omega | (simp; done) | (simp; omega) | decide) (fun p81 cs81 hp81 hr81 => ?_)
        obtain ⟨rfl, hz81⟩ := hr81
        refine .quiet (.p rfl) rfl (fun _ => .loadAt FactRnet7.flat3 rfl hp81 rfl) ?_
        refine .quiet (.p rfl) rfl (fun _ => .mv rfl) ?_
        refine .quiet (.p rfl) rfl (fun _ => .mv rfl) ?_
        refine OD.idx' (.p rfl) Go.Proofs.Tryz.underlying52 FactRnet7.size3 rfl rfl rfl (by first | assumption | exact Arr.mono hg (by assumption) | exact Arr.left (by assumption) | exact Arr.left (Arr.mono hg (by assumption))) (by decide) (by first | omega | (simp; done) | (simp; omega) | decide) (fun p85 cs85 hp85 hr85 => ?_)
        obtain ⟨rfl, hz85⟩ := hr85
        refine .quiet (.p rfl) rfl (fun _ => .loadAt FactRnet7.flat3 rfl hp85 rfl) ?_
        refine .quiet (.p rfl) rfl (fun _ => .mv rfl) ?_
        refine .quiet (.p rfl) rfl (fun _ => .mv rfl) ?_
        refine OD.idx' (.p rfl) Go.Proofs.Tryz.underlying52 FactRnet7.size3 rfl rfl rfl (by first | assumption | exact Arr.mono hg (by assumption) | exact Arr.left (by assumption) | exact Arr.left (Arr.mono hg (by assumption))) (by decide) (by first | omega | (simp; done) | (simp; omega) | decide) (fun p90 cs90 hp90 hr90 => ?_)
        obtain ⟨rfl, hz90⟩ := hr90
        refine .quiet (.p rfl) rfl (fun _ => .loadAt FactRnet7.flat3 rfl hp90 rfl) ?_
        refine .quiet (.p rfl) rfl (fun _ => .mv rfl) ?_
        refine .quiet (.p rfl) rfl (fun _ => .mv rfl) ?_
        refine OD.idx' (.p rfl) Go.Proofs.Tryz.underlying52 FactRnet7.size3 rfl rfl rfl (by first | assumption | exact Arr.mono hg (by assumption) | exact Arr.left (by assumption) | exact Arr.left (Arr.mono hg (by assumption))) (by decide) (by first | omega | (simp; done) | (simp; omega) | decide) (fun p94 cs94 hp94 hr94 => ?_)
        obtain ⟨rfl, hz94⟩ := hr94
        refine .quiet (.p rfl) rfl (fun _ => .loadAt FactRnet7.flat3 rfl hp94 rfl) ?_
        refine .quiet (.p rfl) rfl (fun _ => .mv rfl) ?_
        refine .quiet (.p rfl) rfl (fun _ => .mv rfl) ?_
        refine OD.idx' (.p rfl) Go.Proofs.Tryz.underlying52 FactRnet7.size3 rfl rfl rfl (by first | assumption | exact Arr.mono hg (by assumption) | exact Arr.left (by assumption) | exact Arr.left (Arr.mono hg (by assumption))) (by decide) (by first | omega | (simp; done) | (simp; omega) | decide) (fun p102 cs102 hp102 hr102 => ?_)
        obtain ⟨rfl, hz102⟩ := hr102
        refine .quiet (.p rfl) rfl (fun _ => .loadAt FactRnet7.flat3 rfl hp102 rfl) ?_
        refine .quiet (.p rfl) rfl (fun _ => .mv rfl) ?_
        refine .quiet (.p rfl) rfl (fun _ => .mv rfl) ?_
        refine OD.idx' (.p rfl) Go.Proofs.Tryz.underlying52 FactRnet7.size3 rfl rfl rfl (by first | assumption | exact Arr.mono hg (by assumption) | exact Arr.left (by assumption) | exact Arr.left (Arr.mono hg (by assumption))) (by decide) (by first | omega | (simp; done) | (simp; omega) | decide) (fun p106 cs106 hp106 hr106 => ?_)
        obtain ⟨rfl, hz106⟩ := hr106
        refine .quiet (.p rfl) rfl (fun _ => .loadAt FactRnet7.flat3 rfl hp106 rfl) ?_
        refine .quiet (.p rfl) rfl (fun _ => .mv rfl) ?_
        refine .quiet (.p rfl) rfl (fun _ => .mv rfl) ?_
        refine OD.idx' (.p rfl) Go.Proofs.Tryz.underlying52 FactRnet7.size3 rfl rfl rfl (by first | assumption | exact Arr.mono hg (by assumption) | exact Arr.left (by assumption) | exact Arr.left (Arr.mono hg (by assumption))) (by decide) (by first | omega | (simp; done) | (simp; omega) | decide) (fun p110 cs110 hp110 hr110 => ?_)
        obtain ⟨rfl, hz110⟩ := hr110
        refine .quiet (.p rfl) rfl (fun _ => .loadAt FactRnet7.flat3 rfl hp110 rfl) ?_
        refine .quiet (.p rfl) rfl (fun _ => .build (cs := [_, _, _, _, _]) Go.Proofs.Tryz.underlying31 rfl rfl rfl rfl rfl) ?_
        refine .quiet (.p rfl) rfl (fun _ => .mv rfl) ?_
        refine .quiet (.p rfl) rfl (fun _ => .mv rfl) ?_
        refine OD.idx' (.p rfl) Go.Proofs.Tryz.underlying52 FactRnet7.size3 rfl rfl rfl (by first | assumption | exact Arr.mono hg (by assumption) | exact Arr.left (by assumption) | exact Arr.left (Arr.mono hg (by assumption))) (by decide) (by first | omega | (simp; done) | (simp; omega) | decide) (fun p115 cs115 hp115 hr115 => ?_)
        obtain ⟨rfl, hz115⟩ := hr115
        refine .quiet (.p rfl) rfl (fun _ => .loadAt FactRnet7.flat3 rfl hp115 rfl) ?_
        refine .quiet (.p rfl) rfl (fun _ => .mv rfl) ?_
        refine .quiet (.p rfl) rfl (fun _ => .mv rfl) ?_
        refine OD.idx' (.p rfl) Go.Proofs.Tryz.underlying52 FactRnet7.size3 rfl rfl rfl (by first | assumption | exact Arr.mono hg (by assumption) | exact Arr.left (by assumption) | exact Arr.left (Arr.mono hg (by assumption))) (by decide) (by first | omega | (simp; done) | (simp; omega) | decide) (fun p119 cs119 hp119 hr119 => ?_)
        obtain ⟨rfl, hz119⟩ := hr119
        refine .quiet (.p rfl) rfl (fun _ => .loadAt FactRnet7.flat3 rfl hp119 rfl) ?_
        refine .quiet (.p rfl) rfl (fun _ => .mv rfl) ?_
        refine .quiet (.p rfl) rfl (fun _ => .mv rfl) ?_
        refine OD.idx' (.p rfl) Go.Proofs.Tryz.underlying52 FactRnet7.size3 rfl rfl rfl (by first | assumption | exact Arr.mono hg (by assumption) | exact Arr.left (by assumption) | exact Arr.left (Arr.mono hg (by assumption))) (by decide) (by first | omega | (simp; done) | (simp; omega) | decide) (fun p123 cs123 hp123 hr123 => ?_)
        obtain ⟨rfl, hz123⟩ := hr123
        refine .quiet (.p rfl) rfl (fun _ => .loadAt FactRnet7.flat3 rfl hp123 rfl) ?_
        refine .quiet (.p rfl) rfl (fun _ => .build (cs := [_, _, _, _, _]) Go.Proofs.Tryz.underlying31 rfl rfl rfl rfl rfl) ?_
        refine .quiet (.p rfl) rfl (fun _ => .mv rfl) ?_
        refine .quiet (.p rfl) rfl (fun _ => .mv rfl) ?_
        refine OD.idx' (.p rfl) Go.Proofs.Tryz.underlying52 FactRnet7.size3 rfl rfl rfl (by first | assumption | exact Arr.mono hg (by assumption) | exact Arr.left (by assumption) | exact Arr.left (Arr.mono hg (by assumption))) (by decide) (by first | omega | (simp; done) | (simp; omega) | decide) (fun p128 cs128 hp128 hr128 => ?_)
        obtain ⟨rfl, hz128⟩ := hr128
        refine .quiet (.p rfl) rfl (fun _ => .loadAt FactRnet7.flat3 rfl hp128 rfl) ?_
        refine .quiet (.p rfl) rfl (fun _ => .mv rfl) ?_
        refine .quiet (.p rfl) rfl (fun _ => .mv rfl) ?_
        refine OD.idx' (.p rfl) Go.Proofs.Tryz.underlying52 FactRnet7.size3 rfl rfl rfl (by first | assumption | exact Arr.mono hg (by assumption) | exact Arr.left (by assumption) | exact Arr.left (Arr.mono hg (by assumption))) (by decide) (by first | omega | (simp; done) | (simp; omega) | decide) (fun p132 cs132 hp132 hr132 => ?_)
        obtain ⟨rfl, hz132⟩ := hr132
        refine .quiet (.p rfl) rfl (fun _ => .loadAt FactRnet7.flat3 rfl hp132 rfl) ?_
        refine .quiet (.p rfl) rfl (fun _ => .build (cs := [_, _, _, _, _]) Go.Proofs.Tryz.underlying31 rfl rfl rfl rfl rfl) ?_
        refine .quiet (.p rfl) rfl (fun _ => .mv rfl) ?_
        refine .quiet (.p rfl) rfl (fun _ => .mv rfl) ?_
        refine OD.idx' (.p rfl) Go.Proofs.Tryz.underlying52 FactRnet7.size3 rfl rfl rfl (by first | assumption | exact Arr.mono hg (by assumption) | exact Arr.left (by assumption) | exact Arr.left (Arr.mono hg (by assumption))) (by decide) (by first | omega | (simp; done) | (simp; omega) | decide) (fun p137 cs137 hp137 hr137 => ?_)
        obtain ⟨rfl, hz137⟩ := hr137
        refine .quiet (.p rfl) rfl (fun _ => .loadAt FactRnet7.flat3 rfl hp137 rfl) ?_
        refine .quiet (.p rfl) rfl (fun _ => .mv rfl) ?_
        refine .quiet (.p rfl) rfl (fun _ => .mv rfl) ?_
        refine OD.idx' (.p rfl) Go.Proofs.Tryz.underlying52 FactRnet7.size3 rfl rfl rfl (by first | assumption | exact Arr.mono hg (by assumption) | exact Arr.left (by assumption) | exact Arr.left (Arr.mono hg (by assumption))) (by decide) (by first | omega | (simp; done) | (simp; omega) | decide) (fun p141 cs141 hp141 hr141 => ?_)
        obtain ⟨rfl, hz141⟩ := hr141
        refine .quiet (.p rfl) rfl (fun _ => .loadAt FactRnet7.flat3 rfl hp141 rfl) ?_
        refine .quiet (.p rfl) rfl (fun _ => .build (cs := [_, _, _, _, _]) Go.Proofs.Tryz.underlying31 rfl rfl rfl rfl rfl) ?_
        refine .quiet (.p rfl) rfl (fun _ => .mv rfl) ?_
        refine .quiet (.p rfl) rfl (fun _ => .mv rfl) ?_
        refine OD.idx' (.p rfl) Go.Proofs.Tryz.underlying52 FactRnet7.size3 rfl rfl rfl (by first | assumption | exact Arr.mono hg (by assumption) | exact Arr.left (by assumption) | exact Arr.left (Arr.mono hg (by assumption))) (by decide) (by first | omega | (simp; done) | (simp; omega) | decide) (fun p146 cs146 hp146 hr146 => ?_)
        obtain ⟨rfl, hz146⟩ := hr146
        refine .quiet (.p rfl) rfl (fun _ => .loadAt FactRnet7.flat3 rfl hp146 rfl) ?_
        refine .quiet (.p rfl) rfl (fun _ => .mv rfl) ?_
        refine .quiet (.p rfl) rfl (fun _ => .mv rfl) ?_
        refine OD.idx' (.p rfl) Go.Proofs.Tryz.underlying52 FactRnet7.size3 rfl rfl rfl (by first | assumption | exact Arr.mono hg (by assumption) | exact Arr.left (by assumption) | exact Arr.left (Arr.mono hg (by assumption))) (by decide) (by first | omega | (simp; done) | (simp; omega) | decide) (fun p150 cs150 hp150 hr150 => ?_)
        obtain ⟨rfl, hz150⟩ := hr150
        refine .quiet (.p rfl) rfl (fun _ => .loadAt FactRnet7.flat3 rfl hp150 rfl) ?_
        refine .quiet (.p rfl) rfl (fun _ => .build (cs := [_, _, _, _, _]) Go.Proofs.Tryz.underlying31 rfl rfl rfl rfl rfl) ?_
        refine .quiet (.p rfl) rfl (fun _ => .build (cs := [_, _, _, _, _]) Go.Proofs.Tryz.underlying31 rfl rfl rfl rfl rfl) ?_
        refine OD.call0 (.p rfl) (by kernel_rfl) rfl FactRnet7.ok26 rfl rfl ((of_c (s := [49]) _ _ (by decide))) ?_
        rintro v87 _ ⟨a87, c87, rfl, rfl⟩
        try simp only [List.cons_append, List.nil_append, List.append_nil]
        refine OD.call0 (.p rfl) (by kernel_rfl) rfl FactRnet7.ok26 rfl rfl ((of_c (s := [50]) _ _ (by decide))) ?_
        rintro v96 _ ⟨a96, c96, rfl, rfl⟩
        try simp only [List.cons_append, List.nil_append, List.append_nil]
        refine OD.call0 (.p rfl) (by kernel_rfl) rfl FactRnet7.ok26 rfl rfl ((of_c (s := [51]) 1 2 (by decide))) ?_
        rintro v97 _ ⟨a97, c97, rfl, rfl⟩
        try simp only [List.cons_append, List.nil_append, List.append_nil]
        refine OD.litP (T := (Rp.cells 3)) (ys := [_, _, _]) (.p rfl) (by kernel_rfl) Go.Proofs.Tryz.underlying29 FactRnet7.elem35 (by decide) rfl rfl ⟨⟨rfl, rfl, by first | (simp; done) | (intro v hv; simp [Value.cells] at hv; rcases hv with rfl | rfl <;> rfl) | (refine List.forall_mem_cons.2 ⟨rfl, ?_⟩; repeat (first | exact (fun _ h => absurd h List.not_mem_nil) | refine List.forall_mem_cons.2 ⟨rfl, ?_⟩))⟩, ⟨rfl, rfl, by first | (simp; done) | (intro v hv; simp [Value.cells] at hv; rcases hv with rfl | rfl <;> rfl) | (refine List.forall_mem_cons.2 ⟨rfl, ?_⟩; repeat (first | exact (fun _ h => absurd h List.not_mem_nil) | refine List.forall_mem_cons.2 ⟨rfl, ?_⟩))⟩, ⟨rfl, rfl, by first | (simp; done) | (intro v hv; simp [Value.cells] at hv; rcases hv with rfl | rfl <;> rfl) | (refine List.forall_mem_cons.2 ⟨rfl, ?_⟩; repeat (first | exact (fun _ h => absurd h List.not_mem_nil) | refine List.forall_mem_cons.2 ⟨rfl, ?_⟩))⟩, trivial⟩ (by decide) (fun a98 c98 => ?_)
        refine .quiet (.p rfl) rfl (fun _ => .build (cs := [_, _, _, _, _]) Go.Proofs.Tryz.underlying31 rfl rfl rfl rfl rfl) ?_
        refine OD.litP (T := (Rp.cells 5)) (ys := [_, _, _, _, _, _, _]) (.p rfl) (by kernel_rfl) Go.Proofs.Tryz.underlying22 FactRnet7.elem31 (by decide) rfl rfl ⟨⟨rfl, rfl, by first | (simp; done) | (intro v hv; simp [Value.cells] at hv; rcases hv with rfl | rfl <;> rfl) | (refine List.forall_mem_cons.2 ⟨rfl, ?_⟩; repeat (first | exact (fun _ h => absurd h List.not_mem_nil) | refine List.forall_mem_cons.2 ⟨rfl, ?_⟩))⟩, ⟨rfl, rfl, by first | (simp; done) | (intro v hv; simp [Value.cells] at hv; rcases hv with rfl | rfl <;> rfl) | (refine List.forall_mem_cons.2 ⟨rfl, ?_⟩; repeat (first | exact (fun _ h => absurd h List.not_mem_nil) | refine List.forall_mem_cons.2 ⟨rfl, ?_⟩))⟩, ⟨rfl, rfl, by first | (simp; done) | (intro v hv; simp [Value.cells] at hv; rcases hv with rfl | rfl <;> rfl) | (refine List.forall_mem_cons.2 ⟨rfl, ?_⟩; repeat (first | exact (fun _ h => absurd h List.not_mem_nil) | refine List.forall_mem_cons.2 ⟨rfl, ?_⟩))⟩, ⟨rfl, rfl, by first | (simp; done) | (intro v hv; simp [Value.cells] at hv; rcases hv with rfl | rfl <;> rfl) | (refine List.forall_mem_cons.2 ⟨rfl, ?_⟩; repeat (first | exact (fun _ h => absurd h List.not_mem_nil) | refine List.forall_mem_cons.2 ⟨rfl, ?_⟩))⟩, ⟨rfl, rfl, by first | (simp; done) | (intro v hv; simp [Value.cells] at hv; rcases hv with rfl | rfl <;> rfl) | (refine List.forall_mem_cons.2 ⟨rfl, ?_⟩; repeat (first | exact (fun _ h => absurd h List.not_mem_nil) | refine List.forall_mem_cons.2 ⟨rfl, ?_⟩))⟩, ⟨rfl, rfl, by first | (simp; done) | (intro v hv; simp [Value.cells] at hv; rcases hv with rfl | rfl <;> rfl) | (refine List.forall_mem_cons.2 ⟨rfl, ?_⟩; repeat (first | exact (fun _ h => absurd h List.not_mem_nil) | refine List.forall_mem_cons.2 ⟨rfl, ?_⟩))⟩, ⟨rfl, rfl, by first | (simp; done) | (intro v hv; simp [Value.cells] at hv; rcases hv with rfl | rfl <;> rfl) | (refine List.forall_mem_cons.2 ⟨rfl, ?_⟩; repeat (first | exact (fun _ h => absurd h List.not_mem_nil) | refine List.forall_mem_cons.2 ⟨rfl, ?_⟩))⟩, trivial⟩ (by decide) (fun a154 c154 => ?_)
        refine .quiet (.p rfl) rfl (fun _ => .as rfl) ?_
        refine .nil ?_
        refine S.seq ?_
        refine S.frzA (by repeat (first | exact Sel.here | apply Sel.there)) fun g hs hm hD => ?_
        replace hg := Fr.sub_trans hg hs
        replace hR := melted hR hm
        try replace hat := hat.mono hs
        try replace hat := hat.mono hs
        try replace ha22 := ha22.mono hs
        try replace ha23 := ha23.mono hs
        try replace ha24 := ha24.mono hs
        try replace hlong := hlong.mono hs
        try replace ha47 := ha47.mono hs
        try replace ha49 := ha49.mono hs
        try replace ha54 := ha54.mono hs
        try replace ha57 := ha57.mono hs
        try replace ha66 := ha66.mono hs
        try replace hp81 := hp81.mono hs
        try replace hp85 := hp85.mono hs
        try replace hp90 := hp90.mono hs
        try replace hp94 := hp94.mono hs
        try replace hp102 := hp102.mono hs
        try replace hp106 := hp106.mono hs
        try replace hp110 := hp110.mono hs
        try replace hp115 := hp115.mono hs
        try replace hp119 := hp119.mono hs
        try replace hp123 := hp123.mono hs
        try replace hp128 := hp128.mono hs
        try replace hp132 := hp132.mono hs
        try replace hp137 := hp137.mono hs
        try replace hp141 := hp141.mono hs
        try replace hp146 := hp146.mono hs
        try replace hp150 := hp150.mono hs
        replace hm1 := meltTrans hm1 hm
        replace hm2 := meltTrans hm2 hm
        replace hm3 := meltTrans hm3 hm
        clear hs hm
        refine S.frzA (by repeat (first | exact Sel.here | apply Sel.there)) fun g hs hm hP => ?_
        replace hg := Fr.sub_trans hg hs
        replace hR := melted hR hm
        try replace hat := hat.mono hs
        try replace hat := hat.mono hs
        try replace ha22 := ha22.mono hs
        try replace ha23 := ha23.mono hs
        try replace ha24 := ha24.mono hs
        try replace hlong := hlong.mono hs
        try replace ha47 := ha47.mono hs
        try replace ha49 := ha49.mono hs
        try replace ha54 := ha54.mono hs
        try replace ha57 := ha57.mono hs
        try replace ha66 := ha66.mono hs
        try replace hp81 := hp81.mono hs
        try replace hp85 := hp85.mono hs
        try replace hp90 := hp90.mono hs
        try replace hp94 := hp94.mono hs
        try replace hp102 := hp102.mono hs
        try replace hp106 := hp106.mono hs
        try replace hp110 := hp110.mono hs
        try replace hp115 := hp115.mono hs
        try replace hp119 := hp119.mono hs
        try replace hp123 := hp123.mono hs
        try replace hp128 := hp128.mono hs
        try replace hp132 := hp132.mono hs
        try replace hp137 := hp137.mono hs
        try replace hp141 := hp141.mono hs
        try replace hp146 := hp146.mono hs
        try replace hp150 := hp150.mono hs
        try replace hD := hD.mono hs
        try replace hD := hD.mono hs
        replace hm1 := meltTrans hm1 hm
        replace hm2 := meltTrans hm2 hm
        replace hm3 := meltTrans hm3 hm
        clear hs hm
        refine S.frzA (by repeat (first | exact Sel.here | apply Sel.there)) fun g hs hm h3 => ?_
        replace hg := Fr.sub_trans hg hs
        replace hR := melted hR hm
        try replace hat := hat.mono hs
        try replace hat := hat.mono hs
        try replace ha22 := ha22.mono hs
        try replace ha23 := ha23.mono hs
        try replace ha24 := ha24.mono hs
        try replace hlong := hlong.mono hs
        try replace ha47 := ha47.mono hs
        try replace ha49 := ha49.mono hs
        try replace ha54 := ha54.mono hs
        try replace ha57 := ha57.mono hs
        try replace ha66 := ha66.mono hs
        try replace hp81 := hp81.mono hs
        try replace hp85 := hp85.mono hs
        try replace hp90 := hp90.mono hs
        try replace hp94 := hp94.mono hs
        try replace hp102 := hp102.mono hs
        try replace hp106 := hp106.mono hs
        try replace hp110 := hp110.mono hs
        try replace hp115 := hp115.mono hs
        try replace hp119 := hp119.mono hs
        try replace hp123 := hp123.mono hs
        try replace hp128 := hp128.mono hs
        try replace hp132 := hp132.mono hs
        try replace hp137 := hp137.mono hs
        try replace hp141 := hp141.mono hs
        try replace hp146 := hp146.mono hs
        try replace hp150 := hp150.mono hs
        try replace hD := hD.mono hs
        try replace hD := hD.mono hs
        try replace hP := hP.mono hs
        try replace hP := hP.mono hs
        replace hm1 := meltTrans hm1 hm
        replace hm2 := meltTrans hm2 hm
        replace hm3 := meltTrans hm3 hm
        clear hs hm
        refine S.frzA (by repeat (first | exact Sel.here | apply Sel.there)) fun g hs hm h2 => ?_
        replace hg := Fr.sub_trans hg hs
        replace hR := melted hR hm
        try replace hat := hat.mono hs
        try replace hat := hat.mono hs
        try replace ha22 := ha22.mono hs
        try replace ha23 := ha23.mono hs
        try replace ha24 := ha24.mono hs
        try replace hlong := hlong.mono hs
        try replace ha47 := ha47.mono hs
        try replace ha49 := ha49.mono hs
        try replace ha54 := ha54.mono hs
        try replace ha57 := ha57.mono hs
        try replace ha66 := ha66.mono hs
        try replace hp81 := hp81.mono hs
        try replace hp85 := hp85.mono hs
        try replace hp90 := hp90.mono hs
        try replace hp94 := hp94.mono hs
        try replace hp102 := hp102.mono hs
        try replace hp106 := hp106.mono hs
        try replace hp110 := hp110.mono hs
        try replace hp115 := hp115.mono hs
        try replace hp119 := hp119.mono hs
        try replace hp123 := hp123.mono hs
        try replace hp128 := hp128.mono hs
        try replace hp132 := hp132.mono hs
        try replace hp137 := hp137.mono hs
        try replace hp141 := hp141.mono hs
        try replace hp146 := hp146.mono hs
        try replace hp150 := hp150.mono hs
        try replace hD := hD.mono hs
        try replace hD := hD.mono hs
        try replace hP := hP.mono hs
        try replace hP := hP.mono hs
        try replace h3 := h3.mono hs
        try replace h3 := h3.mono hs
        replace hm1 := meltTrans hm1 hm
        replace hm2 := meltTrans hm2 hm
        replace hm3 := meltTrans hm3 hm
        clear hs hm
        refine S.frzA (by repeat (first | exact Sel.here | apply Sel.there)) fun g hs hm h1 => ?_
        replace hg := Fr.sub_trans hg hs
        replace hR := melted hR hm
        try replace hat := hat.mono hs
        try replace hat := hat.mono hs
        try replace ha22 := ha22.mono hs
        try replace ha23 := ha23.mono hs
        try replace ha24 := ha24.mono hs
        try replace hlong := hlong.mono hs
        try replace ha47 := ha47.mono hs
        try replace ha49 := ha49.mono hs
        try replace ha54 := ha54.mono hs
        try replace ha57 := ha57.mono hs
        try replace ha66 := ha66.mono hs
        try replace hp81 := hp81.mono hs
        try replace hp85 := hp85.mono hs
        try replace hp90 := hp90.mono hs
        try replace hp94 := hp94.mono hs
        try replace hp102 := hp102.mono hs
        try replace hp106 := hp106.mono hs
        try replace hp110 := hp110.mono hs
        try replace hp115 := hp115.mono hs
        try replace hp119 := hp119.mono hs
        try replace hp123 := hp123.mono hs
        try replace hp128 := hp128.mono hs
        try replace hp132 := hp132.mono hs
        try replace hp137 := hp137.mono hs
        try replace hp141 := hp141.mono hs
        try replace hp146 := hp146.mono hs
        try replace hp150 := hp150.mono hs
        try replace hD := hD.mono hs
        try replace hD := hD.mono hs
        try replace hP := hP.mono hs
        try replace hP := hP.mono hs
        try replace h3 := h3.mono hs
        try replace h3 := h3.mono hs
        try replace h2 := h2.mono hs
        try replace h2 := h2.mono hs
        replace hm1 := meltTrans hm1 hm
        replace hm2 := meltTrans hm2 hm
        replace hm3 := meltTrans hm3 hm
        clear hs hm
        have hL : Arr PktRp g.h (.slice a98 3 c98) [(nums6[i], nums6[k], [49], ()), (nums6[k], nums6[i], [50], ()), (1, 2, [51], ())] := Arr.ofCells hP ⟨PktRp.mk hIa hIb h1, PktRp.mk hIb hIa h2, PktRp.mk (by constructor <;> decide) (by constructor <;> decide) h3, trivial⟩ rfl
        have h064 : InI64 0 := by constructor <;> decide
        have h164 : InI64 1 := by constructor <;> decide
        have h264 : InI64 2 := by constructor <;> decide
        have h364 : InI64 3 := by constructor <;> decide
        have hDo : Arr DoRp g.h (.slice a154 7 c154) (lifeN nums6[i] nums6[k]) := Arr.ofCells hD ⟨DoRp.mk (x := (0, 0, 0, 0, [(nums6[i], nums6[k], [49], ()), (nums6[k], nums6[i], [50], ()), (1, 2, [51], ())], ())) h064 h064 h064 h064 hL, DoRp.mk (x := (3, nums6[i], nums6[k], nums6[k], [], ())) h364 hIa hIb hIb Arr.nil, DoRp.mk (x := (2, nums6[i], nums6[k], nums6[i], [], ())) h264 hIa hIb hIa Arr.nil, DoRp.mk (x := (3, nums6[i], nums6[k], 0, [], ())) h364 hIa hIb h064 Arr.nil, DoRp.mk (x := (2, nums6[i], nums6[k], 0, [], ())) h264 hIa hIb h064 Arr.nil, DoRp.mk (x := (2, nums6[k], nums6[i], 0, [], ())) h264 hIb hIa h064 Arr.nil, DoRp.mk (x := (2, 1, 2, 0, [], ())) h264 h164 h264 h064 Arr.nil, trivial⟩ rfl
        refine S.regionD (L := [0, 1, 2, 3, 4, 5, 6, 7, 8, 9, 10, 11, 12, 13, 14, 15]) FactRnet7.mixed (by kernel_rfl) ?_
        refine .quiet (.p rfl) rfl (fun _ => .mv rfl) ?_
        refine OD.call0 (.p rfl) (by kernel_rfl) rfl FactRnet7.ok3 rfl rfl ((netLives_c hDo (short_life _ _))) ?_
        rintro v156 _ ⟨rfl, rfl⟩
        try simp only [List.cons_append, List.nil_append, List.append_nil]
        refine .quiet (.p rfl) rfl (fun _ => (by first | exact .notD rfl | exact .not rfl)) ?_
        refine .quiet (.p rfl) rfl (fun _ => .mv rfl) ?_
        refine .quiet (.g rfl rfl) rfl (fun _ => .mv rfl) ?_
        refine .quiet (.g rfl rfl) rfl (fun _ => .mv rfl) ?_
        refine OD.idx' (.g rfl rfl) Go.Proofs.Tryz.underlying52 FactRnet7.size3 rfl rfl rfl (by first | assumption | exact Arr.mono hg (by assumption) | exact Arr.left (by assumption) | exact Arr.left (Arr.mono hg (by assumption))) (by decide) (by first | omega | (simp; done) | (simp; omega) | decide) (fun p161 cs161 hp161 hr161 => ?_)
        obtain ⟨rfl, hz161⟩ := hr161
        refine .quiet (.g rfl rfl) rfl (fun _ => .loadAt FactRnet7.flat3 rfl hp161 rfl) ?_
        refine .quiet (.g rfl rfl) rfl (fun _ => .mv rfl) ?_
        refine .quiet (.g rfl rfl) rfl (fun _ => .mv rfl) ?_
        refine OD.idx' (.g rfl rfl) Go.Proofs.Tryz.underlying52 FactRnet7.size3 rfl rfl rfl (by first | assumption | exact Arr.mono hg (by assumption) | exact Arr.left (by assumption) | exact Arr.left (Arr.mono hg (by assumption))) (by decide) (by first | omega | (simp; done) | (simp; omega) | decide) (fun p165 cs165 hp165 hr165 => ?_)
        obtain ⟨rfl, hz165⟩ := hr165
        refine .quiet (.g rfl rfl) rfl (fun _ => .loadAt FactRnet7.flat3 rfl hp165 rfl) ?_
        refine OD.call0 (.g rfl rfl) (by kernel_rfl) rfl FactRnet7.ok26 rfl rfl ((of_c (s := []) 1 2 (by decide))) ?_
        rintro v167 _ ⟨a167, c167, rfl, rfl⟩
        try simp only [List.cons_append, List.nil_append, List.append_nil]
        refine OD.callB (.g rfl rfl) (by kernel_rfl) rfl FactRnet7.ok27 rfl rfl (bs := [OwnP Rp.u8 5 (.slice a167 0 c167) []]) (by repeat (first | exact Sels.nil | (apply Sels.cons; focus (repeat (first | exact Sel.here | apply Sel.there))))) (fun m hm hd => netNil_c (hm.arr.right hd)) ?_
        rintro v168 _ ⟨rfl, rfl⟩
        try simp only [List.cons_append, List.nil_append, List.append_nil]
        refine .quiet (.g rfl rfl) rfl (fun _ => (by first | exact .notD rfl | exact .not rfl)) ?_
        refine .quiet (.p rfl) rfl (fun _ => .pickF rfl rfl) ?_
        refine .nil ?_
        refine S.condF rfl ?_
        refine S.skip (S.inBlock (S.region rfl ?_))
        refine O.op (.p rfl) (.mv rfl) ?_
        refine O.op (.p rfl) (.add rfl rfl (IntWalk.i64_in _ (by omega))) ?_
        refine O.op (.p rfl) (.as rfl) ?_
        refine O.nil ?_
        refine S.pk ?_ (S.melt hm3 (S.weaken ?_ (ih (k + 1) (by omega) (by omega))))
        · repeat (first | exact Picks.all | exact Picks.nil | (apply Picks.cons; focus (repeat (first | exact Sel.here | apply Sel.there))) | apply Picks.skip)
        repeat (first | exact Sub.nil | refine Sub.cons rfl ?_)
      · clear ih
        have ih := ihO
        refine S.exit rfl ?_
        refine S.inBlock (S.region rfl ?_)
        refine O.op (.p rfl) (.mv rfl) ?_
        refine O.op (.p rfl) (.add rfl rfl (IntWalk.i64_in _ (by omega))) ?_
        refine O.op (.p rfl) (.as rfl) ?_
        refine O.nil ?_
        refine S.weaken ?_ (ih (i + 1) (by omega) (by omega))
        repeat (first | exact Sub.nil | refine Sub.cons rfl ?_)
    · clear ih
      refine S.exit rfl ?_
      refine S.seq (S.region rfl ?_)
      refine O.call0 (.p rfl) rfl FactRnet7.ok3 rfl rfl ((netLives_c (l := []) Arr.nil ⟨Nat.zero_le _, fun d hd => by cases hd⟩)) ?_
      rintro v171 _ ⟨rfl, rfl⟩
      try simp only [List.cons_append, List.nil_append, List.append_nil]
      refine O.op (.p rfl) (.mv rfl) ?_
      refine O.call0 (.g rfl rfl) rfl FactRnet7.ok6 rfl rfl (awake_c) ?_
      rintro v173 _ ⟨rfl, rfl⟩
      try simp only [List.cons_append, List.nil_append, List.append_nil]
      refine O.op (.p rfl) (.pickT rfl rfl) ?_
      refine O.op (.p rfl) (.as rfl) ?_
      refine O.nil ?_
      refine S.ret Go.Proofs.Tryz.results4 rfl fun w hw => Holds.end_ hR hw ?_
      exact ⟨_, ⟨rfl, rfl⟩, by repeat (first | exact Picks.all | exact Picks.nil | (apply Picks.cons; focus (repeat (first | exact Sel.here | apply Sel.there))) | apply Picks.skip)⟩

end Go.Proofs.YthaebmfgelaleaaGreat
