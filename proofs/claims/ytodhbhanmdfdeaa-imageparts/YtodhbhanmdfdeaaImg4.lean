import Derived.Test.YtodhbhanmdfdeaaImg3
open Go Go.Sp
set_option maxRecDepth 100000
attribute [local irreducible] obj Own OwnP
namespace Go.Proofs.Ytodhbhanmdfdeaa
theorem FactImg4.elem32 : elemIs Go.Proofs.Try.prog 32 1 24 [.slice none 0 0] := elemIs.mk (by kernel_rfl) rfl
theorem FactImg4.flat3 : Go.Sp.flat1 Go.Proofs.Try.prog 3 = true := by kernel_rfl
theorem FactImg4.fld56x0 : fieldOff Go.Proofs.Try.prog 56 0 = some 0 := by kernel_rfl
theorem FactImg4.mixed : Go.Proofs.Try.prog.follows .mixedOrders = true := by kernel_rfl
theorem FactImg4.ok17 : callable Go.Proofs.Try.prog 17 = true := by kernel_rfl
theorem FactImg4.ok19 : callable Go.Proofs.Try.prog 19 = true := by kernel_rfl
theorem FactImg4.ok21 : callable Go.Proofs.Try.prog 21 = true := by kernel_rfl
theorem FactImg4.ok23 : callable Go.Proofs.Try.prog 23 = true := by kernel_rfl
theorem FactImg4.ok25 : callable Go.Proofs.Try.prog 25 = true := by kernel_rfl
theorem FactImg4.ok26 : callable Go.Proofs.Try.prog 26 = true := by kernel_rfl
theorem FactImg4.size3 : (Go.Proofs.Try.prog.info? 3).map (·.size) = some 1 := by kernel_rfl
theorem FactImg4.size40 : (Go.Proofs.Try.prog.info? 40).map (·.size) = some 5 := by kernel_rfl
theorem FactImg4.size42 : (Go.Proofs.Try.prog.info? 42).map (·.size) = some 10 := by kernel_rfl
theorem FactImg4.size48 : (Go.Proofs.Try.prog.info? 48).map (·.size) = some 2 := by kernel_rfl

theorem rowsL_c {r : Fr} {b : Nat} {s : WSt} {va : Value} {l : List LeafT} (ha : Arr LeafRp r va l) (hx : ∀ x ∈ l, x.2.1.length ≤ 3000) (hn : l.length ≤ 3000) (hb : s.out.length ≤ 100000000000000) (hs : s.seen.length ≤ 10000) :
    Con Go.Proofs.Try.prog 16 #[.pointer (some ⟨b, 0, none⟩), va, .func (.func 17) #[.pointer (some ⟨b, 0, none⟩)] #[]] r [WrB b s] (RetP (fun v η => v = .tuple #[] ∧ ∃ s', rowSteps leafStep s l = some s' ∧ η = [WrB b s']) (fun ch η => rowSteps leafStep s l = none ∧ ch = errP 33 4 ∧ η = [])) := by
  have har := ha
  refine Con.of (n := 26) [.pointer (some ⟨b, 0, none⟩), va, .func (.func 17) #[.pointer (some ⟨b, 0, none⟩)] #[]] rfl Go.Proofs.Try.func16 rfl rfl rfl fun g hg R hR => ?_
  have ha := ha.mono hg
  have hbd := ha.bound
  obtain ⟨a1, c1, rfl⟩ := ha.shape
  have hfl : [be l.length].flatten = be l.length := by simp
  refine S.open (A := WrB b s) (by repeat (first | exact Sel.here | apply Sel.there)) (fun m x => x) fun p => ?_
  simp only [List.cons_append, List.nil_append]
  refine S.seq (S.regionD (L := [0, 1, 2, 3, 4, 5, 6, 7]) FactImg4.mixed (by kernel_rfl) ?_)
  refine .quiet (.p rfl) rfl (fun _ => .mv rfl) ?_
  refine .quiet (.p rfl) rfl (fun _ => .nilCheck rfl) ?_
  refine .quiet (.p rfl) rfl (fun _ => .fieldObj FactImg4.fld56x0 rfl) ?_
  refine .quiet (.p rfl) rfl (fun _ => .mv rfl) ?_
  refine .quiet (.p rfl) rfl (fun _ => .len rfl Go.Proofs.Try.underlying22 rfl) ?_
  refine OD.call0 (.p rfl) (by kernel_rfl) rfl FactImg4.ok26 rfl rfl (wNumber_c _) ?_
  rintro v13 _ ⟨a13, c13, rfl, rfl⟩
  try simp only [List.cons_append, List.nil_append, List.append_nil]
  refine OD.litP (T := Rp.val) (ys := [_]) (.p rfl) (by kernel_rfl) Go.Proofs.Try.underlying79 FactImg4.elem32 (by decide) rfl rfl ⟨⟨rfl, rfl⟩, trivial⟩ (by decide) (fun a14 c14 => ?_)
  refine OD.callSs (.p rfl) (by kernel_rfl) rfl FactImg4.ok25 rfl rfl (by repeat (first | exact Sels.nil | (apply Sels.cons; focus (repeat (first | exact Sel.here | apply Sel.there))))) (Con.lentW (η := [obj b 56 [.slice p.1.1.1 s.out.length p.1.1.2, .string (str s.key), .int .i64 s.rep, .int .i64 s.shard, .int .i64 p.2.1, .slice p.2.2.1.1 p.2.2.1.2.1 p.2.2.1.2.2, .slice p.2.2.2.1 p.2.2.2.2.1 p.2.2.2.2.2, .int .i64 s.last, .slice p.1.2.1 s.seen.length p.1.2.2], OwnP Rp.u8 5 (.slice p.1.1.1 s.out.length p.1.1.2) s.out]) (bs := [OwnP Rp.val 32 (.slice a14 1 c14) [.slice a13 8 c13], OwnP Rp.u8 5 (.slice a13 8 c13) (be l.length)]) (fun m hm hd => bput_c (xss := [be l.length]) ((hm.arr.right hd).rows ⟨hm.tail.arr.right hd, trivial⟩) (by rw [hfl]; simp; omega) rfl)) ?_
  rintro v15 _ ⟨_, ⟨a15, c15, rfl, rfl⟩, rfl⟩
  try simp only [List.cons_append, List.nil_append, List.append_nil]
  rw [hfl]
  refine .nil ?_
  refine S.seq ?_
  generalize hs0 : ({ s with out := s.out ++ be l.length } : WSt) = s0
  have hs1 : s0.out.length = s.out.length + 8 := by rw [← hs0]; simp
  have hs2 : s0.seen.length = s.seen.length := by rw [← hs0]
  refine S.foldS (A := WrB b s0) (bs := [obj b 56 [.slice a15 (s.out ++ be l.length).length c15, .string (str s.key), .int .i64 s.rep, .int .i64 s.shard, .int .i64 p.2.1, .slice p.2.2.1.1 p.2.2.1.2.1 p.2.2.1.2.2, .slice p.2.2.2.1 p.2.2.2.2.1 p.2.2.2.2.2, .int .i64 s.last, .slice p.1.2.1 s.seen.length p.1.2.2], OwnP Rp.u8 5 (.slice a15 (s.out ++ be l.length).length c15) (s.out ++ be l.length), OwnP Rp.str 9 (.slice p.1.2.1 s.seen.length p.1.2.2) s.seen]) (by repeat (first | exact Sels.nil | (apply Sels.cons; focus (repeat (first | exact Sel.here | apply Sel.there))))) (fun m x => ⟨(((a15, c15), p.1.2), p.2), by rw [← hs0]; exact x⟩) ?_
  refine S.keep [WrB b s0] (by repeat (first | exact Picks.all | exact Picks.nil | (apply Picks.cons; focus (repeat (first | exact Sel.here | apply Sel.there))) | apply Picks.skip)) ?_
  have hle : ∀ i (s' : WSt), (l.take i).foldlM leafStep s0 = some s' → s'.out.length ≤ s0.out.length + 5000000 * (l.take i).length ∧ s'.seen.length ≤ s0.seen.length + (l.take i).length :=
    fun i s' h => steps_le leafStep _ _ _ (fun x hm t t' e => leafStep_le (hx _ (List.mem_of_mem_take hm)) e) h
  have hgo : rowSteps leafStep s l = l.foldlM leafStep s0 := by rw [← hs0]; rfl
  refine S.region rfl ?_
  refine O.op (.p rfl) (.mv rfl) ?_
  refine O.op (.p rfl) (.len rfl Go.Proofs.Try.underlying22 rfl) ?_
  refine O.op (.p rfl) (.mv rfl) ?_
  refine O.nil ?_
  refine S.block ?_
  refine S.loopK2 (ι := Nat) (κ := WSt) (fun i t => i ≤ l.length ∧ (l.take i).foldlM leafStep s0 = some t) (fun i t => [(18, .int .i64 (i : Int))]) [(2, _), (16, _), (17, _)] (fun i t => [WrB b t]) (fun i t => l.length - i) (0) (s0) (by exact ⟨by simp, by simp⟩) (.cons rfl (.nil)) (.cons rfl (.cons rfl (.cons rfl (.nil)))) rfl fun i t hx ih => ?_
  have hm1 := meltRefl (g := g)
  obtain ⟨hx1, hx2⟩ := hx
  have hle1 := hle i t hx2
  have hle2 : (l.take i).length ≤ 3000 := by rw [List.length_take]; omega
  refine S.seq (S.region rfl ?_)
  refine O.op (.p rfl) (.lss rfl rfl) ?_
  refine O.nil ?_
  refine S.seq ?_
  first | refine S.condD rfl (fun h19 => ?_) (fun h19 => ?_) | refine S.condB rfl (fun h19 => ?_) (fun h19 => ?_)
  · have hi : i < l.length := by omega
    have hnx := foldlM_next leafStep s0 t l i hi hx2
    refine S.skip (S.seq (S.block (S.seq (S.region rfl ?_))))
    refine O.idxR (.p rfl) Go.Proofs.Try.underlying22 FactImg4.size48 rfl rfl rfl har hg (by decide) (by first | omega | (simp; done) | (simp; omega) | decide) (fun p20 cs20 hp20 hrr20 => ?_)
    have hr20 := Rp.rel.mono hrr20 hg
    obtain ⟨la1_20, lc1_20, rfl, ho0_20, ha1_20⟩ := LeafRp.sh hr20
    refine O.op (.p rfl) (.loadAgg Go.Proofs.Try.isAgg48 (by kernel_rfl) rfl hp20) ?_
    refine O.opE (.p rfl) (.alloc (cs := [.string ⟨#[]⟩, .slice none 0 0]) Go.Proofs.Try.zeroValue48 rfl) ?_
    rintro _ _ ⟨b7, rfl, rfl⟩
    refine O.opU rfl (.storeObj (by kernel_rfl) rfl rfl rfl rfl (by repeat (first | exact Sel.here | apply Sel.there)) (by first | (simp; done) | (simp [Value.cells]; done))) ?_
    refine O.nil ?_
    refine S.region rfl ?_
    refine O.op (.p rfl) (.mv rfl) ?_
    refine O.op (.p rfl) (.loadObjAgg (news := [_, _]) Go.Proofs.Try.isAgg48 (by kernel_rfl) rfl (by repeat (first | exact Sel.here | apply Sel.there)) rfl) ?_
    refine O.callPS (.p rfl) rfl FactImg4.ok17 rfl rfl (by repeat (first | exact Sel.here | apply Sel.there)) (leaf_c hr20 (by have := hx _ (List.getElem_mem hi); omega) (by omega)) (fun ch η' w hX hW => by (obtain ⟨hb, rfl, rfl⟩ := hX; exact hR _ _ w ⟨hgo.trans (foldlM_take leafStep s0 l (i + 1) (hnx.trans hb)), rfl, rfl⟩ hW.drop_all)) ?_
    rintro v24 _ ⟨rfl, t24, hst, rfl⟩
    try simp only [List.cons_append, List.nil_append, List.append_nil]
    refine O.nil ?_
    refine S.inBlock (S.region rfl ?_)
    refine O.op (.p rfl) (.add rfl rfl (IntWalk.i64_in _ (by omega))) ?_
    refine O.op (.p rfl) (.mv rfl) ?_
    refine O.nil ?_
    refine S.pk ?_ (S.weaken ?_ (ih (i + 1) (t24) (by exact ⟨by omega, hnx.trans hst⟩) (by omega)))
    · repeat (first | exact Picks.all | exact Picks.nil | (apply Picks.cons; focus (repeat (first | exact Sel.here | apply Sel.there))) | apply Picks.skip)
    repeat (first | exact Sub.nil | refine Sub.cons rfl ?_)
  · clear ih
    have hi : i = l.length := by omega
    subst hi
    rw [List.take_length] at hx2
    refine S.exit rfl ?_
    refine S.end0 Go.Proofs.Try.results16 fun w hw => Holds.end_ hR hw ?_
    exact ⟨_, ⟨rfl, t, hgo.trans hx2, rfl⟩, by repeat (first | exact Picks.all | exact Picks.nil | (apply Picks.cons; focus (repeat (first | exact Sel.here | apply Sel.there))) | apply Picks.skip)⟩
theorem rowsR_c {r : Fr} {b : Nat} {s : WSt} {va : Value} {l : List RootT} (ha : Arr RootRp r va l)  (hn : l.length ≤ 3000) (hb : s.out.length ≤ 100000000000000) (hs : s.seen.length ≤ 10000) :
    Con Go.Proofs.Try.prog 18 #[.pointer (some ⟨b, 0, none⟩), va, .func (.func 19) #[.pointer (some ⟨b, 0, none⟩)] #[]] r [WrB b s] (RetP (fun v η => v = .tuple #[] ∧ ∃ s', rowSteps rootStep s l = some s' ∧ η = [WrB b s']) (fun ch η => rowSteps rootStep s l = none ∧ ch = errP 33 4 ∧ η = [])) := by
  have har := ha
  refine Con.of (n := 26) [.pointer (some ⟨b, 0, none⟩), va, .func (.func 19) #[.pointer (some ⟨b, 0, none⟩)] #[]] rfl Go.Proofs.Try.func18 rfl rfl rfl fun g hg R hR => ?_
  have ha := ha.mono hg
  have hbd := ha.bound
  obtain ⟨a1, c1, rfl⟩ := ha.shape
  have hfl : [be l.length].flatten = be l.length := by simp
  refine S.open (A := WrB b s) (by repeat (first | exact Sel.here | apply Sel.there)) (fun m x => x) fun p => ?_
  simp only [List.cons_append, List.nil_append]
  refine S.seq (S.regionD (L := [0, 1, 2, 3, 4, 5, 6, 7]) FactImg4.mixed (by kernel_rfl) ?_)
  refine .quiet (.p rfl) rfl (fun _ => .mv rfl) ?_
  refine .quiet (.p rfl) rfl (fun _ => .nilCheck rfl) ?_
  refine .quiet (.p rfl) rfl (fun _ => .fieldObj FactImg4.fld56x0 rfl) ?_
  refine .quiet (.p rfl) rfl (fun _ => .mv rfl) ?_
  refine .quiet (.p rfl) rfl (fun _ => .len rfl Go.Proofs.Try.underlying23 rfl) ?_
  refine OD.call0 (.p rfl) (by kernel_rfl) rfl FactImg4.ok26 rfl rfl (wNumber_c _) ?_
  rintro v13 _ ⟨a13, c13, rfl, rfl⟩
  try simp only [List.cons_append, List.nil_append, List.append_nil]
  refine OD.litP (T := Rp.val) (ys := [_]) (.p rfl) (by kernel_rfl) Go.Proofs.Try.underlying79 FactImg4.elem32 (by decide) rfl rfl ⟨⟨rfl, rfl⟩, trivial⟩ (by decide) (fun a14 c14 => ?_)
  refine OD.callSs (.p rfl) (by kernel_rfl) rfl FactImg4.ok25 rfl rfl (by repeat (first | exact Sels.nil | (apply Sels.cons; focus (repeat (first | exact Sel.here | apply Sel.there))))) (Con.lentW (η := [obj b 56 [.slice p.1.1.1 s.out.length p.1.1.2, .string (str s.key), .int .i64 s.rep, .int .i64 s.shard, .int .i64 p.2.1, .slice p.2.2.1.1 p.2.2.1.2.1 p.2.2.1.2.2, .slice p.2.2.2.1 p.2.2.2.2.1 p.2.2.2.2.2, .int .i64 s.last, .slice p.1.2.1 s.seen.length p.1.2.2], OwnP Rp.u8 5 (.slice p.1.1.1 s.out.length p.1.1.2) s.out]) (bs := [OwnP Rp.val 32 (.slice a14 1 c14) [.slice a13 8 c13], OwnP Rp.u8 5 (.slice a13 8 c13) (be l.length)]) (fun m hm hd => bput_c (xss := [be l.length]) ((hm.arr.right hd).rows ⟨hm.tail.arr.right hd, trivial⟩) (by rw [hfl]; simp; omega) rfl)) ?_
  rintro v15 _ ⟨_, ⟨a15, c15, rfl, rfl⟩, rfl⟩
  try simp only [List.cons_append, List.nil_append, List.append_nil]
  rw [hfl]
  refine .nil ?_
  refine S.seq ?_
  generalize hs0 : ({ s with out := s.out ++ be l.length } : WSt) = s0
  have hs1 : s0.out.length = s.out.length + 8 := by rw [← hs0]; simp
  have hs2 : s0.seen.length = s.seen.length := by rw [← hs0]
  refine S.foldS (A := WrB b s0) (bs := [obj b 56 [.slice a15 (s.out ++ be l.length).length c15, .string (str s.key), .int .i64 s.rep, .int .i64 s.shard, .int .i64 p.2.1, .slice p.2.2.1.1 p.2.2.1.2.1 p.2.2.1.2.2, .slice p.2.2.2.1 p.2.2.2.2.1 p.2.2.2.2.2, .int .i64 s.last, .slice p.1.2.1 s.seen.length p.1.2.2], OwnP Rp.u8 5 (.slice a15 (s.out ++ be l.length).length c15) (s.out ++ be l.length), OwnP Rp.str 9 (.slice p.1.2.1 s.seen.length p.1.2.2) s.seen]) (by repeat (first | exact Sels.nil | (apply Sels.cons; focus (repeat (first | exact Sel.here | apply Sel.there))))) (fun m x => ⟨(((a15, c15), p.1.2), p.2), by rw [← hs0]; exact x⟩) ?_
  refine S.keep [WrB b s0] (by repeat (first | exact Picks.all | exact Picks.nil | (apply Picks.cons; focus (repeat (first | exact Sel.here | apply Sel.there))) | apply Picks.skip)) ?_
  have hle : ∀ i (s' : WSt), (l.take i).foldlM rootStep s0 = some s' → s'.out.length ≤ s0.out.length + 5000000 * (l.take i).length ∧ s'.seen.length ≤ s0.seen.length + (l.take i).length :=
    fun i s' h => steps_le rootStep _ _ _ (fun x hm t t' e => rootStep_le e) h
  have hgo : rowSteps rootStep s l = l.foldlM rootStep s0 := by rw [← hs0]; rfl
  refine S.region rfl ?_
  refine O.op (.p rfl) (.mv rfl) ?_
  refine O.op (.p rfl) (.len rfl Go.Proofs.Try.underlying23 rfl) ?_
  refine O.op (.p rfl) (.mv rfl) ?_
  refine O.nil ?_
  refine S.block ?_
  refine S.loopK2 (ι := Nat) (κ := WSt) (fun i t => i ≤ l.length ∧ (l.take i).foldlM rootStep s0 = some t) (fun i t => [(18, .int .i64 (i : Int))]) [(2, _), (16, _), (17, _)] (fun i t => [WrB b t]) (fun i t => l.length - i) (0) (s0) (by exact ⟨by simp, by simp⟩) (.cons rfl (.nil)) (.cons rfl (.cons rfl (.cons rfl (.nil)))) rfl fun i t hx ih => ?_
  have hm1 := meltRefl (g := g)
  obtain ⟨hx1, hx2⟩ := hx
  have hle1 := hle i t hx2
  have hle2 : (l.take i).length ≤ 3000 := by rw [List.length_take]; omega
  refine S.seq (S.region rfl ?_)
  refine O.op (.p rfl) (.lss rfl rfl) ?_
  refine O.nil ?_
  refine S.seq ?_
  first | refine S.condD rfl (fun h19 => ?_) (fun h19 => ?_) | refine S.condB rfl (fun h19 => ?_) (fun h19 => ?_)
  · have hi : i < l.length := by omega
    have hnx := foldlM_next rootStep s0 t l i hi hx2
    refine S.skip (S.seq (S.block (S.seq (S.region rfl ?_))))
    refine O.idxR (.p rfl) Go.Proofs.Try.underlying23 FactImg4.size40 rfl rfl rfl har hg (by decide) (by first | omega | (simp; done) | (simp; omega) | decide) (fun p20 cs20 hp20 hrr20 => ?_)
    have hr20 := Rp.rel.mono hrr20 hg
    obtain ⟨ta3_20, ta4_20, tc3_20, tc4_20, rfl, ho0_20, ho1_20, ho2_20, ha3_20, ha4_20⟩ := RootRp.sh hr20
    refine O.op (.p rfl) (.loadAgg Go.Proofs.Try.isAgg40 (by kernel_rfl) rfl hp20) ?_
    refine O.opE (.p rfl) (.alloc (cs := [.int .i64 0, .int .i64 0, .int .i64 0, .slice none 0 0, .slice none 0 0]) Go.Proofs.Try.zeroValue40 rfl) ?_
    rintro _ _ ⟨b7, rfl, rfl⟩
    refine O.opU rfl (.storeObj (by kernel_rfl) rfl rfl rfl rfl (by repeat (first | exact Sel.here | apply Sel.there)) (by first | (simp; done) | (simp [Value.cells]; done))) ?_
    refine O.nil ?_
    refine S.region rfl ?_
    refine O.op (.p rfl) (.mv rfl) ?_
    refine O.op (.p rfl) (.loadObjAgg (news := [_, _, _, _, _]) Go.Proofs.Try.isAgg40 (by kernel_rfl) rfl (by repeat (first | exact Sel.here | apply Sel.there)) rfl) ?_
    refine O.callPS (.p rfl) rfl FactImg4.ok19 rfl rfl (by repeat (first | exact Sel.here | apply Sel.there)) (wown_c hr20 (by omega)) (fun ch η' w hX hW => by (obtain ⟨hb, rfl, rfl⟩ := hX; exact hR _ _ w ⟨hgo.trans (foldlM_take rootStep s0 l (i + 1) (hnx.trans hb)), rfl, rfl⟩ hW.drop_all)) ?_
    rintro v24 _ ⟨rfl, t24, hst, rfl⟩
    try simp only [List.cons_append, List.nil_append, List.append_nil]
    refine O.nil ?_
    refine S.inBlock (S.region rfl ?_)
    refine O.op (.p rfl) (.add rfl rfl (IntWalk.i64_in _ (by omega))) ?_
    refine O.op (.p rfl) (.mv rfl) ?_
    refine O.nil ?_
    refine S.pk ?_ (S.weaken ?_ (ih (i + 1) (t24) (by exact ⟨by omega, hnx.trans hst⟩) (by omega)))
    · repeat (first | exact Picks.all | exact Picks.nil | (apply Picks.cons; focus (repeat (first | exact Sel.here | apply Sel.there))) | apply Picks.skip)
    repeat (first | exact Sub.nil | refine Sub.cons rfl ?_)
  · clear ih
    have hi : i = l.length := by omega
    subst hi
    rw [List.take_length] at hx2
    refine S.exit rfl ?_
    refine S.end0 Go.Proofs.Try.results18 fun w hw => Holds.end_ hR hw ?_
    exact ⟨_, ⟨rfl, t, hgo.trans hx2, rfl⟩, by repeat (first | exact Picks.all | exact Picks.nil | (apply Picks.cons; focus (repeat (first | exact Sel.here | apply Sel.there))) | apply Picks.skip)⟩
theorem rowsE_c {r : Fr} {b : Nat} {s : WSt} {va : Value} {l : List EvdT} (ha : Arr EvdRp r va l)  (hn : l.length ≤ 3000) (hb : s.out.length ≤ 100000000000000) (hs : s.seen.length ≤ 10000) :
    Con Go.Proofs.Try.prog 20 #[.pointer (some ⟨b, 0, none⟩), va, .func (.func 21) #[.pointer (some ⟨b, 0, none⟩)] #[]] r [WrB b s] (RetP (fun v η => v = .tuple #[] ∧ ∃ s', rowSteps evdStep s l = some s' ∧ η = [WrB b s']) (fun ch η => rowSteps evdStep s l = none ∧ ch = errP 33 4 ∧ η = [])) := by
  have har := ha
  refine Con.of (n := 26) [.pointer (some ⟨b, 0, none⟩), va, .func (.func 21) #[.pointer (some ⟨b, 0, none⟩)] #[]] rfl Go.Proofs.Try.func20 rfl rfl rfl fun g hg R hR => ?_
  have ha := ha.mono hg
  have hbd := ha.bound
  obtain ⟨a1, c1, rfl⟩ := ha.shape
  have hfl : [be l.length].flatten = be l.length := by simp
  refine S.open (A := WrB b s) (by repeat (first | exact Sel.here | apply Sel.there)) (fun m x => x) fun p => ?_
  simp only [List.cons_append, List.nil_append]
  refine S.seq (S.regionD (L := [0, 1, 2, 3, 4, 5, 6, 7]) FactImg4.mixed (by kernel_rfl) ?_)
  refine .quiet (.p rfl) rfl (fun _ => .mv rfl) ?_
  refine .quiet (.p rfl) rfl (fun _ => .nilCheck rfl) ?_
  refine .quiet (.p rfl) rfl (fun _ => .fieldObj FactImg4.fld56x0 rfl) ?_
  refine .quiet (.p rfl) rfl (fun _ => .mv rfl) ?_
  refine .quiet (.p rfl) rfl (fun _ => .len rfl Go.Proofs.Try.underlying24 rfl) ?_
  refine OD.call0 (.p rfl) (by kernel_rfl) rfl FactImg4.ok26 rfl rfl (wNumber_c _) ?_
  rintro v13 _ ⟨a13, c13, rfl, rfl⟩
  try simp only [List.cons_append, List.nil_append, List.append_nil]
  refine OD.litP (T := Rp.val) (ys := [_]) (.p rfl) (by kernel_rfl) Go.Proofs.Try.underlying79 FactImg4.elem32 (by decide) rfl rfl ⟨⟨rfl, rfl⟩, trivial⟩ (by decide) (fun a14 c14 => ?_)
  refine OD.callSs (.p rfl) (by kernel_rfl) rfl FactImg4.ok25 rfl rfl (by repeat (first | exact Sels.nil | (apply Sels.cons; focus (repeat (first | exact Sel.here | apply Sel.there))))) (Con.lentW (η := [obj b 56 [.slice p.1.1.1 s.out.length p.1.1.2, .string (str s.key), .int .i64 s.rep, .int .i64 s.shard, .int .i64 p.2.1, .slice p.2.2.1.1 p.2.2.1.2.1 p.2.2.1.2.2, .slice p.2.2.2.1 p.2.2.2.2.1 p.2.2.2.2.2, .int .i64 s.last, .slice p.1.2.1 s.seen.length p.1.2.2], OwnP Rp.u8 5 (.slice p.1.1.1 s.out.length p.1.1.2) s.out]) (bs := [OwnP Rp.val 32 (.slice a14 1 c14) [.slice a13 8 c13], OwnP Rp.u8 5 (.slice a13 8 c13) (be l.length)]) (fun m hm hd => bput_c (xss := [be l.length]) ((hm.arr.right hd).rows ⟨hm.tail.arr.right hd, trivial⟩) (by rw [hfl]; simp; omega) rfl)) ?_
  rintro v15 _ ⟨_, ⟨a15, c15, rfl, rfl⟩, rfl⟩
  try simp only [List.cons_append, List.nil_append, List.append_nil]
  rw [hfl]
  refine .nil ?_
  refine S.seq ?_
  generalize hs0 : ({ s with out := s.out ++ be l.length } : WSt) = s0
  have hs1 : s0.out.length = s.out.length + 8 := by rw [← hs0]; simp
  have hs2 : s0.seen.length = s.seen.length := by rw [← hs0]
  refine S.foldS (A := WrB b s0) (bs := [obj b 56 [.slice a15 (s.out ++ be l.length).length c15, .string (str s.key), .int .i64 s.rep, .int .i64 s.shard, .int .i64 p.2.1, .slice p.2.2.1.1 p.2.2.1.2.1 p.2.2.1.2.2, .slice p.2.2.2.1 p.2.2.2.2.1 p.2.2.2.2.2, .int .i64 s.last, .slice p.1.2.1 s.seen.length p.1.2.2], OwnP Rp.u8 5 (.slice a15 (s.out ++ be l.length).length c15) (s.out ++ be l.length), OwnP Rp.str 9 (.slice p.1.2.1 s.seen.length p.1.2.2) s.seen]) (by repeat (first | exact Sels.nil | (apply Sels.cons; focus (repeat (first | exact Sel.here | apply Sel.there))))) (fun m x => ⟨(((a15, c15), p.1.2), p.2), by rw [← hs0]; exact x⟩) ?_
  refine S.keep [WrB b s0] (by repeat (first | exact Picks.all | exact Picks.nil | (apply Picks.cons; focus (repeat (first | exact Sel.here | apply Sel.there))) | apply Picks.skip)) ?_
  have hle : ∀ i (s' : WSt), (l.take i).foldlM evdStep s0 = some s' → s'.out.length ≤ s0.out.length + 5000000 * (l.take i).length ∧ s'.seen.length ≤ s0.seen.length + (l.take i).length :=
    fun i s' h => steps_le evdStep _ _ _ (fun x hm t t' e => evdStep_le e) h
  have hgo : rowSteps evdStep s l = l.foldlM evdStep s0 := by rw [← hs0]; rfl
  refine S.region rfl ?_
  refine O.op (.p rfl) (.mv rfl) ?_
  refine O.op (.p rfl) (.len rfl Go.Proofs.Try.underlying24 rfl) ?_
  refine O.op (.p rfl) (.mv rfl) ?_
  refine O.nil ?_
  refine S.block ?_
  refine S.loopK2 (ι := Nat) (κ := WSt) (fun i t => i ≤ l.length ∧ (l.take i).foldlM evdStep s0 = some t) (fun i t => [(18, .int .i64 (i : Int))]) [(2, _), (16, _), (17, _)] (fun i t => [WrB b t]) (fun i t => l.length - i) (0) (s0) (by exact ⟨by simp, by simp⟩) (.cons rfl (.nil)) (.cons rfl (.cons rfl (.cons rfl (.nil)))) rfl fun i t hx ih => ?_
  have hm1 := meltRefl (g := g)
  obtain ⟨hx1, hx2⟩ := hx
  have hle1 := hle i t hx2
  have hle2 : (l.take i).length ≤ 3000 := by rw [List.length_take]; omega
  refine S.seq (S.region rfl ?_)
  refine O.op (.p rfl) (.lss rfl rfl) ?_
  refine O.nil ?_
  refine S.seq ?_
  first | refine S.condD rfl (fun h19 => ?_) (fun h19 => ?_) | refine S.condB rfl (fun h19 => ?_) (fun h19 => ?_)
  · have hi : i < l.length := by omega
    have hnx := foldlM_next evdStep s0 t l i hi hx2
    refine S.skip (S.seq (S.block (S.seq (S.region rfl ?_))))
    refine O.idxR (.p rfl) Go.Proofs.Try.underlying24 FactImg4.size42 rfl rfl rfl har hg (by decide) (by first | omega | (simp; done) | (simp; omega) | decide) (fun p20 cs20 hp20 hrr20 => ?_)
    have hr20 := Rp.rel.mono hrr20 hg
    obtain ⟨ea3_20, ea4_20, ea8_20, ea9_20, ec3_20, ec4_20, ec8_20, ec9_20, rfl, ho0_20, ho1_20, ho2_20, ha3_20, ha4_20, ho5_20, ho6_20, ho7_20, ha8_20, ha9_20⟩ := EvdRp.sh hr20
    refine O.op (.p rfl) (.loadAgg Go.Proofs.Try.isAgg42 (by kernel_rfl) rfl hp20) ?_
    refine O.opE (.p rfl) (.alloc (cs := [.int .i64 0, .int .i64 0, .int .i64 0, .slice none 0 0, .slice none 0 0, .int .i64 0, .int .i64 0, .int .i64 0, .slice none 0 0, .slice none 0 0]) Go.Proofs.Try.zeroValue42 rfl) ?_
    rintro _ _ ⟨b7, rfl, rfl⟩
    refine O.opU rfl (.storeObj (by kernel_rfl) rfl rfl rfl rfl (by repeat (first | exact Sel.here | apply Sel.there)) (by first | (simp; done) | (simp [Value.cells]; done))) ?_
    refine O.nil ?_
    refine S.region rfl ?_
    refine O.op (.p rfl) (.mv rfl) ?_
    refine O.op (.p rfl) (.loadObjAgg (news := [_, _, _, _, _, _, _, _, _, _]) Go.Proofs.Try.isAgg42 (by kernel_rfl) rfl (by repeat (first | exact Sel.here | apply Sel.there)) rfl) ?_
    refine O.callPS (.p rfl) rfl FactImg4.ok21 rfl rfl (by repeat (first | exact Sel.here | apply Sel.there)) (wproof_c hr20 (by omega) (by omega)) (fun ch η' w hX hW => by (obtain ⟨hb, rfl, rfl⟩ := hX; exact hR _ _ w ⟨hgo.trans (foldlM_take evdStep s0 l (i + 1) (hnx.trans hb)), rfl, rfl⟩ hW.drop_all)) ?_
    rintro v24 _ ⟨rfl, t24, hst, rfl⟩
    try simp only [List.cons_append, List.nil_append, List.append_nil]
    refine O.nil ?_
    refine S.inBlock (S.region rfl ?_)
    refine O.op (.p rfl) (.add rfl rfl (IntWalk.i64_in _ (by omega))) ?_
    refine O.op (.p rfl) (.mv rfl) ?_
    refine O.nil ?_
    refine S.pk ?_ (S.weaken ?_ (ih (i + 1) (t24) (by exact ⟨by omega, hnx.trans hst⟩) (by omega)))
    · repeat (first | exact Picks.all | exact Picks.nil | (apply Picks.cons; focus (repeat (first | exact Sel.here | apply Sel.there))) | apply Picks.skip)
    repeat (first | exact Sub.nil | refine Sub.cons rfl ?_)
  · clear ih
    have hi : i = l.length := by omega
    subst hi
    rw [List.take_length] at hx2
    refine S.exit rfl ?_
    refine S.end0 Go.Proofs.Try.results20 fun w hw => Holds.end_ hR hw ?_
    exact ⟨_, ⟨rfl, t, hgo.trans hx2, rfl⟩, by repeat (first | exact Picks.all | exact Picks.nil | (apply Picks.cons; focus (repeat (first | exact Sel.here | apply Sel.there))) | apply Picks.skip)⟩
theorem rowsS_c {r : Fr} {b : Nat} {s : WSt} {va : Value} {l : List Int} (ha : Arr Rp.i64 r va l)  (hn : l.length ≤ 3000) (hb : s.out.length ≤ 100000000000000) (hs : s.seen.length ≤ 10000) :
    Con Go.Proofs.Try.prog 22 #[.pointer (some ⟨b, 0, none⟩), va, .func (.func 23) #[.pointer (some ⟨b, 0, none⟩)] #[]] r [WrB b s] (RetP (fun v η => v = .tuple #[] ∧ ∃ s', rowSteps shutStep s l = some s' ∧ η = [WrB b s']) (fun ch η => rowSteps shutStep s l = none ∧ ch = errP 33 4 ∧ η = [])) := by
  have har := ha
  refine Con.of (n := 26) [.pointer (some ⟨b, 0, none⟩), va, .func (.func 23) #[.pointer (some ⟨b, 0, none⟩)] #[]] rfl Go.Proofs.Try.func22 rfl rfl rfl fun g hg R hR => ?_
  have ha := ha.mono hg
  have hbd := ha.bound
  obtain ⟨a1, c1, rfl⟩ := ha.shape
  have hfl : [be l.length].flatten = be l.length := by simp
  refine S.open (A := WrB b s) (by repeat (first | exact Sel.here | apply Sel.there)) (fun m x => x) fun p => ?_
  simp only [List.cons_append, List.nil_append]
  refine S.seq (S.regionD (L := [0, 1, 2, 3, 4, 5, 6, 7]) FactImg4.mixed (by kernel_rfl) ?_)
  refine .quiet (.p rfl) rfl (fun _ => .mv rfl) ?_
  refine .quiet (.p rfl) rfl (fun _ => .nilCheck rfl) ?_
  refine .quiet (.p rfl) rfl (fun _ => .fieldObj FactImg4.fld56x0 rfl) ?_
  refine .quiet (.p rfl) rfl (fun _ => .mv rfl) ?_
  refine .quiet (.p rfl) rfl (fun _ => .len rfl Go.Proofs.Try.underlying25 rfl) ?_
  refine OD.call0 (.p rfl) (by kernel_rfl) rfl FactImg4.ok26 rfl rfl (wNumber_c _) ?_
  rintro v13 _ ⟨a13, c13, rfl, rfl⟩
  try simp only [List.cons_append, List.nil_append, List.append_nil]
  refine OD.litP (T := Rp.val) (ys := [_]) (.p rfl) (by kernel_rfl) Go.Proofs.Try.underlying79 FactImg4.elem32 (by decide) rfl rfl ⟨⟨rfl, rfl⟩, trivial⟩ (by decide) (fun a14 c14 => ?_)
  refine OD.callSs (.p rfl) (by kernel_rfl) rfl FactImg4.ok25 rfl rfl (by repeat (first | exact Sels.nil | (apply Sels.cons; focus (repeat (first | exact Sel.here | apply Sel.there))))) (Con.lentW (η := [obj b 56 [.slice p.1.1.1 s.out.length p.1.1.2, .string (str s.key), .int .i64 s.rep, .int .i64 s.shard, .int .i64 p.2.1, .slice p.2.2.1.1 p.2.2.1.2.1 p.2.2.1.2.2, .slice p.2.2.2.1 p.2.2.2.2.1 p.2.2.2.2.2, .int .i64 s.last, .slice p.1.2.1 s.seen.length p.1.2.2], OwnP Rp.u8 5 (.slice p.1.1.1 s.out.length p.1.1.2) s.out]) (bs := [OwnP Rp.val 32 (.slice a14 1 c14) [.slice a13 8 c13], OwnP Rp.u8 5 (.slice a13 8 c13) (be l.length)]) (fun m hm hd => bput_c (xss := [be l.length]) ((hm.arr.right hd).rows ⟨hm.tail.arr.right hd, trivial⟩) (by rw [hfl]; simp; omega) rfl)) ?_
  rintro v15 _ ⟨_, ⟨a15, c15, rfl, rfl⟩, rfl⟩
  try simp only [List.cons_append, List.nil_append, List.append_nil]
  rw [hfl]
  refine .nil ?_
  refine S.seq ?_
  generalize hs0 : ({ s with out := s.out ++ be l.length } : WSt) = s0
  have hs1 : s0.out.length = s.out.length + 8 := by rw [← hs0]; simp
  have hs2 : s0.seen.length = s.seen.length := by rw [← hs0]
  refine S.foldS (A := WrB b s0) (bs := [obj b 56 [.slice a15 (s.out ++ be l.length).length c15, .string (str s.key), .int .i64 s.rep, .int .i64 s.shard, .int .i64 p.2.1, .slice p.2.2.1.1 p.2.2.1.2.1 p.2.2.1.2.2, .slice p.2.2.2.1 p.2.2.2.2.1 p.2.2.2.2.2, .int .i64 s.last, .slice p.1.2.1 s.seen.length p.1.2.2], OwnP Rp.u8 5 (.slice a15 (s.out ++ be l.length).length c15) (s.out ++ be l.length), OwnP Rp.str 9 (.slice p.1.2.1 s.seen.length p.1.2.2) s.seen]) (by repeat (first | exact Sels.nil | (apply Sels.cons; focus (repeat (first | exact Sel.here | apply Sel.there))))) (fun m x => ⟨(((a15, c15), p.1.2), p.2), by rw [← hs0]; exact x⟩) ?_
  refine S.keep [WrB b s0] (by repeat (first | exact Picks.all | exact Picks.nil | (apply Picks.cons; focus (repeat (first | exact Sel.here | apply Sel.there))) | apply Picks.skip)) ?_
  have hle : ∀ i (s' : WSt), (l.take i).foldlM shutStep s0 = some s' → s'.out.length ≤ s0.out.length + 5000000 * (l.take i).length ∧ s'.seen.length ≤ s0.seen.length + (l.take i).length :=
    fun i s' h => steps_le shutStep _ _ _ (fun x hm t t' e => shutStep_le e) h
  have hgo : rowSteps shutStep s l = l.foldlM shutStep s0 := by rw [← hs0]; rfl
  refine S.region rfl ?_
  refine O.op (.p rfl) (.mv rfl) ?_
  refine O.op (.p rfl) (.len rfl Go.Proofs.Try.underlying25 rfl) ?_
  refine O.op (.p rfl) (.mv rfl) ?_
  refine O.nil ?_
  refine S.block ?_
  refine S.loopK2 (ι := Nat) (κ := WSt) (fun i t => i ≤ l.length ∧ (l.take i).foldlM shutStep s0 = some t) (fun i t => [(18, .int .i64 (i : Int))]) [(2, _), (16, _), (17, _)] (fun i t => [WrB b t]) (fun i t => l.length - i) (0) (s0) (by exact ⟨by simp, by simp⟩) (.cons rfl (.nil)) (.cons rfl (.cons rfl (.cons rfl (.nil)))) rfl fun i t hx ih => ?_
  have hm1 := meltRefl (g := g)
  obtain ⟨hx1, hx2⟩ := hx
  have hle1 := hle i t hx2
  have hle2 : (l.take i).length ≤ 3000 := by rw [List.length_take]; omega
  refine S.seq (S.region rfl ?_)
  refine O.op (.p rfl) (.lss rfl rfl) ?_
  refine O.nil ?_
  refine S.seq ?_
  first | refine S.condD rfl (fun h19 => ?_) (fun h19 => ?_) | refine S.condB rfl (fun h19 => ?_) (fun h19 => ?_)
  · have hi : i < l.length := by omega
    have hnx := foldlM_next shutStep s0 t l i hi hx2
    refine S.skip (S.seq (S.block (S.seq (S.region rfl ?_))))
    refine O.idx' (.p rfl) Go.Proofs.Try.underlying25 FactImg4.size3 rfl rfl rfl (ha) (by decide) (by first | omega | (simp; done) | (simp; omega) | decide) (fun p20 cs20 hp20 hr20 => ?_)
    obtain ⟨rfl, hz20⟩ := hr20
    refine O.op (.p rfl) (.loadAt FactImg4.flat3 rfl hp20 rfl) ?_
    refine O.op (.p rfl) (.as rfl) ?_
    refine O.nil ?_
    refine S.region rfl ?_
    refine O.op (.p rfl) (.mv rfl) ?_
    refine O.op (.p rfl) (.mv rfl) ?_
    refine O.callPS (.p rfl) rfl FactImg4.ok23 rfl rfl (by repeat (first | exact Sel.here | apply Sel.there)) (wshut_c _ (by omega)) (fun ch η' w hX hW => by (obtain ⟨hb, rfl, rfl⟩ := hX; exact hR _ _ w ⟨hgo.trans (foldlM_take shutStep s0 l (i + 1) (hnx.trans hb)), rfl, rfl⟩ hW.drop_all)) ?_
    rintro v24 _ ⟨rfl, t24, hst, rfl⟩
    try simp only [List.cons_append, List.nil_append, List.append_nil]
    refine O.nil ?_
    refine S.inBlock (S.region rfl ?_)
    refine O.op (.p rfl) (.add rfl rfl (IntWalk.i64_in _ (by omega))) ?_
    refine O.op (.p rfl) (.mv rfl) ?_
    refine O.nil ?_
    refine S.pk ?_ (S.weaken ?_ (ih (i + 1) (t24) (by exact ⟨by omega, hnx.trans hst⟩) (by omega)))
    · repeat (first | exact Picks.all | exact Picks.nil | (apply Picks.cons; focus (repeat (first | exact Sel.here | apply Sel.there))) | apply Picks.skip)
    repeat (first | exact Sub.nil | refine Sub.cons rfl ?_)
  · clear ih
    have hi : i = l.length := by omega
    subst hi
    rw [List.take_length] at hx2
    refine S.exit rfl ?_
    refine S.end0 Go.Proofs.Try.results22 fun w hw => Holds.end_ hR hw ?_
    exact ⟨_, ⟨rfl, t, hgo.trans hx2, rfl⟩, by repeat (first | exact Picks.all | exact Picks.nil | (apply Picks.cons; focus (repeat (first | exact Sel.here | apply Sel.there))) | apply Picks.skip)⟩

end Go.Proofs.Ytodhbhanmdfdeaa
