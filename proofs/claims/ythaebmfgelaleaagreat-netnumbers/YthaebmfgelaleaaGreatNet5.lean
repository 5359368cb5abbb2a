import Derived.Test.YthaebmfgelaleaaGreatNet4
open Go Go.Sp
set_option maxRecDepth 100000
attribute [local irreducible] obj Own OwnP
namespace Go.Proofs.YthaebmfgelaleaaGreat
theorem FactNet5.flat33 : Go.Sp.flat1 Go.Proofs.Tryz.prog 33 = true := by kernel_rfl
theorem FactNet5.fld35x2 : fieldOff Go.Proofs.Tryz.prog 35 2 = some 2 := by kernel_rfl
theorem FactNet5.fld59x0 : fieldOff Go.Proofs.Tryz.prog 59 0 = some 0 := by kernel_rfl
theorem FactNet5.mixed : Go.Proofs.Tryz.prog.follows .mixedOrders = true := by kernel_rfl
theorem FactNet5.ok28 : callable Go.Proofs.Tryz.prog 28 = true := by kernel_rfl
theorem FactNet5.ok33 : callable Go.Proofs.Tryz.prog 33 = true := by kernel_rfl
theorem FactNet5.ok37 : callable Go.Proofs.Tryz.prog 37 = true := by kernel_rfl
theorem FactNet5.ok51 : callable Go.Proofs.Tryz.prog 51 = true := by kernel_rfl
theorem FactNet5.ok52 : callable Go.Proofs.Tryz.prog 52 = true := by kernel_rfl
theorem FactNet5.ok86 : callable Go.Proofs.Tryz.prog 86 = true := by kernel_rfl
theorem FactNet5.size35 : (Go.Proofs.Tryz.prog.info? 35).map (·.size) = some 3 := by kernel_rfl

def longP (p : Pkt) : Bool := decide (262144 < p.2.2.1.length)
theorem long1_c {r : Fr} {a b : Int} {v : Value} {xs : List UInt8} (ha : Arr Rp.u8 r v xs) : Con Go.Proofs.Tryz.prog 52 #[.agg #[.int .i64 a, .int .i64 b, v]] r [] (Ret fun u η => u = .bool (decide (262144 < xs.length)) ∧ η = []) := by
  refine Con.of (n := 7) [.agg #[.int .i64 a, .int .i64 b, v]] rfl Go.Proofs.Tryz.func52 rfl rfl rfl fun g hg R hR => ?_
  have ha := ha.mono hg
  obtain ⟨a1, c1, rfl⟩ := ha.shape
  refine S.seq (S.region rfl ?_)
  refine O.opE (.p rfl) (.box (cs := [_, _, _]) rfl rfl) ?_
  rintro _ _ ⟨b1, rfl, rfl⟩
  refine O.op (.p rfl) (.as rfl) ?_
  refine O.nil ?_
  refine S.seq (S.region rfl ?_)
  refine O.op (.p rfl) (.fieldObj FactNet5.fld35x2 rfl) ?_
  refine O.op (.p rfl) (.loadObj FactNet5.flat33 rfl (by repeat (first | exact Sel.here | apply Sel.there)) rfl) ?_
  refine O.op (.p rfl) (.len rfl Go.Proofs.Tryz.underlying33 rfl) ?_
  refine O.op (.p rfl) (.gtr rfl rfl) ?_
  refine O.slot 6 (v' := .bool (decide (262144 < xs.length))) rfl (by exact congrArg _ (decide_eq_decide.2 (by omega))) ?_
  refine O.op (.p rfl) (.as rfl) ?_
  refine O.nil ?_
  refine S.ret Go.Proofs.Tryz.results52 rfl fun w hw => Holds.end_ hR hw ?_
  exact ⟨_, ⟨rfl, rfl⟩, by repeat (first | exact Picks.all | exact Picks.nil | (apply Picks.cons; focus (repeat (first | exact Sel.here | apply Sel.there))) | apply Picks.skip)⟩
theorem pidxf_c {r : Fr} {va : Value} {l : List Pkt} (ha : Arr PktRp r va l) : Con Go.Proofs.Tryz.prog 86 #[va, .func (.func 52) #[] #[]] r [] (Ret fun v η => ∃ z, v = .int .i64 z ∧ (0 ≤ z ↔ l.any longP = true) ∧ η = []) := by
  refine Con.of (n := 19) [va, .func (.func 52) #[] #[]] rfl Go.Proofs.Tryz.func86 rfl rfl rfl fun g hg R hR => ?_
  have ha := ha.mono hg
  have hbd := ha.bound
  obtain ⟨a1, c1, rfl⟩ := ha.shape
  refine S.seq (S.region rfl ?_)
  refine O.op (.p rfl) (.as rfl) ?_
  refine O.nil ?_
  refine S.seq (S.seq (S.region rfl ?_))
  refine O.op (.p rfl) (.mv rfl) ?_
  refine O.op (.p rfl) (.len rfl Go.Proofs.Tryz.underlying29 rfl) ?_
  refine O.op (.p rfl) (.mv rfl) ?_
  refine O.nil ?_
  refine S.block ?_
  refine S.loopK (ι := Nat) (fun i => i ≤ l.length ∧ (l.take i).any longP = false) (fun i => [(8, .int .i64 (i : Int))]) [(0, _), (1, _), (7, _)] (fun i => []) (fun i => l.length - i) (0) (by simp) (.cons rfl (.nil)) (.cons rfl (.cons rfl (.cons rfl (.nil)))) rfl fun i hx ih => ?_
  have hm1 := meltRefl (g := g)
  obtain ⟨hx1, hx2⟩ := hx
  refine S.seq (S.region rfl ?_)
  refine O.op (.p rfl) (.lss rfl rfl) ?_
  refine O.nil ?_
  refine S.seq ?_
  first | refine S.condD rfl (fun h9 => ?_) (fun h9 => ?_) | refine S.condB rfl (fun h9 => ?_) (fun h9 => ?_)
  · have hi : i < l.length := by omega
    refine S.skip (S.seq (S.block (S.seq (S.region rfl ?_))))
    refine O.op (.p rfl) (.mv rfl) ?_
    refine O.op (.p rfl) (.as rfl) ?_
    refine O.nil ?_
    refine S.seq (S.region rfl ?_)
    refine O.op (.p rfl) (.mv rfl) ?_
    refine O.op (.p rfl) (.mv rfl) ?_
    refine O.op (.p rfl) (.mv rfl) ?_
    refine O.idx' (.p rfl) Go.Proofs.Tryz.underlying29 FactNet5.size35 rfl rfl rfl (by first | assumption | exact Arr.mono hg (by assumption) | exact Arr.left (by assumption) | exact Arr.left (Arr.mono hg (by assumption))) (by decide) (by first | omega | (simp; done) | (simp; omega) | decide) (fun p14 cs14 hp14 hr14 => ?_)
    obtain ⟨v14, rfl, hi14, hj14, ha14⟩ := PktRp.open hr14; obtain ⟨a14, c14, rfl⟩ := ha14.shape
    refine O.op (.p rfl) (.loadAgg Go.Proofs.Tryz.isAgg35 (by kernel_rfl) rfl hp14) ?_
    refine O.call0 (.p rfl) rfl FactNet5.ok52 rfl rfl ((long1_c ha14)) ?_
    rintro v16 _ ⟨rfl, rfl⟩
    try simp only [List.cons_append, List.nil_append, List.append_nil]
    refine O.nil ?_
    first | refine S.condD rfl (fun h16 => ?_) (fun h16 => ?_) | refine S.condB rfl (fun h16 => ?_) (fun h16 => ?_)
    · have hyes : longP l[i] = true := by simpa [longP] using h16
      clear ih
      refine S.seq (S.region rfl ?_)
      refine O.op (.p rfl) (.mv rfl) ?_
      refine O.op (.p rfl) (.as rfl) ?_
      refine O.nil ?_
      refine S.ret Go.Proofs.Tryz.results86 rfl fun w hw => Holds.end_ hR hw ?_
      exact ⟨_, ⟨_, rfl, by
        rw [List.any_eq_true]
        exact ⟨fun _ => ⟨l[i], List.getElem_mem hi, hyes⟩, fun _ => by omega⟩, rfl⟩, by repeat (first | exact Picks.all | exact Picks.nil | (apply Picks.cons; focus (repeat (first | exact Sel.here | apply Sel.there))) | apply Picks.skip)⟩
    · have hno : longP l[i] = false := by simpa [longP] using h16
      refine S.skip (S.inBlock (S.region rfl ?_))
      refine O.op (.p rfl) (.add rfl rfl (IntWalk.i64_in _ (by omega))) ?_
      refine O.op (.p rfl) (.mv rfl) ?_
      refine O.nil ?_
      refine S.weaken ?_ (ih (i + 1) (by exact ⟨by omega, by rw [List.take_succ_eq_append_getElem hi, List.any_append, hx2]; simp [hno]⟩) (by omega))
      repeat (first | exact Sub.nil | refine Sub.cons rfl ?_)
  · clear ih
    have hi : i = l.length := by omega
    subst hi
    rw [List.take_length] at hx2
    refine S.exit rfl ?_
    refine S.seq (S.region rfl ?_)
    refine O.op (.p rfl) (.as rfl) ?_
    refine O.nil ?_
    refine S.ret Go.Proofs.Tryz.results86 rfl fun w hw => Holds.end_ hR hw ?_
    exact ⟨_, ⟨_, rfl, by rw [hx2]; simp, rfl⟩, by repeat (first | exact Picks.all | exact Picks.nil | (apply Picks.cons; focus (repeat (first | exact Sel.here | apply Sel.there))) | apply Picks.skip)⟩
theorem pcontf_c {r : Fr} {va : Value} {l : List Pkt} (ha : Arr PktRp r va l) : Con Go.Proofs.Tryz.prog 51 #[va, .func (.func 52) #[] #[]] r [] (Ret fun v η => v = .bool (l.any longP) ∧ η = []) := by
  refine Con.of (n := 9) [va, .func (.func 52) #[] #[]] rfl Go.Proofs.Tryz.func51 rfl rfl rfl fun g hg R hR => ?_
  have ha := ha.mono hg
  refine S.seq (S.region rfl ?_)
  refine O.op (.p rfl) (.as rfl) ?_
  refine O.nil ?_
  refine S.seq (S.region rfl ?_)
  refine O.op (.p rfl) (.mv rfl) ?_
  refine O.op (.p rfl) (.mv rfl) ?_
  refine O.call0 (.p rfl) rfl FactNet5.ok86 rfl rfl ((pidxf_c ha)) ?_
  rintro v7 _ ⟨z, rfl, hz, rfl⟩
  try simp only [List.cons_append, List.nil_append, List.append_nil]
  refine O.op (.p rfl) (.geq rfl rfl) ?_
  refine O.op (.p rfl) (.as rfl) ?_
  refine O.nil ?_
  refine S.ret Go.Proofs.Tryz.results51 rfl fun w hw => Holds.end_ hR hw ?_
  exact ⟨_, ⟨congrArg Value.bool (by by_cases h : 0 ≤ z; · rw [decide_eq_true h, hz.1 h]
                                     · rw [decide_eq_false h]; cases hq : l.any longP with
                                       | true => exact absurd (hz.2 hq) h
                                       | false => rfl), rfl⟩, by repeat (first | exact Picks.all | exact Picks.nil | (apply Picks.cons; focus (repeat (first | exact Sel.here | apply Sel.there))) | apply Picks.skip)⟩
theorem long_c {r : Fr} {va : Value} {l : List Pkt} (ha : Arr PktRp r va l) : Con Go.Proofs.Tryz.prog 37 #[va] r [] (Ret fun v η => v = .bool (l.any longP) ∧ η = []) := by
  refine Con.of (n := 5) [va] rfl Go.Proofs.Tryz.func37 rfl rfl rfl fun g hg R hR => ?_
  have ha := ha.mono hg
  refine S.seq (S.region rfl ?_)
  refine O.op (.p rfl) (.as rfl) ?_
  refine O.nil ?_
  refine S.seq (S.region rfl ?_)
  refine O.op (.p rfl) (.mv rfl) ?_
  refine O.call0 (.p rfl) rfl FactNet5.ok51 rfl rfl ((pcontf_c ha)) ?_
  rintro v4 _ ⟨rfl, rfl⟩
  try simp only [List.cons_append, List.nil_append, List.append_nil]
  refine O.op (.p rfl) (.as rfl) ?_
  refine O.nil ?_
  refine S.ret Go.Proofs.Tryz.results37 rfl fun w hw => Holds.end_ hR hw ?_
  exact ⟨_, ⟨rfl, rfl⟩, by repeat (first | exact Picks.all | exact Picks.nil | (apply Picks.cons; focus (repeat (first | exact Sel.here | apply Sel.there))) | apply Picks.skip)⟩
def sendsL (ls : NetM) (ps : List Pkt) : NetM := ps.foldl sendL ls
def anyFull : NetM → List Pkt → Bool
  | _, [] => false
  | ls, p :: ps => fullL ls p || anyFull (sendL ls p) ps
theorem anyFull_snoc (ps : List Pkt) (p : Pkt) : ∀ ls : NetM, anyFull ls (ps ++ [p]) = (anyFull ls ps || fullL (sendsL ls ps) p) := by
  induction ps with
  | nil => intro ls; simp [anyFull, sendsL]
  | cons q ps ih => intro ls; simp only [List.cons_append, anyFull, ih, sendsL, List.foldl_cons, Bool.or_assoc]
/-- what Send tells, and leaves -/
def sendE (ls : NetM) (ps : List Pkt) : Int := if ps.any longP then 3 else if anyFull ls ps then 8 else 0
def sendM (ls : NetM) (ps : List Pkt) : NetM := if ps.any longP then ls else sendsL ls ps
theorem send_g {r : Fr} {d b : Nat} {ls : NetM} {ps : List Pkt} {va : Value} (hat : At r ⟨d, 0, none⟩ [.map (some b)]) (ha : Arr PktRp r va ps) :
    Con Go.Proofs.Tryz.prog 16 #[.pointer (some ⟨d, 0, none⟩), va] r [linksW b ls] (Ret fun u η => u = .int .i64 (sendE ls ps) ∧ η = [linksW b (sendM ls ps)]) := by
  refine Con.of (n := 29) [.pointer (some ⟨d, 0, none⟩), va] rfl Go.Proofs.Tryz.func16 rfl rfl rfl fun g hg R hR => ?_
  replace hat : At g.h ⟨d, 0, none⟩ [.map (some b)] := At.mono hg hat
  have ha := ha.mono hg
  have hbd := ha.bound
  obtain ⟨a1, c1, rfl⟩ := ha.shape
  refine S.seq (S.region rfl ?_)
  refine O.op (.p rfl) (.as rfl) ?_
  refine O.nil ?_
  refine S.seq (S.block (S.seq (S.region rfl ?_)))
  refine O.op (.p rfl) (.mv rfl) ?_
  refine O.call0 (.p rfl) rfl FactNet5.ok28 rfl rfl (known_g (by assumption)) ?_
  rintro v10 _ ⟨rfl, rfl⟩
  try simp only [List.cons_append, List.nil_append, List.append_nil]
  refine O.op (.p rfl) (.not rfl) ?_
  refine O.op (.p rfl) (.as rfl) ?_
  refine O.nil ?_
  refine S.condF rfl ?_
  refine S.seq (S.region rfl ?_)
  refine O.op (.p rfl) (.mv rfl) ?_
  refine O.call0 (.p rfl) rfl FactNet5.ok37 rfl rfl (long_c (by first | assumption | exact Arr.mono hg (by assumption) | exact Arr.left (by assumption) | exact Arr.left (Arr.mono hg (by assumption)))) ?_
  rintro v14 _ ⟨rfl, rfl⟩
  try simp only [List.cons_append, List.nil_append, List.append_nil]
  refine O.op (.p rfl) (.as rfl) ?_
  refine O.nil ?_
  first | refine S.condD rfl (fun h12 => ?_) (fun h12 => ?_) | refine S.condB rfl (fun h12 => ?_) (fun h12 => ?_)
  · have hlg : ps.any longP = true := h12
    refine S.seq (S.region rfl ?_)
    refine O.op (.p rfl) (.as rfl) ?_
    refine O.nil ?_
    refine S.ret Go.Proofs.Tryz.results16 rfl fun w hw => Holds.end_ hR hw ?_
    exact ⟨_, ⟨by rw [sendE, if_pos hlg], by rw [sendM, if_pos hlg]⟩, by repeat (first | exact Picks.all | exact Picks.nil | (apply Picks.cons; focus (repeat (first | exact Sel.here | apply Sel.there))) | apply Picks.skip)⟩
  · have hlg : ¬ ps.any longP = true := by rw [h12]; simp
    have e1 : sendE ls ps = if anyFull ls ps then 8 else 0 := by rw [sendE, if_neg hlg]
    have e2 : sendM ls ps = sendsL ls ps := by rw [sendM, if_neg hlg]
    have hshort : ∀ i (h : i < ps.length), ps[i].2.2.1.length ≤ 262144 := fun i h => by
      have : ¬ longP ps[i] = true := fun q => hlg (List.any_eq_true.2 ⟨ps[i], List.getElem_mem h, q⟩)
      simpa [longP] using this
    refine S.skip (S.inBlock (S.seq (S.region rfl ?_)))
    refine O.op (.p rfl) (.as rfl) ?_
    refine O.nil ?_
    refine S.seq (S.seq (S.region rfl ?_))
    refine O.op (.p rfl) (.mv rfl) ?_
    refine O.op (.p rfl) (.len rfl Go.Proofs.Tryz.underlying29 rfl) ?_
    refine O.op (.p rfl) (.mv rfl) ?_
    refine O.nil ?_
    refine S.block ?_
    refine S.slot 5 (v' := .int .i64 (if anyFull ls (ps.take 0) then 8 else 0)) rfl (by simp [anyFull]) ?_
    refine S.loopK (ι := Nat) (fun i => i ≤ ps.length) (fun i => [(17, .int .i64 (i : Int)), (5, .int .i64 (if anyFull ls (ps.take i) then 8 else 0))]) [(0, _), (15, _), (16, _)] (fun i => [linksW b (sendsL ls (ps.take i))]) (fun i => ps.length - i) (0) (by simp) (.cons rfl (.cons rfl (.nil))) (.cons rfl (.cons rfl (.cons rfl (.nil)))) rfl fun i hx ih => ?_
    have hm1 := meltRefl (g := g)
    refine S.seq (S.region rfl ?_)
    refine O.op (.p rfl) (.lss rfl rfl) ?_
    refine O.nil ?_
    refine S.seq ?_
    first | refine S.condD rfl (fun h18 => ?_) (fun h18 => ?_) | refine S.condB rfl (fun h18 => ?_) (fun h18 => ?_)
    · have hi : i < ps.length := by omega
      have hs := hshort i hi
      have ht : ps.take (i + 1) = ps.take i ++ [ps[i]] := List.take_succ_eq_append_getElem hi
      have hss : sendsL ls (ps.take (i + 1)) = sendL (sendsL ls (ps.take i)) ps[i] := by unfold sendsL; rw [ht, List.foldl_append]; rfl
      have hff : anyFull ls (ps.take (i + 1)) = (anyFull ls (ps.take i) || fullL (sendsL ls (ps.take i)) ps[i]) := by rw [ht, anyFull_snoc]
      refine S.skip (S.seq (S.block (S.seq (S.region rfl ?_))))
      refine O.idx' (.p rfl) Go.Proofs.Tryz.underlying29 FactNet5.size35 rfl rfl rfl (by first | assumption | exact Arr.mono hg (by assumption) | exact Arr.left (by assumption) | exact Arr.left (Arr.mono hg (by assumption))) (by decide) (by first | omega | (simp; done) | (simp; omega) | decide) (fun p19 cs19 hp19 hr19 => ?_)
      obtain ⟨v19, rfl, hi19, hj19, ha19⟩ := PktRp.open hr19; obtain ⟨a19, c19, rfl⟩ := ha19.shape
      refine O.op (.p rfl) (.loadAgg Go.Proofs.Tryz.isAgg35 (by kernel_rfl) rfl hp19) ?_
      refine O.opE (.p rfl) (.alloc (cs := [.int .i64 0, .int .i64 0, .slice none 0 0]) Go.Proofs.Tryz.zeroValue35 rfl) ?_
      rintro _ _ ⟨b7, rfl, rfl⟩
      refine O.opU rfl (.storeObj (by kernel_rfl) rfl rfl rfl rfl (by repeat (first | exact Sel.here | apply Sel.there)) (by first | (simp; done) | (simp [Value.cells]; done))) ?_
      refine O.nil ?_
      refine S.seq ?_
      refine S.frzO (by repeat (first | exact Sel.here | apply Sel.there)) fun g hs hm h7 => ?_
      replace hg := Fr.sub_trans hg hs
      replace hR := melted hR hm
      try replace hat := hat.mono hs
      try replace ha := ha.mono hs
      try replace hp19 := hp19.mono hs
      try replace ha19 := ha19.mono hs
      try replace ha19 := ha19.mono hs
      replace hm1 := meltTrans hm1 hm
      clear hs hm
      refine S.regionD (L := [0, 1, 2, 3, 4, 5]) FactNet5.mixed (by kernel_rfl) ?_
      refine .quiet (.p rfl) rfl (fun _ => .mv rfl) ?_
      refine .quiet (.p rfl) rfl (fun _ => .nilCheck rfl) ?_
      refine .quiet (.p rfl) rfl (fun _ => .fieldAddr FactNet5.fld59x0 rfl) ?_
      refine .quiet (.p rfl) rfl (fun _ => .loadAgg Go.Proofs.Tryz.isAgg35 (by kernel_rfl) rfl h7) ?_
      refine OD.callS (.p rfl) (by kernel_rfl) rfl FactNet5.ok33 rfl rfl (by repeat (first | exact Sel.here | apply Sel.there)) (put_g (p := ps[i]) hat ha19 hi19 hj19 (by omega)) ?_
      rintro v25 _ ⟨rfl, rfl⟩
      try simp only [List.cons_append, List.nil_append, List.append_nil]
      refine .quiet (.p rfl) rfl (fun _ => (by first | exact .notD rfl | exact .not rfl)) ?_
      refine .nil ?_
      first | refine S.condD rfl (fun h26 => ?_) (fun h26 => ?_) | refine S.condB rfl (fun h26 => ?_) (fun h26 => ?_)
      · have hf : fullL (sendsL ls (ps.take i)) ps[i] = true := by simpa using h26
        refine S.region rfl ?_
        refine O.op (.p rfl) (.as rfl) ?_
        refine O.nil ?_
        refine S.inBlock (S.region rfl ?_)
        refine O.op (.p rfl) (.add rfl rfl (IntWalk.i64_in _ (by omega))) ?_
        refine O.op (.p rfl) (.mv rfl) ?_
        refine O.nil ?_
        refine S.slot 5 (v' := .int .i64 (if anyFull ls (ps.take (i + 1)) then 8 else 0)) rfl (by rw [hff, hf]; simp) ?_
        rw [← hss]
        refine S.melt hm1 (S.weaken ?_ (ih (i + 1) (by omega) (by omega)))
        repeat (first | exact Sub.nil | refine Sub.cons rfl ?_)
      · have hf : fullL (sendsL ls (ps.take i)) ps[i] = false := by simpa using h26
        refine S.skip (S.inBlock (S.region rfl ?_))
        refine O.op (.p rfl) (.add rfl rfl (IntWalk.i64_in _ (by omega))) ?_
        refine O.op (.p rfl) (.mv rfl) ?_
        refine O.nil ?_
        refine S.slot 5 (v' := .int .i64 (if anyFull ls (ps.take (i + 1)) then 8 else 0)) rfl (by rw [hff, hf]; simp) ?_
        rw [← hss]
        refine S.melt hm1 (S.weaken ?_ (ih (i + 1) (by omega) (by omega)))
        repeat (first | exact Sub.nil | refine Sub.cons rfl ?_)
    · clear ih
      have hi : i = ps.length := by omega
      subst hi
      rw [List.take_length]
      refine S.exit rfl ?_
      refine S.seq (S.region rfl ?_)
      refine O.op (.p rfl) (.mv rfl) ?_
      refine O.op (.p rfl) (.as rfl) ?_
      refine O.nil ?_
      refine S.ret Go.Proofs.Tryz.results16 rfl fun w hw => Holds.end_ hR hw ?_
      exact ⟨_, ⟨by rw [e1], by rw [e2]⟩, by repeat (first | exact Picks.all | exact Picks.nil | (apply Picks.cons; focus (repeat (first | exact Sel.here | apply Sel.there))) | apply Picks.skip)⟩
theorem send_0 {r : Fr} {va : Value} : Con Go.Proofs.Tryz.prog 16 #[.pointer none, va] r [] (Ret fun u η => u = .int .i64 1 ∧ η = []) := by
  refine Con.of (n := 29) [.pointer none, va] rfl Go.Proofs.Tryz.func16 rfl rfl rfl fun g hg R hR => ?_
  refine S.seq (S.region rfl ?_)
  refine O.op (.p rfl) (.as rfl) ?_
  refine O.nil ?_
  refine S.seq (S.block (S.seq (S.region rfl ?_)))
  refine O.op (.p rfl) (.mv rfl) ?_
  refine O.call0 (.p rfl) rfl FactNet5.ok28 rfl rfl ((known_0)) ?_
  rintro v10 _ ⟨rfl, rfl⟩
  try simp only [List.cons_append, List.nil_append, List.append_nil]
  refine O.op (.p rfl) (.not rfl) ?_
  refine O.op (.p rfl) (.as rfl) ?_
  refine O.nil ?_
  refine S.condT rfl ?_
  refine S.seq (S.region rfl ?_)
  refine O.op (.p rfl) (.as rfl) ?_
  refine O.nil ?_
  refine S.ret Go.Proofs.Tryz.results16 rfl fun w hw => Holds.end_ hR hw ?_
  exact ⟨_, ⟨rfl, rfl⟩, by repeat (first | exact Picks.all | exact Picks.nil | (apply Picks.cons; focus (repeat (first | exact Sel.here | apply Sel.there))) | apply Picks.skip)⟩
theorem send_n {r : Fr} {d : Nat} {va : Value} (hat : At r ⟨d, 0, none⟩ [.map none]) : Con Go.Proofs.Tryz.prog 16 #[.pointer (some ⟨d, 0, none⟩), va] r [] (Ret fun u η => u = .int .i64 1 ∧ η = []) := by
  refine Con.of (n := 29) [.pointer (some ⟨d, 0, none⟩), va] rfl Go.Proofs.Tryz.func16 rfl rfl rfl fun g hg R hR => ?_
  replace hat : At g.h ⟨d, 0, none⟩ [.map none] := At.mono hg hat
  refine S.seq (S.region rfl ?_)
  refine O.op (.p rfl) (.as rfl) ?_
  refine O.nil ?_
  refine S.seq (S.block (S.seq (S.region rfl ?_)))
  refine O.op (.p rfl) (.mv rfl) ?_
  refine O.call0 (.p rfl) rfl FactNet5.ok28 rfl rfl ((known_n hat)) ?_
  rintro v10 _ ⟨rfl, rfl⟩
  try simp only [List.cons_append, List.nil_append, List.append_nil]
  refine O.op (.p rfl) (.not rfl) ?_
  refine O.op (.p rfl) (.as rfl) ?_
  refine O.nil ?_
  refine S.condT rfl ?_
  refine S.seq (S.region rfl ?_)
  refine O.op (.p rfl) (.as rfl) ?_
  refine O.nil ?_
  refine S.ret Go.Proofs.Tryz.results16 rfl fun w hw => Holds.end_ hR hw ?_
  exact ⟨_, ⟨rfl, rfl⟩, by repeat (first | exact Picks.all | exact Picks.nil | (apply Picks.cons; focus (repeat (first | exact Sel.here | apply Sel.there))) | apply Picks.skip)⟩

end Go.Proofs.YthaebmfgelaleaaGreat
