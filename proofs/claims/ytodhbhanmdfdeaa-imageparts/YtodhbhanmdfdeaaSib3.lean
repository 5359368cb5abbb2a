import Derived.Test.YtodhbhanmdfdeaaSib2
open Go Go.Sp
set_option maxRecDepth 100000
attribute [local irreducible] obj Own OwnP
namespace Go.Proofs.Ytodhbhanmdfdeaa
theorem FactSib3.flat84 : Go.Sp.flat1 Go.Proofs.Try.prog 84 = true := by kernel_rfl
theorem FactSib3.fld86x0 : fieldOff Go.Proofs.Try.prog 86 0 = some 0 := by kernel_rfl
theorem FactSib3.mixed : Go.Proofs.Try.prog.follows .mixedOrders = true := by kernel_rfl
theorem FactSib3.ok47 : callable Go.Proofs.Try.prog 47 = true := by kernel_rfl
theorem FactSib3.ok48 : callable Go.Proofs.Try.prog 48 = true := by kernel_rfl
theorem FactSib3.ok49 : callable Go.Proofs.Try.prog 49 = true := by kernel_rfl
theorem FactSib3.ok50 : callable Go.Proofs.Try.prog 50 = true := by kernel_rfl
theorem FactSib3.ok60 : callable Go.Proofs.Try.prog 60 = true := by kernel_rfl
theorem FactSib3.ok61 : callable Go.Proofs.Try.prog 61 = true := by kernel_rfl
theorem FactSib3.size88 : (Go.Proofs.Try.prog.info? 88).map (·.size) = some 8 := by kernel_rfl

theorem sunder_c {r : Fr} {b : Nat} {xs : List RecT} {cs : List Value} {x : RecT} (hrow : RowA r b xs) (h : ItRp.rel r cs x) :
    Con Go.Proofs.Try.prog 50 #[.pointer (some ⟨b, 0, none⟩), .agg cs.toArray] r [] (Ret fun v η => v = .bool (underR xs x) ∧ η = []) := by
  obtain ⟨xa3, xa5, xa6, xa7, xc3, xc5, xc6, xc7, rfl, hx1, _⟩ := ItRp.sh h
  obtain ⟨qa, qc, hat, har⟩ := hrow
  refine Con.of (n := 11) [.pointer (some ⟨b, 0, none⟩), .agg #[.string (str x.1), .int .i64 x.2.1, .int .i64 x.2.2.1, .slice xa3 x.2.2.2.1.length xc3, .bool x.2.2.2.2.1, .slice xa5 x.2.2.2.2.2.1.length xc5, .slice xa6 x.2.2.2.2.2.2.1.length xc6, .slice xa7 (recB x).length xc7]] rfl Go.Proofs.Try.func50 rfl rfl rfl fun g hg R hR => ?_
  have h := h.mono hg
  have hat := hat.mono hg
  have har := har.mono hg
  refine S.seq (S.region rfl ?_)
  refine O.opE (.p rfl) (.box (cs := [_, _, _, _, _, _, _, _]) rfl rfl) ?_
  rintro _ _ ⟨b3, rfl, rfl⟩
  refine O.op (.p rfl) (.as rfl) ?_
  refine O.nil ?_
  refine S.seq ?_
  refine S.frzO (by repeat (first | exact Sel.here | apply Sel.there)) fun g hs hm hb3 => ?_
  replace hg := Fr.sub_trans hg hs
  replace hR := melted hR hm
  try replace h := h.mono hs
  try replace hat := hat.mono hs
  try replace har := har.mono hs
  clear hs hm
  refine S.region rfl ?_
  refine O.op (.p rfl) (.mv rfl) ?_
  refine O.op (.p rfl) (.nilCheck rfl) ?_
  refine O.op (.p rfl) (.fieldAddr FactSib3.fld86x0 rfl) ?_
  refine O.op (.p rfl) (.loadAt FactSib3.flat84 rfl hat rfl) ?_
  refine O.op (.p rfl) (.mkFunc rfl rfl) ?_
  refine O.call0 (.p rfl) rfl FactSib3.ok60 rfl rfl ((containsIt_c har FactSib3.ok61 (fun y => decide (cmpR x y ≠ 0) && over y x) (fun cs y hy hr => under1_c hb3 h hr) rfl)) ?_
  rintro v10 _ ⟨rfl, rfl⟩
  try simp only [List.cons_append, List.nil_append, List.append_nil]
  refine O.op (.p rfl) (.as rfl) ?_
  refine O.nil ?_
  refine S.ret Go.Proofs.Try.results50 rfl fun w hw => Holds.end_ hR hw ?_
  exact ⟨_, ⟨rfl, rfl⟩, by repeat (first | exact Picks.all | exact Picks.nil | (apply Picks.cons; focus (repeat (first | exact Sel.here | apply Sel.there))) | apply Picks.skip)⟩
theorem rowOf_c {r : Fr} {va : Value} {xs : List RecT} (ha : Arr RecRp r va xs) (hl : xs.length ≤ 100000000000) :
    Con Go.Proofs.Try.prog 37 #[va] r [] (RetP (fun v η => SRight xs ∧ ∃ b, v = .pointer (some ⟨b, 0, none⟩) ∧ η = [RowP r 86 88 5 b xs]) (fun ch η => ¬ SRight xs ∧ ch = shp ∧ η = [])) := by
  have har := ha
  refine Con.of (n := 45) [va] rfl Go.Proofs.Try.func37 rfl rfl rfl fun g hg R hR => ?_
  have ha := ha.mono hg
  obtain ⟨a1, c1, rfl⟩ := ha.shape
  refine S.seq (S.region rfl ?_)
  refine O.op (.p rfl) (.as rfl) ?_
  refine O.nil ?_
  refine S.seq (S.region rfl ?_)
  refine O.op (.p rfl) (.build (cs := [_]) Go.Proofs.Try.underlying86 rfl rfl rfl rfl rfl) ?_
  refine O.opE (.p rfl) (.box (cs := [_]) rfl rfl) ?_
  rintro _ _ ⟨b7, rfl, rfl⟩
  refine O.op (.p rfl) (.as rfl) ?_
  refine O.nil ?_
  refine S.seq ?_
  refine S.conv (B := obj b7 86 [.slice none 0 0]) (C := RowP r 86 88 5 b7 []) (by repeat (first | exact Sel.here | apply Sel.there)) (fun m x => ⟨m, Fr.sub_refl _, RowP.nil x⟩) ?_
  refine S.region rfl ?_
  refine O.op (.p rfl) (.mv rfl) ?_
  refine O.op (.p rfl) (.mv rfl) ?_
  refine O.callPS (.p rfl) rfl FactSib3.ok47 rfl rfl (by repeat (first | exact Sel.here | apply Sel.there)) ((sadd_c har rfl (by simpa using hl)).sub hg) (fun ch η' w hX hW => by (obtain ⟨hb, rfl, rfl⟩ := hX; exact hR _ _ w ⟨fun q => (by rw [List.nil_append, q.1] at hb; cases hb), rfl, rfl⟩ hW.drop_all)) ?_
  rintro v10 _ ⟨hone, rfl, rfl⟩
  try simp only [List.cons_append, List.nil_append, List.append_nil]
  refine O.nil ?_
  refine S.seq (S.seq ?_)
  rw [List.nil_append] at hone
  have hg_q := hg
  have hR_q := hR
  try have ha_q := ha
  refine S.frzH (B := RowP r 86 88 5 b7 xs) (by repeat (first | exact Sel.here | apply Sel.there)) fun gq hsq ⟨mq, hmq, hsmq⟩ hbq => ?_
  replace hg := Fr.sub_trans hg hsq
  replace hR := backR hR hbq
  try replace ha := ha.mono hsq
  have hrow := RowP.read hg hsmq hmq
  obtain ⟨qa, qc, hqat, hqar⟩ := id hrow
  refine S.region rfl ?_
  refine O.op (.p rfl) (.mv rfl) ?_
  refine O.op (.p rfl) (.nilCheck rfl) ?_
  refine O.op (.p rfl) (.fieldAddr FactSib3.fld86x0 rfl) ?_
  refine O.op (.p rfl) (.loadAt FactSib3.flat84 rfl hqat rfl) ?_
  refine O.op (.p rfl) (.len rfl Go.Proofs.Try.underlying84 rfl) ?_
  refine O.op (.p rfl) (.mv rfl) ?_
  refine O.nil ?_
  refine S.block ?_
  refine S.loopK (ι := Nat) (fun i => i ≤ xs.length ∧ ∀ j (h : j < xs.length), j < i → (∀ h0 : 0 < j, cmpR xs[j-1] xs[j] < 0) ∧ underR xs xs[j] = false) (fun i => [(16, .int .i64 (i : Int))]) [(3, _), (14, _), (15, _)] (fun i => []) (fun i => xs.length - i) (0) (by exact ⟨by simp, fun j _ h => absurd h (by omega)⟩) (.cons rfl (.nil)) (.cons rfl (.cons rfl (.cons rfl (.nil)))) rfl fun i hx ih => ?_
  have hm1 := meltRefl (g := gq)
  obtain ⟨hx1, hx2⟩ := hx
  refine S.seq (S.region rfl ?_)
  refine O.op (.p rfl) (.lss rfl rfl) ?_
  refine O.nil ?_
  refine S.seq ?_
  first | refine S.condD rfl (fun h17 => ?_) (fun h17 => ?_) | refine S.condB rfl (fun h17 => ?_) (fun h17 => ?_)
  · have hi : i < xs.length := by omega
    have hnext : ((∀ h0 : 0 < i, cmpR xs[i-1] xs[i] < 0) ∧ underR xs xs[i] = false) → ∀ j (h : j < xs.length), j < i + 1 → (∀ h0 : 0 < j, cmpR xs[j-1] xs[j] < 0) ∧ underR xs xs[j] = false := by
      intro q j h hj
      by_cases e : j = i
      · subst e; exact q
      · exact hx2 j h (by omega)
    refine S.skip (S.seq (S.block (S.seq (S.region rfl ?_))))
    refine O.op (.p rfl) (.mv rfl) ?_
    refine O.idx' (.p rfl) Go.Proofs.Try.underlying84 FactSib3.size88 rfl rfl rfl (by first | assumption | exact Arr.mono hg (by assumption) | exact Arr.left (by assumption) | exact Arr.left (Arr.mono hg (by assumption))) (by decide) (by first | omega | (simp; done) | (simp; omega) | decide) (fun p19 cs19 hp19 hr19 => ?_)
    obtain ⟨ia3_19, ia5_19, ia6_19, ia7_19, ic3_19, ic5_19, ic6_19, ic7_19, rfl, hr1_19, ha7_19⟩ := ItRp.sh hr19
    refine O.op (.p rfl) (.loadAgg Go.Proofs.Try.isAgg88 (by kernel_rfl) rfl hp19) ?_
    refine O.opE (.p rfl) (.alloc (cs := [.string ⟨#[]⟩, .int .i64 0, .int .i64 0, .slice none 0 0, .bool false, .slice none 0 0, .slice none 0 0, .slice none 0 0]) Go.Proofs.Try.zeroValue88 rfl) ?_
    rintro _ _ ⟨b5, rfl, rfl⟩
    refine O.op (.p rfl) (.as rfl) ?_
    refine O.opU rfl (.storeObj (by kernel_rfl) rfl rfl rfl rfl (by repeat (first | exact Sel.here | apply Sel.there)) (by first | (simp; done) | (simp [Value.cells]; done))) ?_
    refine O.nil ?_
    refine S.objIs (b := b5) (cs' := [.string (str xs[i].1), .int .i64 xs[i].2.1, .int .i64 xs[i].2.2.1, .slice ia3_19 xs[i].2.2.2.1.length ic3_19, .bool xs[i].2.2.2.2.1, .slice ia5_19 xs[i].2.2.2.2.2.1.length ic5_19, .slice ia6_19 xs[i].2.2.2.2.2.2.1.length ic6_19, .slice ia7_19 (recB xs[i]).length ic7_19]) (by repeat (first | exact Sel.here | apply Sel.there)) rfl ?_
    refine S.frzO (by repeat (first | exact Sel.here | apply Sel.there)) fun g hs hm hb5 => ?_
    replace hg := Fr.sub_trans hg hs
    replace hR := melted hR hm
    try replace ha := ha.mono hs
    try replace hqat := hqat.mono hs
    try replace hqar := hqar.mono hs
    try replace hrow := hrow.mono hs
    try replace hp19 := hp19.mono hs
    try replace ha7_19 := ha7_19.mono hs
    try replace hr19 := hr19.mono hs
    try replace hr1_19 := hr1_19.mono hs
    replace hm1 := meltTrans hm1 hm
    clear hs hm
    by_cases h0 : i = 0
    · cases eu : underR xs xs[i] with
      | true =>
        have hno : ¬ SRight xs := fun q => by have := (q.2 i hi).2; rw [eu] at this; cases this
        clear ih
        refine S.regionD (L := [0, 1, 2, 3, 4, 5, 6, 7, 8, 9, 10, 11, 12, 13, 14, 15, 16, 17, 18, 19, 20, 21]) FactSib3.mixed (by kernel_rfl) ?_
        refine .quiet (.p rfl) rfl (fun _ => .mv rfl) ?_
        refine .quiet (.p rfl) rfl (fun _ => .eql rfl rfl) ?_
        refine OD.slot 22 (v' := .bool true) rfl (congrArg Value.bool (by exact decide_eq_true (by omega))) ?_
        refine .quiet (.p rfl) rfl (fun _ => .mv rfl) ?_
        refine .no rfl rfl rfl rfl ?_
        refine .no rfl rfl rfl rfl ?_
        refine .no rfl rfl rfl rfl ?_
        refine .no rfl rfl rfl rfl ?_
        refine .no rfl rfl rfl rfl ?_
        refine .no rfl rfl rfl rfl ?_
        refine .no rfl rfl rfl rfl ?_
        refine .no rfl rfl rfl rfl ?_
        refine .no rfl rfl rfl rfl ?_
        refine .no rfl rfl rfl rfl ?_
        refine .no rfl rfl rfl rfl ?_
        refine .quiet (.p rfl) rfl (fun _ => .pickT rfl rfl) ?_
        refine .quiet (.p rfl) rfl (fun _ => .mv rfl) ?_
        refine .quiet (.g rfl rfl) rfl (fun _ => .mv rfl) ?_
        refine .quiet (.g rfl rfl) rfl (fun _ => .loadAgg Go.Proofs.Try.isAgg88 (by kernel_rfl) rfl hb5) ?_
        refine OD.call0 (.g rfl rfl) (by kernel_rfl) rfl FactSib3.ok50 rfl rfl (sunder_c hrow hr19) ?_
        rintro v39 _ ⟨rfl, rfl⟩
        try simp only [List.cons_append, List.nil_append, List.append_nil]
        refine OD.slot 39 (v' := .bool true) rfl (congrArg Value.bool (by exact eu)) ?_
        refine .quiet (.g rfl rfl) rfl (fun _ => .not rfl) ?_
        refine .quiet (.p rfl) rfl (fun _ => .pickT rfl rfl) ?_
        refine OD.callP0 (.p rfl) (by kernel_rfl) rfl FactSib3.ok48 rfl rfl (smust_c _) (fun ch η' w hX hW => by (obtain ⟨hb, rfl, rfl⟩ := hX; exact hR _ _ w ⟨hno, rfl, rfl⟩ hW.drop_all)) ?_
        rintro v42 _ ⟨hb42, rfl, rfl⟩
        try simp only [List.cons_append, List.nil_append, List.append_nil]
        exact absurd hb42 (by simp)
      | false =>
        refine S.regionD (L := [0, 1, 2, 3, 4, 5, 6, 7, 8, 9, 10, 11, 12, 13, 14, 15, 16, 17, 18, 19, 20, 21]) FactSib3.mixed (by kernel_rfl) ?_
        refine .quiet (.p rfl) rfl (fun _ => .mv rfl) ?_
        refine .quiet (.p rfl) rfl (fun _ => .eql rfl rfl) ?_
        refine OD.slot 22 (v' := .bool true) rfl (congrArg Value.bool (by exact decide_eq_true (by omega))) ?_
        refine .quiet (.p rfl) rfl (fun _ => .mv rfl) ?_
        refine .no rfl rfl rfl rfl ?_
        refine .no rfl rfl rfl rfl ?_
        refine .no rfl rfl rfl rfl ?_
        refine .no rfl rfl rfl rfl ?_
        refine .no rfl rfl rfl rfl ?_
        refine .no rfl rfl rfl rfl ?_
        refine .no rfl rfl rfl rfl ?_
        refine .no rfl rfl rfl rfl ?_
        refine .no rfl rfl rfl rfl ?_
        refine .no rfl rfl rfl rfl ?_
        refine .no rfl rfl rfl rfl ?_
        refine .quiet (.p rfl) rfl (fun _ => .pickT rfl rfl) ?_
        refine .quiet (.p rfl) rfl (fun _ => .mv rfl) ?_
        refine .quiet (.g rfl rfl) rfl (fun _ => .mv rfl) ?_
        refine .quiet (.g rfl rfl) rfl (fun _ => .loadAgg Go.Proofs.Try.isAgg88 (by kernel_rfl) rfl hb5) ?_
        refine OD.call0 (.g rfl rfl) (by kernel_rfl) rfl FactSib3.ok50 rfl rfl (sunder_c hrow hr19) ?_
        rintro v39 _ ⟨rfl, rfl⟩
        try simp only [List.cons_append, List.nil_append, List.append_nil]
        refine OD.slot 39 (v' := .bool false) rfl (congrArg Value.bool (by exact eu)) ?_
        refine .quiet (.g rfl rfl) rfl (fun _ => .not rfl) ?_
        refine .quiet (.p rfl) rfl (fun _ => .pickT rfl rfl) ?_
        refine OD.callP0 (.p rfl) (by kernel_rfl) rfl FactSib3.ok48 rfl rfl (smust_c _) (fun ch η' w hX hW => by (exact absurd hX.1 (by simp))) ?_
        rintro v42 _ ⟨hb42, rfl, rfl⟩
        try simp only [List.cons_append, List.nil_append, List.append_nil]
        refine .nil ?_
        refine S.inBlock (S.region rfl ?_)
        refine O.op (.p rfl) (.add rfl rfl (IntWalk.i64_in _ (by omega))) ?_
        refine O.op (.p rfl) (.mv rfl) ?_
        refine O.nil ?_
        refine S.melt hm1 (S.weaken ?_ (ih (i + 1) (by exact ⟨by omega, hnext ⟨fun h1 => absurd h1 (by omega), eu⟩⟩) (by omega)))
        repeat (first | exact Sub.nil | refine Sub.cons rfl ?_)
    · have hi1 : i - 1 < xs.length := by omega
      by_cases hc : cmpR xs[i-1] xs[i] < 0
      · cases eu : underR xs xs[i] with
        | true =>
          have hno : ¬ SRight xs := fun q => by have := (q.2 i hi).2; rw [eu] at this; cases this
          clear ih
          refine S.regionD (L := [0, 1, 2, 3, 4, 5, 6, 7, 8, 9, 10, 11, 12, 13, 14, 15, 16, 17, 18, 19, 20, 21]) FactSib3.mixed (by kernel_rfl) ?_
          refine .quiet (.p rfl) rfl (fun _ => .mv rfl) ?_
          refine .quiet (.p rfl) rfl (fun _ => .eql rfl rfl) ?_
          refine OD.slot 22 (v' := .bool false) rfl (congrArg Value.bool (by exact decide_eq_false (by omega))) ?_
          refine .quiet (.p rfl) rfl (fun _ => .mv rfl) ?_
          refine .quiet (.g rfl rfl) rfl (fun _ => .mv rfl) ?_
          refine .quiet (.g rfl rfl) rfl (fun _ => .nilCheck rfl) ?_
          refine .quiet (.g rfl rfl) rfl (fun _ => .fieldAddr FactSib3.fld86x0 rfl) ?_
          refine .quiet (.g rfl rfl) rfl (fun _ => .loadAt FactSib3.flat84 rfl hqat rfl) ?_
          refine .quiet (.g rfl rfl) rfl (fun _ => .mv rfl) ?_
          refine .quiet (.g rfl rfl) rfl (fun _ => .sub rfl rfl (IntWalk.i64_in _ (by omega))) ?_
          refine OD.idx' (.g rfl rfl) Go.Proofs.Try.underlying84 FactSib3.size88 rfl rfl (show _ = (((i - 1) : Nat) : Int) by omega) (by first | assumption | exact Arr.mono hg (by assumption) | exact Arr.left (by assumption) | exact Arr.left (Arr.mono hg (by assumption))) (by decide) (by first | omega | (simp; done) | (simp; omega) | decide) (fun p30 cs30 hp30 hr30 => ?_)
          obtain ⟨ia3_30, ia5_30, ia6_30, ia7_30, ic3_30, ic5_30, ic6_30, ic7_30, rfl, hr1_30, ha7_30⟩ := ItRp.sh hr30
          refine .quiet (.g rfl rfl) rfl (fun _ => .loadAgg Go.Proofs.Try.isAgg88 (by kernel_rfl) rfl hp30) ?_
          refine .quiet (.g rfl rfl) rfl (fun _ => .loadAgg Go.Proofs.Try.isAgg88 (by kernel_rfl) rfl hb5) ?_
          refine OD.call0 (.g rfl rfl) (by kernel_rfl) rfl FactSib3.ok49 rfl rfl (scompare_c hr30 hr19) ?_
          rintro v33 _ ⟨rfl, rfl⟩
          try simp only [List.cons_append, List.nil_append, List.append_nil]
          refine .quiet (.g rfl rfl) rfl (fun _ => .lss rfl rfl) ?_
          refine OD.slot 34 (v' := .bool true) rfl (congrArg Value.bool (by exact decide_eq_true hc)) ?_
          refine .quiet (.p rfl) rfl (fun _ => .pickF rfl rfl) ?_
          refine .quiet (.p rfl) rfl (fun _ => .mv rfl) ?_
          refine .quiet (.g rfl rfl) rfl (fun _ => .mv rfl) ?_
          refine .quiet (.g rfl rfl) rfl (fun _ => .loadAgg Go.Proofs.Try.isAgg88 (by kernel_rfl) rfl hb5) ?_
          refine OD.call0 (.g rfl rfl) (by kernel_rfl) rfl FactSib3.ok50 rfl rfl (sunder_c hrow hr19) ?_
          rintro v39 _ ⟨rfl, rfl⟩
          try simp only [List.cons_append, List.nil_append, List.append_nil]
          refine OD.slot 39 (v' := .bool true) rfl (congrArg Value.bool (by exact eu)) ?_
          refine .quiet (.g rfl rfl) rfl (fun _ => .not rfl) ?_
          refine .quiet (.p rfl) rfl (fun _ => .pickT rfl rfl) ?_
          refine OD.callP0 (.p rfl) (by kernel_rfl) rfl FactSib3.ok48 rfl rfl (smust_c _) (fun ch η' w hX hW => by (obtain ⟨hb, rfl, rfl⟩ := hX; exact hR _ _ w ⟨hno, rfl, rfl⟩ hW.drop_all)) ?_
          rintro v42 _ ⟨hb42, rfl, rfl⟩
          try simp only [List.cons_append, List.nil_append, List.append_nil]
          exact absurd hb42 (by simp)
        | false =>
          refine S.regionD (L := [0, 1, 2, 3, 4, 5, 6, 7, 8, 9, 10, 11, 12, 13, 14, 15, 16, 17, 18, 19, 20, 21]) FactSib3.mixed (by kernel_rfl) ?_
          refine .quiet (.p rfl) rfl (fun _ => .mv rfl) ?_
          refine .quiet (.p rfl) rfl (fun _ => .eql rfl rfl) ?_
          refine OD.slot 22 (v' := .bool false) rfl (congrArg Value.bool (by exact decide_eq_false (by omega))) ?_
          refine .quiet (.p rfl) rfl (fun _ => .mv rfl) ?_
          refine .quiet (.g rfl rfl) rfl (fun _ => .mv rfl) ?_
          refine .quiet (.g rfl rfl) rfl (fun _ => .nilCheck rfl) ?_
          refine .quiet (.g rfl rfl) rfl (fun _ => .fieldAddr FactSib3.fld86x0 rfl) ?_
          refine .quiet (.g rfl rfl) rfl (fun _ => .loadAt FactSib3.flat84 rfl hqat rfl) ?_
          refine .quiet (.g rfl rfl) rfl (fun _ => .mv rfl) ?_
          refine .quiet (.g rfl rfl) rfl (fun _ => .sub rfl rfl (IntWalk.i64_in _ (by omega))) ?_
          refine OD.idx' (.g rfl rfl) Go.Proofs.Try.underlying84 FactSib3.size88 rfl rfl (show _ = (((i - 1) : Nat) : Int) by omega) (by first | assumption | exact Arr.mono hg (by assumption) | exact Arr.left (by assumption) | exact Arr.left (Arr.mono hg (by assumption))) (by decide) (by first | omega | (simp; done) | (simp; omega) | decide) (fun p30 cs30 hp30 hr30 => ?_)
          obtain ⟨ia3_30, ia5_30, ia6_30, ia7_30, ic3_30, ic5_30, ic6_30, ic7_30, rfl, hr1_30, ha7_30⟩ := ItRp.sh hr30
          refine .quiet (.g rfl rfl) rfl (fun _ => .loadAgg Go.Proofs.Try.isAgg88 (by kernel_rfl) rfl hp30) ?_
          refine .quiet (.g rfl rfl) rfl (fun _ => .loadAgg Go.Proofs.Try.isAgg88 (by kernel_rfl) rfl hb5) ?_
          refine OD.call0 (.g rfl rfl) (by kernel_rfl) rfl FactSib3.ok49 rfl rfl (scompare_c hr30 hr19) ?_
          rintro v33 _ ⟨rfl, rfl⟩
          try simp only [List.cons_append, List.nil_append, List.append_nil]
          refine .quiet (.g rfl rfl) rfl (fun _ => .lss rfl rfl) ?_
          refine OD.slot 34 (v' := .bool true) rfl (congrArg Value.bool (by exact decide_eq_true hc)) ?_
          refine .quiet (.p rfl) rfl (fun _ => .pickF rfl rfl) ?_
          refine .quiet (.p rfl) rfl (fun _ => .mv rfl) ?_
          refine .quiet (.g rfl rfl) rfl (fun _ => .mv rfl) ?_
          refine .quiet (.g rfl rfl) rfl (fun _ => .loadAgg Go.Proofs.Try.isAgg88 (by kernel_rfl) rfl hb5) ?_
          refine OD.call0 (.g rfl rfl) (by kernel_rfl) rfl FactSib3.ok50 rfl rfl (sunder_c hrow hr19) ?_
          rintro v39 _ ⟨rfl, rfl⟩
          try simp only [List.cons_append, List.nil_append, List.append_nil]
          refine OD.slot 39 (v' := .bool false) rfl (congrArg Value.bool (by exact eu)) ?_
          refine .quiet (.g rfl rfl) rfl (fun _ => .not rfl) ?_
          refine .quiet (.p rfl) rfl (fun _ => .pickT rfl rfl) ?_
          refine OD.callP0 (.p rfl) (by kernel_rfl) rfl FactSib3.ok48 rfl rfl (smust_c _) (fun ch η' w hX hW => by (exact absurd hX.1 (by simp))) ?_
          rintro v42 _ ⟨hb42, rfl, rfl⟩
          try simp only [List.cons_append, List.nil_append, List.append_nil]
          refine .nil ?_
          refine S.inBlock (S.region rfl ?_)
          refine O.op (.p rfl) (.add rfl rfl (IntWalk.i64_in _ (by omega))) ?_
          refine O.op (.p rfl) (.mv rfl) ?_
          refine O.nil ?_
          refine S.melt hm1 (S.weaken ?_ (ih (i + 1) (by exact ⟨by omega, hnext ⟨fun _ => hc, eu⟩⟩) (by omega)))
          repeat (first | exact Sub.nil | refine Sub.cons rfl ?_)
      · have hno : ¬ SRight xs := fun q => hc ((q.2 i hi).1 (by omega))
        clear ih
        refine S.regionD (L := [0, 1, 2, 3, 4, 5, 6, 7, 8, 9, 10, 11, 12, 13, 14, 15, 16, 17, 18, 19, 20, 21]) FactSib3.mixed (by kernel_rfl) ?_
        refine .quiet (.p rfl) rfl (fun _ => .mv rfl) ?_
        refine .quiet (.p rfl) rfl (fun _ => .eql rfl rfl) ?_
        refine OD.slot 22 (v' := .bool false) rfl (congrArg Value.bool (by exact decide_eq_false (by omega))) ?_
        refine .quiet (.p rfl) rfl (fun _ => .mv rfl) ?_
        refine .quiet (.g rfl rfl) rfl (fun _ => .mv rfl) ?_
        refine .quiet (.g rfl rfl) rfl (fun _ => .nilCheck rfl) ?_
        refine .quiet (.g rfl rfl) rfl (fun _ => .fieldAddr FactSib3.fld86x0 rfl) ?_
        refine .quiet (.g rfl rfl) rfl (fun _ => .loadAt FactSib3.flat84 rfl hqat rfl) ?_
        refine .quiet (.g rfl rfl) rfl (fun _ => .mv rfl) ?_
        refine .quiet (.g rfl rfl) rfl (fun _ => .sub rfl rfl (IntWalk.i64_in _ (by omega))) ?_
        refine OD.idx' (.g rfl rfl) Go.Proofs.Try.underlying84 FactSib3.size88 rfl rfl (show _ = (((i - 1) : Nat) : Int) by omega) (by first | assumption | exact Arr.mono hg (by assumption) | exact Arr.left (by assumption) | exact Arr.left (Arr.mono hg (by assumption))) (by decide) (by first | omega | (simp; done) | (simp; omega) | decide) (fun p30 cs30 hp30 hr30 => ?_)
        obtain ⟨ia3_30, ia5_30, ia6_30, ia7_30, ic3_30, ic5_30, ic6_30, ic7_30, rfl, hr1_30, ha7_30⟩ := ItRp.sh hr30
        refine .quiet (.g rfl rfl) rfl (fun _ => .loadAgg Go.Proofs.Try.isAgg88 (by kernel_rfl) rfl hp30) ?_
        refine .quiet (.g rfl rfl) rfl (fun _ => .loadAgg Go.Proofs.Try.isAgg88 (by kernel_rfl) rfl hb5) ?_
        refine OD.call0 (.g rfl rfl) (by kernel_rfl) rfl FactSib3.ok49 rfl rfl (scompare_c hr30 hr19) ?_
        rintro v33 _ ⟨rfl, rfl⟩
        try simp only [List.cons_append, List.nil_append, List.append_nil]
        refine .quiet (.g rfl rfl) rfl (fun _ => .lss rfl rfl) ?_
        refine OD.slot 34 (v' := .bool false) rfl (congrArg Value.bool (by exact decide_eq_false hc)) ?_
        refine .quiet (.p rfl) rfl (fun _ => .pickF rfl rfl) ?_
        refine .quiet (.p rfl) rfl (fun _ => .mv rfl) ?_
        refine .no rfl rfl rfl rfl ?_
        refine .no rfl rfl rfl rfl ?_
        refine .no rfl rfl rfl rfl ?_
        refine .no rfl rfl rfl rfl ?_
        refine .quiet (.p rfl) rfl (fun _ => .pickF rfl rfl) ?_
        refine OD.callP0 (.p rfl) (by kernel_rfl) rfl FactSib3.ok48 rfl rfl (smust_c _) (fun ch η' w hX hW => by (obtain ⟨hb, rfl, rfl⟩ := hX; exact hR _ _ w ⟨hno, rfl, rfl⟩ hW.drop_all)) ?_
        rintro v42 _ ⟨hb42, rfl, rfl⟩
        try simp only [List.cons_append, List.nil_append, List.append_nil]
        exact absurd hb42 (by simp)
  · clear ih
    have hi : i = xs.length := by omega
    subst hi
    refine S.exit rfl ?_
    refine S.seq ?_
    refine S.back hbq ?_
    replace hg := hg_q
    replace hR := hR_q
    try replace ha := ha_q
    clear hg_q hR_q
    refine S.region rfl ?_
    refine O.op (.p rfl) (.mv rfl) ?_
    refine O.op (.p rfl) (.as rfl) ?_
    refine O.nil ?_
    refine S.ret Go.Proofs.Try.results37 rfl fun w hw => Holds.end_ hR hw ?_
    exact ⟨_, ⟨⟨hone, fun j h => hx2 j h h⟩, b7, rfl, rfl⟩, by repeat (first | exact Picks.all | exact Picks.nil | (apply Picks.cons; focus (repeat (first | exact Sel.here | apply Sel.there))) | apply Picks.skip)⟩

end Go.Proofs.Ytodhbhanmdfdeaa
