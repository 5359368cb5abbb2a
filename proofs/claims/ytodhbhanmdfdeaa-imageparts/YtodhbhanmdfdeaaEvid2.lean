import Derived.Test.YtodhbhanmdfdeaaEvid1
open Go Go.Sp
set_option maxRecDepth 100000
attribute [local irreducible] obj Own OwnP
namespace Go.Proofs.Ytodhbhanmdfdeaa
theorem FactEvid2.elem32 : elemIs Go.Proofs.Try.prog 32 1 24 [.slice none 0 0] := elemIs.mk (by kernel_rfl) rfl
theorem FactEvid2.elem40 : elemIs Go.Proofs.Try.prog 40 5 72 [.int .i64 0, .int .i64 0, .int .i64 0, .slice none 0 0, .slice none 0 0] := elemIs.mk (by kernel_rfl) rfl
theorem FactEvid2.flat3 : Go.Sp.flat1 Go.Proofs.Try.prog 3 = true := by kernel_rfl
theorem FactEvid2.flat32 : Go.Sp.flat1 Go.Proofs.Try.prog 32 = true := by kernel_rfl
theorem FactEvid2.fld40x0 : fieldOff Go.Proofs.Try.prog 40 0 = some 0 := by kernel_rfl
theorem FactEvid2.fld40x1 : fieldOff Go.Proofs.Try.prog 40 1 = some 1 := by kernel_rfl
theorem FactEvid2.fld40x2 : fieldOff Go.Proofs.Try.prog 40 2 = some 2 := by kernel_rfl
theorem FactEvid2.fld40x3 : fieldOff Go.Proofs.Try.prog 40 3 = some 3 := by kernel_rfl
theorem FactEvid2.fld42x0 : fieldOff Go.Proofs.Try.prog 42 0 = some 0 := by kernel_rfl
theorem FactEvid2.fld42x1 : fieldOff Go.Proofs.Try.prog 42 1 = some 5 := by kernel_rfl
theorem FactEvid2.fld99x0 : fieldOff Go.Proofs.Try.prog 99 0 = some 0 := by kernel_rfl
theorem FactEvid2.fld99x1 : fieldOff Go.Proofs.Try.prog 99 1 = some 5 := by kernel_rfl
theorem FactEvid2.ok28 : callable Go.Proofs.Try.prog 28 = true := by kernel_rfl
theorem FactEvid2.ok31 : callable Go.Proofs.Try.prog 31 = true := by kernel_rfl
theorem FactEvid2.ok34 : callable Go.Proofs.Try.prog 34 = true := by kernel_rfl
theorem FactEvid2.ok43 : callable Go.Proofs.Try.prog 43 = true := by kernel_rfl
theorem FactEvid2.ok54 : callable Go.Proofs.Try.prog 54 = true := by kernel_rfl
theorem FactEvid2.ok55 : callable Go.Proofs.Try.prog 55 = true := by kernel_rfl
theorem FactEvid2.ok63 : callable Go.Proofs.Try.prog 63 = true := by kernel_rfl
theorem FactEvid2.ok65 : callable Go.Proofs.Try.prog 65 = true := by kernel_rfl

theorem EvdRp.two {h : Fr} {e : EvdT} {a3 a4 a8 a9 : Option Addr} {c3 c4 c8 c9 : Nat} (r : EvdRp.rel h [.int .i64 e.1.1, .int .i64 e.1.2.1, .int .i64 e.1.2.2.1, .slice a3 e.1.2.2.2.1.length c3, .slice a4 e.1.2.2.2.2.1.length c4, .int .i64 e.2.1.1, .int .i64 e.2.1.2.1, .int .i64 e.2.1.2.2.1, .slice a8 e.2.1.2.2.2.1.length c8, .slice a9 e.2.1.2.2.2.2.1.length c9] e) :
    RootRp.rel h [.int .i64 e.1.1, .int .i64 e.1.2.1, .int .i64 e.1.2.2.1, .slice a3 e.1.2.2.2.1.length c3, .slice a4 e.1.2.2.2.2.1.length c4] e.1 ∧ RootRp.rel h [.int .i64 e.2.1.1, .int .i64 e.2.1.2.1, .int .i64 e.2.1.2.2.1, .slice a8 e.2.1.2.2.2.1.length c8, .slice a9 e.2.1.2.2.2.2.1.length c9] e.2.1 := by
  obtain ⟨v3, v4, v8, v9, hc, h0, h1, h2, h3, h4, h5, h6, h7, h8, h9⟩ := EvdRp.open r
  injection hc with _ hc; injection hc with _ hc; injection hc with _ hc; injection hc with e3 hc; injection hc with e4 hc
  injection hc with _ hc; injection hc with _ hc; injection hc with _ hc; injection hc with e8 hc; injection hc with e9 hc
  subst e3 e4 e8 e9
  exact ⟨RootRp.mk h0 h1 h2 h3 h4, RootRp.mk h5 h6 h7 h8 h9⟩
theorem eorder_c {r : Fr} {cs : List Value} {e : EvdT} (h : EvdRp.rel r cs e) : Con Go.Proofs.Try.prog 55 #[.agg cs.toArray] r [] (Ret fun v η => v = .int .i64 (evOrder e.1 e.2.1) ∧ η = []) := by
  obtain ⟨xa3, xa4, xa8, xa9, xc3, xc4, xc8, xc9, rfl, _, _, _, k3, _, _, _, _, k8, _⟩ := EvdRp.sh h
  obtain ⟨h1, h2⟩ := EvdRp.two h
  refine Con.of (n := 42) [.agg #[.int .i64 e.1.1, .int .i64 e.1.2.1, .int .i64 e.1.2.2.1, .slice xa3 e.1.2.2.2.1.length xc3, .slice xa4 e.1.2.2.2.2.1.length xc4, .int .i64 e.2.1.1, .int .i64 e.2.1.2.1, .int .i64 e.2.1.2.2.1, .slice xa8 e.2.1.2.2.2.1.length xc8, .slice xa9 e.2.1.2.2.2.2.1.length xc9]] rfl Go.Proofs.Try.func55 rfl rfl rfl fun g hg R hR => ?_
  have h1 := h1.mono hg
  have h2 := h2.mono hg
  have k3 := k3.mono hg
  have k8 := k8.mono hg
  refine S.seq (S.region rfl ?_)
  refine O.opE (.p rfl) (.box (cs := [_, _, _, _, _, _, _, _, _, _]) rfl rfl) ?_
  rintro _ _ ⟨b1, rfl, rfl⟩
  refine O.op (.p rfl) (.as rfl) ?_
  refine O.nil ?_
  refine S.seq (S.region rfl ?_)
  refine O.op (.p rfl) (.fieldObj FactEvid2.fld99x1 rfl) ?_
  refine O.op (.p rfl) (.loadObjAgg (news := [_, _, _, _, _]) Go.Proofs.Try.isAgg40 (by kernel_rfl) rfl (by repeat (first | exact Sel.here | apply Sel.there)) rfl) ?_
  refine O.opE (.p rfl) (.alloc (cs := [.int .i64 0, .int .i64 0, .int .i64 0, .slice none 0 0, .slice none 0 0]) Go.Proofs.Try.zeroValue40 rfl) ?_
  rintro _ _ ⟨b3, rfl, rfl⟩
  refine O.opU rfl (.storeObj (by kernel_rfl) rfl rfl rfl rfl (by repeat (first | exact Sel.here | apply Sel.there)) (by first | (simp; done) | (simp [Value.cells]; done))) ?_
  refine O.nil ?_
  refine S.seq (S.seq ?_)
  refine S.objIs (b := b3) (cs' := [.int .i64 e.2.1.1, .int .i64 e.2.1.2.1, .int .i64 e.2.1.2.2.1, .slice xa8 e.2.1.2.2.2.1.length xc8, .slice xa9 e.2.1.2.2.2.2.1.length xc9]) (by repeat (first | exact Sel.here | apply Sel.there)) rfl ?_
  cases ea : [e.1, e.2.1].all rootOk with
  | false =>
    have e0 : evOrder e.1 e.2.1 = 0 := if_neg fun q => by
      simp only [List.all_cons, q.1, q.2.1, List.all_nil] at ea
      cases ea
    refine S.region rfl ?_
    refine O.op (.p rfl) (.fieldObj FactEvid2.fld99x0 rfl) ?_
    refine O.op (.p rfl) (.loadObjAgg (news := [_, _, _, _, _]) Go.Proofs.Try.isAgg40 (by kernel_rfl) rfl (by repeat (first | exact Sel.here | apply Sel.there)) rfl) ?_
    refine O.op (.p rfl) (.loadObjAgg (news := [_, _, _, _, _]) Go.Proofs.Try.isAgg40 (by kernel_rfl) rfl (by repeat (first | exact Sel.here | apply Sel.there)) rfl) ?_
    refine O.opE (.p rfl) (.litP (T := (Rp.cells 5)) (ys := [_, _]) Go.Proofs.Try.underlying23 FactEvid2.elem40 (by decide) rfl rfl ⟨⟨rfl, rfl, by first | (simp; done) | (intro v hv; simp [Value.cells] at hv; rcases hv with rfl | rfl <;> rfl) | (refine List.forall_mem_cons.2 ⟨rfl, ?_⟩; repeat (first | exact (fun _ h => absurd h List.not_mem_nil) | refine List.forall_mem_cons.2 ⟨rfl, ?_⟩))⟩, ⟨rfl, rfl, by first | (simp; done) | (intro v hv; simp [Value.cells] at hv; rcases hv with rfl | rfl <;> rfl) | (refine List.forall_mem_cons.2 ⟨rfl, ?_⟩; repeat (first | exact (fun _ h => absurd h List.not_mem_nil) | refine List.forall_mem_cons.2 ⟨rfl, ?_⟩))⟩, trivial⟩ (by decide)) ?_
    rintro _ _ ⟨a9, c9, rfl, rfl⟩
    refine O.frzA (by repeat (first | exact Sel.here | apply Sel.there)) fun g hs hm ha9 => ?_
    replace hg := Fr.sub_trans hg hs
    replace hR := melted hR hm
    try replace h1 := h1.mono hs
    try replace h2 := h2.mono hs
    try replace k3 := k3.mono hs
    try replace k8 := k8.mono hs
    clear hs hm
    refine O.call0 (.p rfl) rfl FactEvid2.ok63 rfl rfl ((eall_c (l := [e.1, e.2.1]) (Arr.ofCells ha9 ⟨h1, h2, trivial⟩ rfl))) ?_
    rintro v10 _ ⟨rfl, rfl⟩
    try simp only [List.cons_append, List.nil_append, List.append_nil]
    refine O.slot 10 (v' := .bool false) rfl (congrArg Value.bool (by exact ea)) ?_
    refine O.op (.p rfl) (.not rfl) ?_
    refine O.op (.p rfl) (.mv rfl) ?_
    refine O.opN rfl rfl rfl ?_
    refine O.opN rfl rfl rfl ?_
    refine O.opN rfl rfl rfl ?_
    refine O.opN rfl rfl rfl ?_
    refine O.opN rfl rfl rfl ?_
    refine O.opN rfl rfl rfl ?_
    refine O.op (.p rfl) (.pickT rfl rfl) ?_
    refine O.op (.p rfl) (.mv rfl) ?_
    refine O.opN rfl rfl rfl ?_
    refine O.opN rfl rfl rfl ?_
    refine O.opN rfl rfl rfl ?_
    refine O.opN rfl rfl rfl ?_
    refine O.opN rfl rfl rfl ?_
    refine O.opN rfl rfl rfl ?_
    refine O.op (.p rfl) (.pickT rfl rfl) ?_
    refine O.op (.p rfl) (.mv rfl) ?_
    refine O.opN rfl rfl rfl ?_
    refine O.opN rfl rfl rfl ?_
    refine O.opN rfl rfl rfl ?_
    refine O.opN rfl rfl rfl ?_
    refine O.opN rfl rfl rfl ?_
    refine O.opN rfl rfl rfl ?_
    refine O.op (.p rfl) (.pickT rfl rfl) ?_
    refine O.nil ?_
    refine S.condT rfl ?_
    refine S.seq (S.region rfl ?_)
    refine O.op (.p rfl) (.as rfl) ?_
    refine O.nil ?_
    refine S.ret Go.Proofs.Try.results55 rfl fun w hw => Holds.end_ hR hw ?_
    exact ⟨_, ⟨by rw [e0], rfl⟩, by repeat (first | exact Picks.all | exact Picks.nil | (apply Picks.cons; focus (repeat (first | exact Sel.here | apply Sel.there))) | apply Picks.skip)⟩
  | true =>
    have e1 : rootOk e.1 = true ∧ rootOk e.2.1 = true := by simpa using ea
    refine S.region rfl ?_
    refine O.op (.p rfl) (.fieldObj FactEvid2.fld99x0 rfl) ?_
    refine O.op (.p rfl) (.loadObjAgg (news := [_, _, _, _, _]) Go.Proofs.Try.isAgg40 (by kernel_rfl) rfl (by repeat (first | exact Sel.here | apply Sel.there)) rfl) ?_
    refine O.op (.p rfl) (.loadObjAgg (news := [_, _, _, _, _]) Go.Proofs.Try.isAgg40 (by kernel_rfl) rfl (by repeat (first | exact Sel.here | apply Sel.there)) rfl) ?_
    refine O.opE (.p rfl) (.litP (T := (Rp.cells 5)) (ys := [_, _]) Go.Proofs.Try.underlying23 FactEvid2.elem40 (by decide) rfl rfl ⟨⟨rfl, rfl, by first | (simp; done) | (intro v hv; simp [Value.cells] at hv; rcases hv with rfl | rfl <;> rfl) | (refine List.forall_mem_cons.2 ⟨rfl, ?_⟩; repeat (first | exact (fun _ h => absurd h List.not_mem_nil) | refine List.forall_mem_cons.2 ⟨rfl, ?_⟩))⟩, ⟨rfl, rfl, by first | (simp; done) | (intro v hv; simp [Value.cells] at hv; rcases hv with rfl | rfl <;> rfl) | (refine List.forall_mem_cons.2 ⟨rfl, ?_⟩; repeat (first | exact (fun _ h => absurd h List.not_mem_nil) | refine List.forall_mem_cons.2 ⟨rfl, ?_⟩))⟩, trivial⟩ (by decide)) ?_
    rintro _ _ ⟨a9, c9, rfl, rfl⟩
    refine O.frzA (by repeat (first | exact Sel.here | apply Sel.there)) fun g hs hm ha9 => ?_
    replace hg := Fr.sub_trans hg hs
    replace hR := melted hR hm
    try replace h1 := h1.mono hs
    try replace h2 := h2.mono hs
    try replace k3 := k3.mono hs
    try replace k8 := k8.mono hs
    clear hs hm
    refine O.call0 (.p rfl) rfl FactEvid2.ok63 rfl rfl ((eall_c (l := [e.1, e.2.1]) (Arr.ofCells ha9 ⟨h1, h2, trivial⟩ rfl))) ?_
    rintro v10 _ ⟨rfl, rfl⟩
    try simp only [List.cons_append, List.nil_append, List.append_nil]
    refine O.slot 10 (v' := .bool true) rfl (congrArg Value.bool (by exact ea)) ?_
    refine O.op (.p rfl) (.not rfl) ?_
    refine O.op (.p rfl) (.mv rfl) ?_
    refine O.op (.g rfl rfl) (.fieldObj FactEvid2.fld99x0 rfl) ?_
    refine O.op (.g rfl rfl) (.fieldObj FactEvid2.fld40x0 rfl) ?_
    refine O.op (.g rfl rfl) (.loadObj FactEvid2.flat3 rfl (by repeat (first | exact Sel.here | apply Sel.there)) rfl) ?_
    refine O.op (.g rfl rfl) (.fieldObj FactEvid2.fld40x0 rfl) ?_
    refine O.op (.g rfl rfl) (.loadObj FactEvid2.flat3 rfl (by repeat (first | exact Sel.here | apply Sel.there)) rfl) ?_
    refine O.op (.g rfl rfl) (.neq rfl rfl) ?_
    refine O.op (.p rfl) (.pickF rfl rfl) ?_
    refine O.op (.p rfl) (.mv rfl) ?_
    first | refine O.caseD 20 rfl (fun h20 => ?_) (fun h20 => ?_) | refine O.caseB 20 rfl (fun h20 => ?_) (fun h20 => ?_)
    · refine O.opN rfl rfl rfl ?_
      refine O.opN rfl rfl rfl ?_
      refine O.opN rfl rfl rfl ?_
      refine O.opN rfl rfl rfl ?_
      refine O.opN rfl rfl rfl ?_
      refine O.opN rfl rfl rfl ?_
      refine O.op (.p rfl) (.pickT rfl rfl) ?_
      refine O.op (.p rfl) (.mv rfl) ?_
      refine O.opN rfl rfl rfl ?_
      refine O.opN rfl rfl rfl ?_
      refine O.opN rfl rfl rfl ?_
      refine O.opN rfl rfl rfl ?_
      refine O.opN rfl rfl rfl ?_
      refine O.opN rfl rfl rfl ?_
      refine O.op (.p rfl) (.pickT rfl rfl) ?_
      refine O.nil ?_
      refine S.condT rfl ?_
      refine S.seq (S.region rfl ?_)
      refine O.op (.p rfl) (.as rfl) ?_
      refine O.nil ?_
      refine S.ret Go.Proofs.Try.results55 rfl fun w hw => Holds.end_ hR hw ?_
      first | exact ⟨_, ⟨by simp only [evOrder]; rw [if_neg (fun q => absurd q.2.2.1 (by assumption))], rfl⟩, by repeat (first | exact Picks.all | exact Picks.nil | (apply Picks.cons; focus (repeat (first | exact Sel.here | apply Sel.there))) | apply Picks.skip)⟩ | exact ⟨_, ⟨by simp only [evOrder]; rw [if_neg (fun q => absurd q.2.2.2.1 (by assumption))], rfl⟩, by repeat (first | exact Picks.all | exact Picks.nil | (apply Picks.cons; focus (repeat (first | exact Sel.here | apply Sel.there))) | apply Picks.skip)⟩ | exact ⟨_, ⟨by simp only [evOrder]; rw [if_neg (fun q => absurd q.2.2.2.2 (by assumption))], rfl⟩, by repeat (first | exact Picks.all | exact Picks.nil | (apply Picks.cons; focus (repeat (first | exact Sel.here | apply Sel.there))) | apply Picks.skip)⟩ | exact ⟨_, ⟨by simp only [evOrder]; rw [if_pos ⟨e1.1, e1.2, Classical.not_not.1 (by assumption), Classical.not_not.1 (by assumption), Classical.not_not.1 (by assumption)⟩], rfl⟩, by repeat (first | exact Picks.all | exact Picks.nil | (apply Picks.cons; focus (repeat (first | exact Sel.here | apply Sel.there))) | apply Picks.skip)⟩
    · refine O.op (.g rfl rfl) (.fieldObj FactEvid2.fld99x0 rfl) ?_
      refine O.op (.g rfl rfl) (.fieldObj FactEvid2.fld40x1 rfl) ?_
      refine O.op (.g rfl rfl) (.loadObj FactEvid2.flat3 rfl (by repeat (first | exact Sel.here | apply Sel.there)) rfl) ?_
      refine O.op (.g rfl rfl) (.fieldObj FactEvid2.fld40x1 rfl) ?_
      refine O.op (.g rfl rfl) (.loadObj FactEvid2.flat3 rfl (by repeat (first | exact Sel.here | apply Sel.there)) rfl) ?_
      refine O.op (.g rfl rfl) (.neq rfl rfl) ?_
      refine O.op (.p rfl) (.pickF rfl rfl) ?_
      refine O.op (.p rfl) (.mv rfl) ?_
      first | refine O.caseD 28 rfl (fun h28 => ?_) (fun h28 => ?_) | refine O.caseB 28 rfl (fun h28 => ?_) (fun h28 => ?_)
      · refine O.opN rfl rfl rfl ?_
        refine O.opN rfl rfl rfl ?_
        refine O.opN rfl rfl rfl ?_
        refine O.opN rfl rfl rfl ?_
        refine O.opN rfl rfl rfl ?_
        refine O.opN rfl rfl rfl ?_
        refine O.op (.p rfl) (.pickT rfl rfl) ?_
        refine O.nil ?_
        refine S.condT rfl ?_
        refine S.seq (S.region rfl ?_)
        refine O.op (.p rfl) (.as rfl) ?_
        refine O.nil ?_
        refine S.ret Go.Proofs.Try.results55 rfl fun w hw => Holds.end_ hR hw ?_
        first | exact ⟨_, ⟨by simp only [evOrder]; rw [if_neg (fun q => absurd q.2.2.1 (by assumption))], rfl⟩, by repeat (first | exact Picks.all | exact Picks.nil | (apply Picks.cons; focus (repeat (first | exact Sel.here | apply Sel.there))) | apply Picks.skip)⟩ | exact ⟨_, ⟨by simp only [evOrder]; rw [if_neg (fun q => absurd q.2.2.2.1 (by assumption))], rfl⟩, by repeat (first | exact Picks.all | exact Picks.nil | (apply Picks.cons; focus (repeat (first | exact Sel.here | apply Sel.there))) | apply Picks.skip)⟩ | exact ⟨_, ⟨by simp only [evOrder]; rw [if_neg (fun q => absurd q.2.2.2.2 (by assumption))], rfl⟩, by repeat (first | exact Picks.all | exact Picks.nil | (apply Picks.cons; focus (repeat (first | exact Sel.here | apply Sel.there))) | apply Picks.skip)⟩ | exact ⟨_, ⟨by simp only [evOrder]; rw [if_pos ⟨e1.1, e1.2, Classical.not_not.1 (by assumption), Classical.not_not.1 (by assumption), Classical.not_not.1 (by assumption)⟩], rfl⟩, by repeat (first | exact Picks.all | exact Picks.nil | (apply Picks.cons; focus (repeat (first | exact Sel.here | apply Sel.there))) | apply Picks.skip)⟩
      · refine O.op (.g rfl rfl) (.fieldObj FactEvid2.fld99x0 rfl) ?_
        refine O.op (.g rfl rfl) (.fieldObj FactEvid2.fld40x2 rfl) ?_
        refine O.op (.g rfl rfl) (.loadObj FactEvid2.flat3 rfl (by repeat (first | exact Sel.here | apply Sel.there)) rfl) ?_
        refine O.op (.g rfl rfl) (.fieldObj FactEvid2.fld40x2 rfl) ?_
        refine O.op (.g rfl rfl) (.loadObj FactEvid2.flat3 rfl (by repeat (first | exact Sel.here | apply Sel.there)) rfl) ?_
        refine O.op (.g rfl rfl) (.neq rfl rfl) ?_
        refine O.op (.p rfl) (.pickF rfl rfl) ?_
        refine O.nil ?_
        first | refine S.condD rfl (fun h35 => ?_) (fun h35 => ?_) | refine S.condB rfl (fun h35 => ?_) (fun h35 => ?_)
        · refine S.seq (S.region rfl ?_)
          refine O.op (.p rfl) (.as rfl) ?_
          refine O.nil ?_
          refine S.ret Go.Proofs.Try.results55 rfl fun w hw => Holds.end_ hR hw ?_
          first | exact ⟨_, ⟨by simp only [evOrder]; rw [if_neg (fun q => absurd q.2.2.1 (by assumption))], rfl⟩, by repeat (first | exact Picks.all | exact Picks.nil | (apply Picks.cons; focus (repeat (first | exact Sel.here | apply Sel.there))) | apply Picks.skip)⟩ | exact ⟨_, ⟨by simp only [evOrder]; rw [if_neg (fun q => absurd q.2.2.2.1 (by assumption))], rfl⟩, by repeat (first | exact Picks.all | exact Picks.nil | (apply Picks.cons; focus (repeat (first | exact Sel.here | apply Sel.there))) | apply Picks.skip)⟩ | exact ⟨_, ⟨by simp only [evOrder]; rw [if_neg (fun q => absurd q.2.2.2.2 (by assumption))], rfl⟩, by repeat (first | exact Picks.all | exact Picks.nil | (apply Picks.cons; focus (repeat (first | exact Sel.here | apply Sel.there))) | apply Picks.skip)⟩ | exact ⟨_, ⟨by simp only [evOrder]; rw [if_pos ⟨e1.1, e1.2, Classical.not_not.1 (by assumption), Classical.not_not.1 (by assumption), Classical.not_not.1 (by assumption)⟩], rfl⟩, by repeat (first | exact Picks.all | exact Picks.nil | (apply Picks.cons; focus (repeat (first | exact Sel.here | apply Sel.there))) | apply Picks.skip)⟩
        · refine S.skip (S.seq (S.region rfl ?_))
          refine O.op (.p rfl) (.fieldObj FactEvid2.fld99x0 rfl) ?_
          refine O.op (.p rfl) (.fieldObj FactEvid2.fld40x3 rfl) ?_
          refine O.op (.p rfl) (.loadObj FactEvid2.flat32 rfl (by repeat (first | exact Sel.here | apply Sel.there)) rfl) ?_
          refine O.op (.p rfl) (.fieldObj FactEvid2.fld40x3 rfl) ?_
          refine O.op (.p rfl) (.loadObj FactEvid2.flat32 rfl (by repeat (first | exact Sel.here | apply Sel.there)) rfl) ?_
          refine O.call0 (.p rfl) rfl FactEvid2.ok65 rfl rfl (bcompare_c (by first | assumption | exact Arr.mono hg (by assumption) | exact Arr.left (by assumption) | exact Arr.left (Arr.mono hg (by assumption))) (by first | assumption | exact Arr.mono hg (by assumption) | exact Arr.left (by assumption) | exact Arr.left (Arr.mono hg (by assumption)))) ?_
          rintro v41 _ ⟨rfl, rfl⟩
          try simp only [List.cons_append, List.nil_append, List.append_nil]
          refine O.op (.p rfl) (.as rfl) ?_
          refine O.nil ?_
          refine S.ret Go.Proofs.Try.results55 rfl fun w hw => Holds.end_ hR hw ?_
          first | exact ⟨_, ⟨by simp only [evOrder]; rw [if_neg (fun q => absurd q.2.2.1 (by assumption))], rfl⟩, by repeat (first | exact Picks.all | exact Picks.nil | (apply Picks.cons; focus (repeat (first | exact Sel.here | apply Sel.there))) | apply Picks.skip)⟩ | exact ⟨_, ⟨by simp only [evOrder]; rw [if_neg (fun q => absurd q.2.2.2.1 (by assumption))], rfl⟩, by repeat (first | exact Picks.all | exact Picks.nil | (apply Picks.cons; focus (repeat (first | exact Sel.here | apply Sel.there))) | apply Picks.skip)⟩ | exact ⟨_, ⟨by simp only [evOrder]; rw [if_neg (fun q => absurd q.2.2.2.2 (by assumption))], rfl⟩, by repeat (first | exact Picks.all | exact Picks.nil | (apply Picks.cons; focus (repeat (first | exact Sel.here | apply Sel.there))) | apply Picks.skip)⟩ | exact ⟨_, ⟨by simp only [evOrder]; rw [if_pos ⟨e1.1, e1.2, Classical.not_not.1 (by assumption), Classical.not_not.1 (by assumption), Classical.not_not.1 (by assumption)⟩], rfl⟩, by repeat (first | exact Picks.all | exact Picks.nil | (apply Picks.cons; focus (repeat (first | exact Sel.here | apply Sel.there))) | apply Picks.skip)⟩
theorem eRight_c {r : Fr} {cs : List Value} {e : EvdT} (h : EvdRp.rel r cs e) : Con Go.Proofs.Try.prog 43 #[.agg cs.toArray] r [] (Ret fun v η => v = .bool (evdOk e) ∧ η = []) := by
  obtain ⟨xa3, xa4, xa8, xa9, xc3, xc4, xc8, xc9, rfl, _⟩ := EvdRp.sh h
  refine Con.of (n := 7) [.agg #[.int .i64 e.1.1, .int .i64 e.1.2.1, .int .i64 e.1.2.2.1, .slice xa3 e.1.2.2.2.1.length xc3, .slice xa4 e.1.2.2.2.2.1.length xc4, .int .i64 e.2.1.1, .int .i64 e.2.1.2.1, .int .i64 e.2.1.2.2.1, .slice xa8 e.2.1.2.2.2.1.length xc8, .slice xa9 e.2.1.2.2.2.2.1.length xc9]] rfl Go.Proofs.Try.func43 rfl rfl rfl fun g hg R hR => ?_
  have h := h.mono hg
  refine S.seq (S.region rfl ?_)
  refine O.opE (.p rfl) (.box (cs := [_, _, _, _, _, _, _, _, _, _]) rfl rfl) ?_
  rintro _ _ ⟨b1, rfl, rfl⟩
  refine O.op (.p rfl) (.as rfl) ?_
  refine O.nil ?_
  refine S.seq (S.region rfl ?_)
  refine O.op (.p rfl) (.loadObjAgg (news := [_, _, _, _, _, _, _, _, _, _]) Go.Proofs.Try.isAgg42 (by kernel_rfl) rfl (by repeat (first | exact Sel.here | apply Sel.there)) rfl) ?_
  refine O.call0 (.p rfl) rfl FactEvid2.ok54 rfl rfl (pairOf_c h) ?_
  rintro v4 _ ⟨rfl, rfl⟩
  try simp only [List.cons_append, List.nil_append, List.append_nil]
  refine O.call0 (.p rfl) rfl FactEvid2.ok55 rfl rfl (eorder_c h) ?_
  rintro v5 _ ⟨rfl, rfl⟩
  try simp only [List.cons_append, List.nil_append, List.append_nil]
  refine O.op (.p rfl) (.lss rfl rfl) ?_
  refine O.op (.p rfl) (.as rfl) ?_
  refine O.nil ?_
  refine S.ret Go.Proofs.Try.results43 rfl fun w hw => Holds.end_ hR hw ?_
  exact ⟨_, ⟨rfl, rfl⟩, by repeat (first | exact Picks.all | exact Picks.nil | (apply Picks.cons; focus (repeat (first | exact Sel.here | apply Sel.there))) | apply Picks.skip)⟩
theorem ePut_c {r : Fr} {cs : List Value} {e : EvdT} (h : EvdRp.rel r cs e) :
    Con Go.Proofs.Try.prog 32 #[.agg cs.toArray] r [] (Ret fun v η => ∃ a c, v = .tuple #[.slice a (evdOut e).length c, .int .i64 (evdErr e)] ∧ η = [OwnP Rp.u8 5 (.slice a (evdOut e).length c) (evdOut e)]) := by
  obtain ⟨xa3, xa4, xa8, xa9, xc3, xc4, xc8, xc9, rfl, _⟩ := EvdRp.sh h
  obtain ⟨h1, h2⟩ := EvdRp.two h
  refine Con.of (n := 29) [.agg #[.int .i64 e.1.1, .int .i64 e.1.2.1, .int .i64 e.1.2.2.1, .slice xa3 e.1.2.2.2.1.length xc3, .slice xa4 e.1.2.2.2.2.1.length xc4, .int .i64 e.2.1.1, .int .i64 e.2.1.2.1, .int .i64 e.2.1.2.2.1, .slice xa8 e.2.1.2.2.2.1.length xc8, .slice xa9 e.2.1.2.2.2.2.1.length xc9]] rfl Go.Proofs.Try.func32 rfl rfl rfl fun g hg R hR => ?_
  have h := h.mono hg
  have h1 := h1.mono hg
  have h2 := h2.mono hg
  cases eo : evdOk e with
  | false =>
    have e1 : evdOut e = [] := by simp [evdOut, eo]
    have e2 : evdErr e = 4 := by simp [evdErr, eo]
    rw [e1, e2] at hR
    refine S.seq (S.region rfl ?_)
    refine O.opE (.p rfl) (.box (cs := [_, _, _, _, _, _, _, _, _, _]) rfl rfl) ?_
    rintro _ _ ⟨b1, rfl, rfl⟩
    refine O.op (.p rfl) (.as rfl) ?_
    refine O.op (.p rfl) (.as rfl) ?_
    refine O.nil ?_
    refine S.seq (S.seq (S.region rfl ?_))
    refine O.op (.p rfl) (.loadObjAgg (news := [_, _, _, _, _, _, _, _, _, _]) Go.Proofs.Try.isAgg42 (by kernel_rfl) rfl (by repeat (first | exact Sel.here | apply Sel.there)) rfl) ?_
    refine O.call0 (.p rfl) rfl FactEvid2.ok43 rfl rfl (eRight_c h) ?_
    rintro v9 _ ⟨rfl, rfl⟩
    try simp only [List.cons_append, List.nil_append, List.append_nil]
    refine O.slot 9 (v' := .bool false) rfl (congrArg Value.bool (by exact eo)) ?_
    refine O.op (.p rfl) (.not rfl) ?_
    refine O.nil ?_
    refine S.condT rfl ?_
    refine S.seq (S.region rfl ?_)
    refine O.op (.p rfl) (.as rfl) ?_
    refine O.op (.p rfl) (.as rfl) ?_
    refine O.nil ?_
    refine S.addNil (T := Rp.u8) (e := 5) ?_
    refine S.ret2 Go.Proofs.Try.results32 rfl rfl fun w hw => Holds.end_ hR hw ?_
    exact ⟨_, ⟨none, 0, rfl, rfl⟩, by repeat (first | exact Picks.all | exact Picks.nil | (apply Picks.cons; focus (repeat (first | exact Sel.here | apply Sel.there))) | apply Picks.skip)⟩
  | true =>
    have e1 : evdOut e = evdB e := by simp [evdOut, eo]
    have e2 : evdErr e = 0 := by simp [evdErr, eo]
    have ho := evdOk_iff.1 eo
    have o1 : rootOut e.1 = rootB e.1 := by simp [rootOut, ho.1]
    have o2 : rootOut e.2.1 = rootB e.2.1 := by simp [rootOut, ho.2.1]
    have l1 := rootB_length ho.1
    have l2 := rootB_length ho.2.1
    have hl := evdB_length eo
    have hfl : [bytesOf (rootB e.1), bytesOf (rootB e.2.1)].flatten = evdB e := by simp [evdB]
    rw [e1, e2] at hR
    refine S.seq (S.region rfl ?_)
    refine O.opE (.p rfl) (.box (cs := [_, _, _, _, _, _, _, _, _, _]) rfl rfl) ?_
    rintro _ _ ⟨b1, rfl, rfl⟩
    refine O.op (.p rfl) (.as rfl) ?_
    refine O.op (.p rfl) (.as rfl) ?_
    refine O.nil ?_
    refine S.seq (S.seq (S.region rfl ?_))
    refine O.op (.p rfl) (.loadObjAgg (news := [_, _, _, _, _, _, _, _, _, _]) Go.Proofs.Try.isAgg42 (by kernel_rfl) rfl (by repeat (first | exact Sel.here | apply Sel.there)) rfl) ?_
    refine O.call0 (.p rfl) rfl FactEvid2.ok43 rfl rfl (eRight_c h) ?_
    rintro v9 _ ⟨rfl, rfl⟩
    try simp only [List.cons_append, List.nil_append, List.append_nil]
    refine O.slot 9 (v' := .bool true) rfl (congrArg Value.bool (by exact eo)) ?_
    refine O.op (.p rfl) (.not rfl) ?_
    refine O.nil ?_
    refine S.condF rfl ?_
    refine S.skip (S.seq (S.region rfl ?_))
    refine O.op (.p rfl) (.fieldObj FactEvid2.fld42x0 rfl) ?_
    refine O.op (.p rfl) (.loadObjAgg (news := [_, _, _, _, _]) Go.Proofs.Try.isAgg40 (by kernel_rfl) rfl (by repeat (first | exact Sel.here | apply Sel.there)) rfl) ?_
    refine O.call0 (.p rfl) rfl FactEvid2.ok31 rfl rfl (tPut_c h1) ?_
    rintro v14 _ ⟨a14, c14, rfl, rfl⟩
    try simp only [List.cons_append, List.nil_append, List.append_nil]
    rw [o1]
    refine O.op (.p rfl) (.mv rfl) ?_
    refine O.op (.p rfl) (.extract rfl rfl) ?_
    refine O.op (.p rfl) (.extract rfl rfl) ?_
    refine O.op (.p rfl) (.as rfl) ?_
    refine O.op (.p rfl) (.as rfl) ?_
    refine O.nil ?_
    refine S.seq (S.region rfl ?_)
    refine O.op (.p rfl) (.fieldObj FactEvid2.fld42x1 rfl) ?_
    refine O.op (.p rfl) (.loadObjAgg (news := [_, _, _, _, _]) Go.Proofs.Try.isAgg40 (by kernel_rfl) rfl (by repeat (first | exact Sel.here | apply Sel.there)) rfl) ?_
    refine O.call0 (.p rfl) rfl FactEvid2.ok31 rfl rfl (tPut_c h2) ?_
    rintro v20 _ ⟨a20, c20, rfl, rfl⟩
    try simp only [List.cons_append, List.nil_append, List.append_nil]
    rw [o2]
    refine O.op (.p rfl) (.mv rfl) ?_
    refine O.op (.p rfl) (.extract rfl rfl) ?_
    refine O.op (.p rfl) (.extract rfl rfl) ?_
    refine O.op (.p rfl) (.as rfl) ?_
    refine O.op (.p rfl) (.as rfl) ?_
    refine O.nil ?_
    refine S.seq ?_
    refine S.frzA (by repeat (first | exact Sel.here | apply Sel.there)) fun g hs hm hone => ?_
    replace hg := Fr.sub_trans hg hs
    replace hR := melted hR hm
    try replace h := h.mono hs
    try replace h1 := h1.mono hs
    try replace h2 := h2.mono hs
    clear hs hm
    refine S.frzA (by repeat (first | exact Sel.here | apply Sel.there)) fun g hs hm htwo => ?_
    replace hg := Fr.sub_trans hg hs
    replace hR := melted hR hm
    try replace h := h.mono hs
    try replace h1 := h1.mono hs
    try replace h2 := h2.mono hs
    try replace hone := hone.mono hs
    clear hs hm
    refine S.region rfl ?_
    refine O.op (.p rfl) (.mv rfl) ?_
    refine O.call0 (.p rfl) rfl FactEvid2.ok28 rfl rfl (wBytes_c (by first | assumption | exact Arr.mono hg (by assumption) | exact Arr.left (by assumption) | exact Arr.left (Arr.mono hg (by assumption))) (by first | omega | (simp; done) | (simp; omega) | decide)) ?_
    rintro v24 _ ⟨a24, c24, rfl, rfl⟩
    try simp only [List.cons_append, List.nil_append, List.append_nil]
    refine O.op (.p rfl) (.mv rfl) ?_
    refine O.call0 (.p rfl) rfl FactEvid2.ok28 rfl rfl (wBytes_c (by first | assumption | exact Arr.mono hg (by assumption) | exact Arr.left (by assumption) | exact Arr.left (Arr.mono hg (by assumption))) (by first | omega | (simp; done) | (simp; omega) | decide)) ?_
    rintro v26 _ ⟨a26, c26, rfl, rfl⟩
    try simp only [List.cons_append, List.nil_append, List.append_nil]
    refine O.opE (.p rfl) (.litP (T := Rp.val) (ys := [_, _]) Go.Proofs.Try.underlying79 FactEvid2.elem32 (by decide) rfl rfl ⟨⟨rfl, rfl⟩, ⟨rfl, rfl⟩, trivial⟩ (by decide)) ?_
    rintro _ _ ⟨a27, c27, rfl, rfl⟩
    refine O.callB (.p rfl) rfl FactEvid2.ok34 rfl rfl (bs := [OwnP Rp.val 32 (.slice a27 2 c27) [.slice a24 (bytesOf (rootB e.1)).length c24, .slice a26 (bytesOf (rootB e.2.1)).length c26], OwnP Rp.u8 5 (.slice a24 (bytesOf (rootB e.1)).length c24) (bytesOf (rootB e.1)), OwnP Rp.u8 5 (.slice a26 (bytesOf (rootB e.2.1)).length c26) (bytesOf (rootB e.2.1))]) (by repeat (first | exact Sels.nil | (apply Sels.cons; focus (repeat (first | exact Sel.here | apply Sel.there))))) (fun m hm hd => wJoin_c (xss := [bytesOf (rootB e.1), bytesOf (rootB e.2.1)]) ((hm.arr.right hd).rows ⟨hm.tail.arr.right hd, hm.tail.tail.arr.right hd, trivial⟩) (by rw [hfl]; omega)) ?_
    rintro v28 _ ⟨a28, c28, rfl, rfl⟩
    try simp only [List.cons_append, List.nil_append, List.append_nil]
    rw [hfl]
    refine O.op (.p rfl) (.as rfl) ?_
    refine O.op (.p rfl) (.as rfl) ?_
    refine O.nil ?_
    refine S.ret2 Go.Proofs.Try.results32 rfl rfl fun w hw => Holds.end_ hR hw ?_
    exact ⟨_, ⟨a28, c28, rfl, rfl⟩, by repeat (first | exact Picks.all | exact Picks.nil | (apply Picks.cons; focus (repeat (first | exact Sel.here | apply Sel.there))) | apply Picks.skip)⟩

end Go.Proofs.Ytodhbhanmdfdeaa
