import Derived.Test.YtodhbhanmdfdeaaImg7
import Derived.Test.YtodhbhanmdfdeaaSpImg2
open Go Go.Sp
set_option maxRecDepth 100000
attribute [local irreducible] obj Own OwnP
namespace Go.Proofs.Ytodhbhanmdfdeaa
theorem FactImg8.elem27 : elemIs Go.Proofs.Try.prog 27 4 96 [.slice none 0 0, .slice none 0 0, .slice none 0 0, .slice none 0 0] := elemIs.mk (by kernel_rfl) rfl
theorem FactImg8.flat22 : Go.Sp.flat1 Go.Proofs.Try.prog 22 = true := by kernel_rfl
theorem FactImg8.flat23 : Go.Sp.flat1 Go.Proofs.Try.prog 23 = true := by kernel_rfl
theorem FactImg8.flat24 : Go.Sp.flat1 Go.Proofs.Try.prog 24 = true := by kernel_rfl
theorem FactImg8.flat25 : Go.Sp.flat1 Go.Proofs.Try.prog 25 = true := by kernel_rfl
theorem FactImg8.fld27x0 : fieldOff Go.Proofs.Try.prog 27 0 = some 0 := by kernel_rfl
theorem FactImg8.fld27x1 : fieldOff Go.Proofs.Try.prog 27 1 = some 1 := by kernel_rfl
theorem FactImg8.fld27x2 : fieldOff Go.Proofs.Try.prog 27 2 = some 2 := by kernel_rfl
theorem FactImg8.fld27x3 : fieldOff Go.Proofs.Try.prog 27 3 = some 3 := by kernel_rfl
theorem FactImg8.ok4 : callable Go.Proofs.Try.prog 4 = true := by kernel_rfl
theorem FactImg8.ok5 : callable Go.Proofs.Try.prog 5 = true := by kernel_rfl
theorem FactImg8.ok6 : callable Go.Proofs.Try.prog 6 = true := by kernel_rfl
theorem FactImg8.size27 : (Go.Proofs.Try.prog.info? 27).map (·.size) = some 4 := by kernel_rfl
theorem FactImg8.size40 : (Go.Proofs.Try.prog.info? 40).map (·.size) = some 5 := by kernel_rfl
theorem FactImg8.size48 : (Go.Proofs.Try.prog.info? 48).map (·.size) = some 2 := by kernel_rfl

theorem imageParts_c {r : Fr} {cs : List Value} {h : HeldT} (hr : HeldRp.rel r cs h) (ho : HeldOk big h) :
    Con Go.Proofs.Try.prog 3 #[.agg cs.toArray] r [] (Ret fun v η => v = .bool true ∧ η = []) := by
  obtain ⟨xa0, xa1, xa2, xa3, xc0, xc1, xc2, xc3, rfl, k0, k1, k2, k3⟩ := HeldRp.sh hr
  refine Con.of (n := 70) [.agg #[.slice xa0 h.1.length xc0, .slice xa1 h.2.1.length xc1, .slice xa2 h.2.2.1.length xc2, .slice xa3 h.2.2.2.1.length xc3]] rfl Go.Proofs.Try.func3 rfl rfl rfl fun g hg R hR => ?_
  have hr := hr.mono hg
  have k0 := k0.mono hg
  have k1 := k1.mono hg
  have k2 := k2.mono hg
  have k3 := k3.mono hg
  have hbd0 := k0.bound
  have hbd1 := k1.bound
  refine S.seq (S.region rfl ?_)
  refine O.opE (.p rfl) (.box (cs := [_, _, _, _]) rfl rfl) ?_
  rintro _ _ ⟨b1, rfl, rfl⟩
  refine O.op (.p rfl) (.as rfl) ?_
  refine O.nil ?_
  refine S.seq (S.seq ?_)
  refine S.frzO (by repeat (first | exact Sel.here | apply Sel.there)) fun g hs hm hb1 => ?_
  replace hg := Fr.sub_trans hg hs
  replace hR := melted hR hm
  try replace hr := hr.mono hs
  try replace k0 := k0.mono hs
  try replace k1 := k1.mono hs
  try replace k2 := k2.mono hs
  try replace k3 := k3.mono hs
  clear hs hm
  refine S.region rfl ?_
  refine O.call0 (.p rfl) rfl FactImg8.ok4 rfl rfl (awake_c) ?_
  rintro v7 _ ⟨rfl, rfl⟩
  try simp only [List.cons_append, List.nil_append, List.append_nil]
  refine O.op (.p rfl) (.not rfl) ?_
  refine O.nil ?_
  refine S.condF rfl ?_
  refine S.skip (S.seq (S.seq (S.region rfl ?_)))
  refine O.op (.p rfl) (.loadAgg Go.Proofs.Try.isAgg27 (by kernel_rfl) rfl hb1) ?_
  refine O.call0 (.p rfl) rfl FactImg8.ok5 rfl rfl ((heldOf_c hr ho ⟨by decide, by decide⟩)) ?_
  rintro v10 _ ⟨n, rfl, hn, rfl⟩
  try simp only [List.cons_append, List.nil_append, List.append_nil]
  refine O.op (.p rfl) (.gtr rfl rfl) ?_
  refine O.nil ?_
  first | refine S.condD rfl (fun h11 => ?_) (fun h11 => ?_) | refine S.condB rfl (fun h11 => ?_) (fun h11 => ?_)
  · refine S.seq (S.region rfl ?_)
    refine O.op (.p rfl) (.as rfl) ?_
    refine O.nil ?_
    refine S.ret Go.Proofs.Try.results3 rfl fun w hw => Holds.end_ hR hw ?_
    exact ⟨_, ⟨rfl, rfl⟩, by repeat (first | exact Picks.all | exact Picks.nil | (apply Picks.cons; focus (repeat (first | exact Sel.here | apply Sel.there))) | apply Picks.skip)⟩
  · have hc : HeldC 3000 h := (hn (by omega)).mono (by omega)
    have hB := hc.b
    have hpb := heldParts_b hB
    refine S.skip (S.seq (S.region rfl ?_))
    refine O.op (.p rfl) (.fieldAddr FactImg8.fld27x0 rfl) ?_
    refine O.op (.p rfl) (.loadAt FactImg8.flat22 rfl hb1 rfl) ?_
    refine O.op (.p rfl) (.build (cs := [_, _, _, _]) Go.Proofs.Try.underlying27 rfl rfl rfl rfl rfl) ?_
    refine O.op (.p rfl) (.fieldAddr FactImg8.fld27x1 rfl) ?_
    refine O.op (.p rfl) (.loadAt FactImg8.flat23 rfl (hb1.drop 1) rfl) ?_
    refine O.op (.p rfl) (.build (cs := [_, _, _, _]) Go.Proofs.Try.underlying27 rfl rfl rfl rfl rfl) ?_
    refine O.op (.p rfl) (.fieldAddr FactImg8.fld27x2 rfl) ?_
    refine O.op (.p rfl) (.loadAt FactImg8.flat24 rfl (hb1.drop 2) rfl) ?_
    refine O.op (.p rfl) (.build (cs := [_, _, _, _]) Go.Proofs.Try.underlying27 rfl rfl rfl rfl rfl) ?_
    refine O.op (.p rfl) (.fieldAddr FactImg8.fld27x3 rfl) ?_
    refine O.op (.p rfl) (.loadAt FactImg8.flat25 rfl (hb1.drop 3) rfl) ?_
    refine O.op (.p rfl) (.build (cs := [_, _, _, _]) Go.Proofs.Try.underlying27 rfl rfl rfl rfl rfl) ?_
    refine O.opE (.p rfl) (.litP (T := Rp.cells 4) (ys := [[.slice xa0 h.1.length xc0, .slice none 0 0, .slice none 0 0, .slice none 0 0], [.slice none 0 0, .slice xa1 h.2.1.length xc1, .slice none 0 0, .slice none 0 0], [.slice none 0 0, .slice none 0 0, .slice xa2 h.2.2.1.length xc2, .slice none 0 0], [.slice none 0 0, .slice none 0 0, .slice none 0 0, .slice xa3 h.2.2.2.1.length xc3]]) Go.Proofs.Try.underlying30 FactImg8.elem27 (by decide) rfl rfl ⟨⟨rfl, rfl, by first | (simp; done) | (intro v hv; simp [Value.cells] at hv; rcases hv with rfl | rfl <;> rfl) | (refine List.forall_mem_cons.2 ⟨rfl, ?_⟩; repeat (first | exact (fun _ h => absurd h List.not_mem_nil) | refine List.forall_mem_cons.2 ⟨rfl, ?_⟩))⟩, ⟨rfl, rfl, by first | (simp; done) | (intro v hv; simp [Value.cells] at hv; rcases hv with rfl | rfl <;> rfl) | (refine List.forall_mem_cons.2 ⟨rfl, ?_⟩; repeat (first | exact (fun _ h => absurd h List.not_mem_nil) | refine List.forall_mem_cons.2 ⟨rfl, ?_⟩))⟩, ⟨rfl, rfl, by first | (simp; done) | (intro v hv; simp [Value.cells] at hv; rcases hv with rfl | rfl <;> rfl) | (refine List.forall_mem_cons.2 ⟨rfl, ?_⟩; repeat (first | exact (fun _ h => absurd h List.not_mem_nil) | refine List.forall_mem_cons.2 ⟨rfl, ?_⟩))⟩, ⟨rfl, rfl, by first | (simp; done) | (intro v hv; simp [Value.cells] at hv; rcases hv with rfl | rfl <;> rfl) | (refine List.forall_mem_cons.2 ⟨rfl, ?_⟩; repeat (first | exact (fun _ h => absurd h List.not_mem_nil) | refine List.forall_mem_cons.2 ⟨rfl, ?_⟩))⟩, trivial⟩ (by decide)) ?_
    rintro v24 _ ⟨a24, c24, rfl, rfl⟩
    refine O.op (.p rfl) (.as rfl) ?_
    refine O.nil ?_
    refine S.seq ?_
    refine S.frzA (by repeat (first | exact Sel.here | apply Sel.there)) fun g hs hm hps => ?_
    replace hg := Fr.sub_trans hg hs
    replace hR := melted hR hm
    try replace hr := hr.mono hs
    try replace k0 := k0.mono hs
    try replace k1 := k1.mono hs
    try replace k2 := k2.mono hs
    try replace k3 := k3.mono hs
    try replace hb1 := hb1.mono hs
    clear hs hm
    have hpr : Arr HeldRp g.h (.slice a24 4 c24) (heldParts h) := Arr.ofCells (xs := heldParts h) hps ⟨HeldRp.mk k0 Arr.nil Arr.nil Arr.nil, HeldRp.mk Arr.nil k1 Arr.nil Arr.nil, HeldRp.mk Arr.nil Arr.nil k2 Arr.nil, HeldRp.mk Arr.nil Arr.nil Arr.nil k3, trivial⟩ rfl
    have hlen : (heldParts h).length = 4 := rfl
    generalize hPs : heldParts h = ps at hpr hlen hpb
    refine S.region rfl ?_
    refine O.op (.p rfl) (.as rfl) ?_
    refine O.nil ?_
    refine S.seq (S.seq (S.region rfl ?_))
    refine O.op (.p rfl) (.as rfl) ?_
    refine O.nil ?_
    refine S.block ?_
    refine S.loopK (ι := Nat) (fun i => i ≤ 4) (fun i => [(4, .bool ((ps.take i).all (fun x => (imgW x).isSome))), (5, .int .i64 (i : Int))]) [(1, _), (3, _)] (fun i => []) (fun i => 4 - i) (0) (by simp) (.cons rfl (.cons rfl (.nil))) (.cons rfl (.cons rfl (.nil))) rfl fun i hx ih => ?_
    have hm1 := meltRefl (g := g)
    have hfull : i = 4 → (ps.take i).all (fun x => (imgW x).isSome) = (imgW h).isSome := fun e => by
      rw [e, ← hlen, List.take_length, ← hPs, imgW_parts]
    refine S.seq (S.seq (S.region rfl ?_))
    refine O.op (.p rfl) (.mv rfl) ?_
    refine O.op (.p rfl) (.mv rfl) ?_
    refine O.op (.p rfl) (.len rfl Go.Proofs.Try.underlying30 rfl) ?_
    refine O.op (.p rfl) (.lss rfl rfl) ?_
    refine O.nil ?_
    first | refine S.condD rfl (fun h28 => ?_) (fun h28 => ?_) | refine S.condB rfl (fun h28 => ?_) (fun h28 => ?_)
    · have hi : i < ps.length := by omega
      have hnx : (ps.take (i + 1)).all (fun x => (imgW x).isSome) = ((ps.take i).all (fun x => (imgW x).isSome) && (imgW ps[i]).isSome) := by
        rw [List.take_succ_eq_append_getElem hi, List.all_append]; simp
      cases e : (ps.take i).all (fun x => (imgW x).isSome) with
      | true =>
        rw [e, Bool.true_and] at hnx
        refine S.skip (S.seq (S.block (S.region rfl ?_)))
        refine O.op (.p rfl) (.mv rfl) ?_
        refine O.slot 31 (v' := .bool true) rfl (congrArg Value.bool (by rfl)) ?_
        refine O.op (.p rfl) (.mv rfl) ?_
        refine O.op (.g rfl rfl) (.mv rfl) ?_
        refine O.op (.g rfl rfl) (.mv rfl) ?_
        refine O.idx' (.g rfl rfl) Go.Proofs.Try.underlying30 FactImg8.size27 rfl rfl rfl (hpr) (by decide) (by first | omega | (simp; done) | (simp; omega) | decide) (fun p35 cs35 hp35 hr35 => ?_)
        obtain ⟨ga0_35, ga1_35, ga2_35, ga3_35, gc0_35, gc1_35, gc2_35, gc3_35, rfl, ha0_35, ha1_35, ha2_35, ha3_35⟩ := HeldRp.sh hr35
        refine O.op (.g rfl rfl) (.loadAgg Go.Proofs.Try.isAgg27 (by kernel_rfl) rfl hp35) ?_
        refine O.call0 (.g rfl rfl) rfl FactImg8.ok6 rfl rfl ((iRight_c hr35 (hpb _ (List.getElem_mem hi)))) ?_
        rintro v37 _ ⟨rfl, rfl⟩
        try simp only [List.cons_append, List.nil_append, List.append_nil]
        refine O.op (.p rfl) (.pickT rfl rfl) ?_
        refine O.slot 38 (v' := .bool ((ps.take (i + 1)).all (fun x => (imgW x).isSome))) rfl (by rw [hnx]) ?_
        refine O.op (.p rfl) (.as rfl) ?_
        refine O.nil ?_
        refine S.inBlock (S.region rfl ?_)
        refine O.op (.p rfl) (.mv rfl) ?_
        refine O.op (.p rfl) (.add rfl rfl (IntWalk.i64_in _ (by omega))) ?_
        refine O.op (.p rfl) (.as rfl) ?_
        refine O.nil ?_
        refine S.weaken ?_ (ih (i + 1) (by omega) (by omega))
        repeat (first | exact Sub.nil | refine Sub.cons rfl ?_)
      | false =>
        rw [e, Bool.false_and] at hnx
        refine S.skip (S.seq (S.block (S.region rfl ?_)))
        refine O.op (.p rfl) (.mv rfl) ?_
        refine O.slot 31 (v' := .bool false) rfl (congrArg Value.bool (by rfl)) ?_
        refine O.op (.p rfl) (.mv rfl) ?_
        refine O.opN rfl rfl rfl ?_
        refine O.opN rfl rfl rfl ?_
        refine O.opN rfl rfl rfl ?_
        refine O.opN rfl rfl rfl ?_
        refine O.opN rfl rfl rfl ?_
        refine O.op (.p rfl) (.pickF rfl rfl) ?_
        refine O.slot 38 (v' := .bool ((ps.take (i + 1)).all (fun x => (imgW x).isSome))) rfl (by rw [hnx]) ?_
        refine O.op (.p rfl) (.as rfl) ?_
        refine O.nil ?_
        refine S.inBlock (S.region rfl ?_)
        refine O.op (.p rfl) (.mv rfl) ?_
        refine O.op (.p rfl) (.add rfl rfl (IntWalk.i64_in _ (by omega))) ?_
        refine O.op (.p rfl) (.as rfl) ?_
        refine O.nil ?_
        refine S.weaken ?_ (ih (i + 1) (by omega) (by omega))
        repeat (first | exact Sub.nil | refine Sub.cons rfl ?_)
    · clear ih
      have hi : i = 4 := by omega
      have hf := hfull hi
      generalize (ps.take i).all (fun x => (imgW x).isSome) = al at hf ⊢
      subst hf
      refine S.exit rfl ?_
      refine S.seq (S.seq (S.region rfl ?_))
      refine O.op (.p rfl) (.mv rfl) ?_
      refine O.op (.p rfl) (.loadAgg Go.Proofs.Try.isAgg27 (by kernel_rfl) rfl hb1) ?_
      refine O.call0 (.p rfl) rfl FactImg8.ok6 rfl rfl ((iRight_c hr hB)) ?_
      rintro v41 _ ⟨rfl, rfl⟩
      try simp only [List.cons_append, List.nil_append, List.append_nil]
      refine O.op (.p rfl) (.neqB Go.Proofs.Try.underlying4 rfl rfl) ?_
      refine O.slot 42 (v' := .bool false) rfl (congrArg Value.bool (by simp)) ?_
      refine O.nil ?_
      refine S.condF rfl ?_
      refine S.skip (S.seq (S.region rfl ?_))
      refine O.op (.p rfl) (.loadAgg Go.Proofs.Try.isAgg27 (by kernel_rfl) rfl hb1) ?_
      refine O.opE (.p rfl) (.alloc (cs := [.slice none 0 0, .slice none 0 0, .slice none 0 0, .slice none 0 0]) Go.Proofs.Try.zeroValue27 rfl) ?_
      rintro _ _ ⟨b6, rfl, rfl⟩
      refine O.opU rfl (.storeObj (by kernel_rfl) rfl rfl rfl rfl (by repeat (first | exact Sel.here | apply Sel.there)) (by first | (simp; done) | (simp [Value.cells]; done))) ?_
      refine O.nil ?_
      refine S.seq (S.seq ?_)
      have hL := heldLess_b hB
      refine S.cut2 (fun (x : Option Addr × Nat) => Arr LeafRp g.h (.slice x.1 (h.1.take (h.1.length - 1)).length x.2) (h.1.take (h.1.length - 1))) (fun (x : Option Addr × Nat) => []) [(1, _), (4, _), (6, _)] (fun (x : Option Addr × Nat) => [obj b6 27 [.slice x.1 (h.1.take (h.1.length - 1)).length x.2, .slice xa1 h.2.1.length xc1, .slice xa2 h.2.2.1.length xc2, .slice xa3 h.2.2.2.1.length xc3]]) (.cons rfl (.cons rfl (.cons rfl (.nil)))) (fun key => ?_) (fun x hx => ?_)
      · have hm2 := meltRefl (g := g)
        by_cases n0 : h.1.length = 0
        ·
          have e0 : h.1 = [] := List.eq_nil_of_length_eq_zero n0
          have e1 : h.1.take (h.1.length - 1) = h.1 := by rw [e0]; rfl
          rw [e1] at key
          refine S.region rfl ?_
          refine O.op (.p rfl) (.fieldAddr FactImg8.fld27x0 rfl) ?_
          refine O.op (.p rfl) (.loadAt FactImg8.flat22 rfl hb1 rfl) ?_
          refine O.op (.p rfl) (.len rfl Go.Proofs.Try.underlying22 rfl) ?_
          refine O.op (.p rfl) (.gtr rfl rfl) ?_
          refine O.slot 47 (v' := .bool false) rfl (congrArg Value.bool (by exact decide_eq_false (by omega))) ?_
          refine O.nil ?_
          refine S.condF rfl ?_
          refine S.skip ?_
          refine S.pk ?_ (S.weaken ?_ (key ((xa0, xc0)) (by exact k0)))
          · repeat (first | exact Picks.all | exact Picks.nil | (apply Picks.cons; focus (repeat (first | exact Sel.here | apply Sel.there))) | apply Picks.skip)
          repeat (first | exact Sub.nil | refine Sub.cons rfl ?_)
        ·
          refine S.region rfl ?_
          refine O.op (.p rfl) (.fieldAddr FactImg8.fld27x0 rfl) ?_
          refine O.op (.p rfl) (.loadAt FactImg8.flat22 rfl hb1 rfl) ?_
          refine O.op (.p rfl) (.len rfl Go.Proofs.Try.underlying22 rfl) ?_
          refine O.op (.p rfl) (.gtr rfl rfl) ?_
          refine O.slot 47 (v' := .bool true) rfl (congrArg Value.bool (by exact decide_eq_true (by omega))) ?_
          refine O.nil ?_
          refine S.condT rfl ?_
          refine S.region rfl ?_
          refine O.op (.p rfl) (.fieldAddr FactImg8.fld27x0 rfl) ?_
          refine O.op (.p rfl) (.loadAt FactImg8.flat22 rfl hb1 rfl) ?_
          refine O.op (.p rfl) (.fieldAddr FactImg8.fld27x0 rfl) ?_
          refine O.op (.p rfl) (.loadAt FactImg8.flat22 rfl hb1 rfl) ?_
          refine O.op (.p rfl) (.len rfl Go.Proofs.Try.underlying22 rfl) ?_
          refine O.op (.p rfl) (.sub rfl rfl (IntWalk.i64_in _ (by omega))) ?_
          refine O.slot 53 (v' := .int .i64 ((h.1.length - 1 : Nat) : Int)) rfl (by exact congrArg _ (by omega)) ?_
          refine O.sliceTo (b := h.1.length - 1) (.p rfl) Go.Proofs.Try.underlying22 FactImg8.size48 rfl rfl (by assumption) (by first | omega | (simp; done) | (simp; omega) | decide) (by first | omega | (simp; done) | (simp; omega) | decide) (fun u54 ha54 => ?_)
          obtain ⟨a54, c54, rfl⟩ := ha54.shape
          refine O.op (.p rfl) (.fieldObj FactImg8.fld27x0 rfl) ?_
          refine O.opU rfl (.store1 FactImg8.flat22 rfl rfl (by first | rfl | assumption) (by repeat (first | exact Sel.here | apply Sel.there)) (by first | (simp; done) | (simp [Value.cells]; done))) ?_
          refine O.nil ?_
          refine S.pk ?_ (S.weaken ?_ (key ((a54, c54)) (by exact ha54)))
          · repeat (first | exact Picks.all | exact Picks.nil | (apply Picks.cons; focus (repeat (first | exact Sel.here | apply Sel.there))) | apply Picks.skip)
          repeat (first | exact Sub.nil | refine Sub.cons rfl ?_)
      · have hl := hx
        obtain ⟨xl, cl⟩ := x
        refine S.seq (S.seq ?_)
        refine S.cut2 (fun (y : Option Addr × Nat) => Arr RootRp g.h (.slice y.1 (h.2.1.drop 1).length y.2) (h.2.1.drop 1)) (fun (y : Option Addr × Nat) => []) [(4, _), (6, _)] (fun (y : Option Addr × Nat) => [obj b6 27 [.slice xl (h.1.take (h.1.length - 1)).length cl, .slice y.1 (h.2.1.drop 1).length y.2, .slice xa2 h.2.2.1.length xc2, .slice xa3 h.2.2.2.1.length xc3]]) (.cons rfl (.cons rfl (.nil))) (fun key => ?_) (fun y hx => ?_)
        · have hm2 := meltRefl (g := g)
          by_cases n0 : h.2.1.length = 0
          ·
            have e0 : h.2.1 = [] := List.eq_nil_of_length_eq_zero n0
            have e1 : h.2.1.drop 1 = h.2.1 := by rw [e0]; rfl
            rw [e1] at key
            refine S.region rfl ?_
            refine O.op (.p rfl) (.fieldAddr FactImg8.fld27x1 rfl) ?_
            refine O.op (.p rfl) (.loadAt FactImg8.flat23 rfl (hb1.drop 1) rfl) ?_
            refine O.op (.p rfl) (.len rfl Go.Proofs.Try.underlying23 rfl) ?_
            refine O.op (.p rfl) (.gtr rfl rfl) ?_
            refine O.slot 59 (v' := .bool false) rfl (congrArg Value.bool (by exact decide_eq_false (by omega))) ?_
            refine O.nil ?_
            refine S.condF rfl ?_
            refine S.skip ?_
            refine S.pk ?_ (S.weaken ?_ (key ((xa1, xc1)) (by exact k1)))
            · repeat (first | exact Picks.all | exact Picks.nil | (apply Picks.cons; focus (repeat (first | exact Sel.here | apply Sel.there))) | apply Picks.skip)
            repeat (first | exact Sub.nil | refine Sub.cons rfl ?_)
          ·
            refine S.region rfl ?_
            refine O.op (.p rfl) (.fieldAddr FactImg8.fld27x1 rfl) ?_
            refine O.op (.p rfl) (.loadAt FactImg8.flat23 rfl (hb1.drop 1) rfl) ?_
            refine O.op (.p rfl) (.len rfl Go.Proofs.Try.underlying23 rfl) ?_
            refine O.op (.p rfl) (.gtr rfl rfl) ?_
            refine O.slot 59 (v' := .bool true) rfl (congrArg Value.bool (by exact decide_eq_true (by omega))) ?_
            refine O.nil ?_
            refine S.condT rfl ?_
            refine S.region rfl ?_
            refine O.op (.p rfl) (.fieldAddr FactImg8.fld27x1 rfl) ?_
            refine O.op (.p rfl) (.loadAt FactImg8.flat23 rfl (hb1.drop 1) rfl) ?_
            refine O.sliceFrom (a := 1) (.p rfl) Go.Proofs.Try.underlying23 FactImg8.size40 rfl rfl (by assumption) (by first | omega | (simp; done) | (simp; omega) | decide) (by first | omega | (simp; done) | (simp; omega) | decide) (fun u62 ha62 => ?_)
            obtain ⟨a62, c62, rfl⟩ := ha62.shape
            refine O.op (.p rfl) (.fieldObj FactImg8.fld27x1 rfl) ?_
            refine O.opU rfl (.store1 FactImg8.flat23 rfl rfl (by first | rfl | assumption) (by repeat (first | exact Sel.here | apply Sel.there)) (by first | (simp; done) | (simp [Value.cells]; done))) ?_
            refine O.nil ?_
            refine S.pk ?_ (S.weaken ?_ (key ((a62, c62)) (by exact ha62)))
            · repeat (first | exact Picks.all | exact Picks.nil | (apply Picks.cons; focus (repeat (first | exact Sel.here | apply Sel.there))) | apply Picks.skip)
            repeat (first | exact Sub.nil | refine Sub.cons rfl ?_)
        ·
          cases e : (imgW h).isSome with
          | true =>
            refine S.seq (S.region rfl ?_)
            refine O.op (.p rfl) (.mv rfl) ?_
            refine O.slot 64 (v' := .bool true) rfl (congrArg Value.bool (by rfl)) ?_
            refine O.op (.p rfl) (.not rfl) ?_
            refine O.op (.p rfl) (.mv rfl) ?_
            refine O.op (.g rfl rfl) (.loadObjAgg (news := [_, _, _, _]) Go.Proofs.Try.isAgg27 (by kernel_rfl) rfl (by repeat (first | exact Sel.here | apply Sel.there)) rfl) ?_
            refine O.call0 (.g rfl rfl) rfl FactImg8.ok6 rfl rfl ((iRight_c (x := heldLess h) (HeldRp.mk hl hx k2 k3) hL)) ?_
            rintro v68 _ ⟨rfl, rfl⟩
            try simp only [List.cons_append, List.nil_append, List.append_nil]
            refine O.op (.p rfl) (.pickF rfl rfl) ?_
            refine O.op (.p rfl) (.as rfl) ?_
            refine O.nil ?_
            refine S.ret Go.Proofs.Try.results3 rfl fun w hw => Holds.end_ hR hw ?_
            exact ⟨_, ⟨congrArg _ (imgW_less h e), rfl⟩, by repeat (first | exact Picks.all | exact Picks.nil | (apply Picks.cons; focus (repeat (first | exact Sel.here | apply Sel.there))) | apply Picks.skip)⟩
          | false =>
            refine S.seq (S.region rfl ?_)
            refine O.op (.p rfl) (.mv rfl) ?_
            refine O.slot 64 (v' := .bool false) rfl (congrArg Value.bool (by rfl)) ?_
            refine O.op (.p rfl) (.not rfl) ?_
            refine O.op (.p rfl) (.mv rfl) ?_
            refine O.opN rfl rfl rfl ?_
            refine O.opN rfl rfl rfl ?_
            refine O.op (.p rfl) (.pickT rfl rfl) ?_
            refine O.op (.p rfl) (.as rfl) ?_
            refine O.nil ?_
            refine S.ret Go.Proofs.Try.results3 rfl fun w hw => Holds.end_ hR hw ?_
            exact ⟨_, ⟨rfl, rfl⟩, by repeat (first | exact Picks.all | exact Picks.nil | (apply Picks.cons; focus (repeat (first | exact Sel.here | apply Sel.there))) | apply Picks.skip)⟩

end Go.Proofs.Ytodhbhanmdfdeaa
