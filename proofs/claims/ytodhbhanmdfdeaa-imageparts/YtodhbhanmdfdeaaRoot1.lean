import Derived.Test.YtodhbhanmdfdeaaWire1
import Derived.Test.YtodhbhanmdfdeaaTry1
import Derived.Test.YtodhbhanmdfdeaaSpRoot
open Go Go.Sp
set_option maxRecDepth 100000
attribute [local irreducible] obj Own OwnP
namespace Go.Proofs.Ytodhbhanmdfdeaa
theorem FactRoot1.elem3 : elemIs Go.Proofs.Try.prog 3 1 8 [.int .i64 0] := elemIs.mk (by kernel_rfl) rfl
theorem FactRoot1.elem32 : elemIs Go.Proofs.Try.prog 32 1 24 [.slice none 0 0] := elemIs.mk (by kernel_rfl) rfl
theorem FactRoot1.elem5 : elemIs Go.Proofs.Try.prog 5 1 1 [.int .u8 0] := elemIs.mk (by kernel_rfl) rfl
theorem FactRoot1.flat3 : Go.Sp.flat1 Go.Proofs.Try.prog 3 = true := by kernel_rfl
theorem FactRoot1.flat32 : Go.Sp.flat1 Go.Proofs.Try.prog 32 = true := by kernel_rfl
theorem FactRoot1.fld40x0 : fieldOff Go.Proofs.Try.prog 40 0 = some 0 := by kernel_rfl
theorem FactRoot1.fld40x1 : fieldOff Go.Proofs.Try.prog 40 1 = some 1 := by kernel_rfl
theorem FactRoot1.fld40x2 : fieldOff Go.Proofs.Try.prog 40 2 = some 2 := by kernel_rfl
theorem FactRoot1.fld40x3 : fieldOff Go.Proofs.Try.prog 40 3 = some 3 := by kernel_rfl
theorem FactRoot1.fld40x4 : fieldOff Go.Proofs.Try.prog 40 4 = some 4 := by kernel_rfl
theorem FactRoot1.fld90x0 : fieldOff Go.Proofs.Try.prog 90 0 = some 0 := by kernel_rfl
theorem FactRoot1.mixed : Go.Proofs.Try.prog.follows .mixedOrders = true := by kernel_rfl
theorem FactRoot1.ok26 : callable Go.Proofs.Try.prog 26 = true := by kernel_rfl
theorem FactRoot1.ok34 : callable Go.Proofs.Try.prog 34 = true := by kernel_rfl
theorem FactRoot1.ok38 : callable Go.Proofs.Try.prog 38 = true := by kernel_rfl
theorem FactRoot1.ok39 : callable Go.Proofs.Try.prog 39 = true := by kernel_rfl
theorem FactRoot1.ok40 : callable Go.Proofs.Try.prog 40 = true := by kernel_rfl
theorem FactRoot1.ok41 : callable Go.Proofs.Try.prog 41 = true := by kernel_rfl
theorem FactRoot1.ok42 : callable Go.Proofs.Try.prog 42 = true := by kernel_rfl
theorem FactRoot1.ok52 : callable Go.Proofs.Try.prog 52 = true := by kernel_rfl
theorem FactRoot1.ok53 : callable Go.Proofs.Try.prog 53 = true := by kernel_rfl
theorem FactRoot1.size3 : (Go.Proofs.Try.prog.info? 3).map (·.size) = some 1 := by kernel_rfl

theorem pshape_c {r : Fr} {cs : List Value} {x : RootT} (h : RootRp.rel r cs x) : Con Go.Proofs.Try.prog 52 #[.agg cs.toArray] r [] (Ret fun v η => v = .bool (rootShape x) ∧ η = []) := by
  obtain ⟨xa3, xa4, xc3, xc4, rfl, k0, k1, k2, k3, k4⟩ := RootRp.sh h
  refine Con.of (n := 44) [.agg #[.int .i64 x.1, .int .i64 x.2.1, .int .i64 x.2.2.1, .slice xa3 x.2.2.2.1.length xc3, .slice xa4 x.2.2.2.2.1.length xc4]] rfl Go.Proofs.Try.func52 rfl rfl rfl fun g hg R hR => ?_
  refine S.seq (S.region rfl ?_)
  refine O.opE (.p rfl) (.box (cs := [_, _, _, _, _]) rfl rfl) ?_
  rintro _ _ ⟨b1, rfl, rfl⟩
  refine O.op (.p rfl) (.as rfl) ?_
  refine O.nil ?_
  refine S.seq (S.region rfl ?_)
  refine O.op (.p rfl) (.fieldObj FactRoot1.fld90x0 rfl) ?_
  refine O.op (.p rfl) (.fieldObj FactRoot1.fld40x0 rfl) ?_
  refine O.op (.p rfl) (.loadObj FactRoot1.flat3 rfl (by repeat (first | exact Sel.here | apply Sel.there)) rfl) ?_
  refine O.op (.p rfl) (.geq rfl rfl) ?_
  refine O.op (.p rfl) (.mv rfl) ?_
  first | refine O.caseD 7 rfl (fun h7 => ?_) (fun h7 => ?_) | refine O.caseB 7 rfl (fun h7 => ?_) (fun h7 => ?_)
  · refine O.op (.g rfl rfl) (.fieldObj FactRoot1.fld90x0 rfl) ?_
    refine O.op (.g rfl rfl) (.fieldObj FactRoot1.fld40x0 rfl) ?_
    refine O.op (.g rfl rfl) (.loadObj FactRoot1.flat3 rfl (by repeat (first | exact Sel.here | apply Sel.there)) rfl) ?_
    refine O.op (.g rfl rfl) (.leq rfl rfl) ?_
    refine O.op (.p rfl) (.pickT rfl rfl) ?_
    refine O.op (.p rfl) (.mv rfl) ?_
    first | refine O.caseD 13 rfl (fun h13 => ?_) (fun h13 => ?_) | refine O.caseB 13 rfl (fun h13 => ?_) (fun h13 => ?_)
    · refine O.op (.g rfl rfl) (.fieldObj FactRoot1.fld90x0 rfl) ?_
      refine O.op (.g rfl rfl) (.fieldObj FactRoot1.fld40x1 rfl) ?_
      refine O.op (.g rfl rfl) (.loadObj FactRoot1.flat3 rfl (by repeat (first | exact Sel.here | apply Sel.there)) rfl) ?_
      refine O.op (.g rfl rfl) (.geq rfl rfl) ?_
      refine O.op (.p rfl) (.pickT rfl rfl) ?_
      refine O.op (.p rfl) (.mv rfl) ?_
      first | refine O.caseD 19 rfl (fun h19 => ?_) (fun h19 => ?_) | refine O.caseB 19 rfl (fun h19 => ?_) (fun h19 => ?_)
      · refine O.op (.g rfl rfl) (.fieldObj FactRoot1.fld90x0 rfl) ?_
        refine O.op (.g rfl rfl) (.fieldObj FactRoot1.fld40x1 rfl) ?_
        refine O.op (.g rfl rfl) (.loadObj FactRoot1.flat3 rfl (by repeat (first | exact Sel.here | apply Sel.there)) rfl) ?_
        refine O.op (.g rfl rfl) (.lss rfl rfl) ?_
        refine O.op (.p rfl) (.pickT rfl rfl) ?_
        refine O.op (.p rfl) (.mv rfl) ?_
        first | refine O.caseD 25 rfl (fun h25 => ?_) (fun h25 => ?_) | refine O.caseB 25 rfl (fun h25 => ?_) (fun h25 => ?_)
        · refine O.op (.g rfl rfl) (.fieldObj FactRoot1.fld90x0 rfl) ?_
          refine O.op (.g rfl rfl) (.fieldObj FactRoot1.fld40x2 rfl) ?_
          refine O.op (.g rfl rfl) (.loadObj FactRoot1.flat3 rfl (by repeat (first | exact Sel.here | apply Sel.there)) rfl) ?_
          refine O.op (.g rfl rfl) (.geq rfl rfl) ?_
          refine O.op (.p rfl) (.pickT rfl rfl) ?_
          refine O.op (.p rfl) (.mv rfl) ?_
          first | refine O.caseD 31 rfl (fun h31 => ?_) (fun h31 => ?_) | refine O.caseB 31 rfl (fun h31 => ?_) (fun h31 => ?_)
          · refine O.op (.g rfl rfl) (.fieldObj FactRoot1.fld90x0 rfl) ?_
            refine O.op (.g rfl rfl) (.fieldObj FactRoot1.fld40x2 rfl) ?_
            refine O.op (.g rfl rfl) (.loadObj FactRoot1.flat3 rfl (by repeat (first | exact Sel.here | apply Sel.there)) rfl) ?_
            refine O.op (.g rfl rfl) (.leq rfl rfl) ?_
            refine O.op (.p rfl) (.pickT rfl rfl) ?_
            refine O.op (.p rfl) (.mv rfl) ?_
            first | refine O.caseD 37 rfl (fun h37 => ?_) (fun h37 => ?_) | refine O.caseB 37 rfl (fun h37 => ?_) (fun h37 => ?_)
            · refine O.op (.g rfl rfl) (.fieldObj FactRoot1.fld90x0 rfl) ?_
              refine O.op (.g rfl rfl) (.fieldObj FactRoot1.fld40x3 rfl) ?_
              refine O.op (.g rfl rfl) (.loadObj FactRoot1.flat32 rfl (by repeat (first | exact Sel.here | apply Sel.there)) rfl) ?_
              refine O.op (.g rfl rfl) (.len rfl Go.Proofs.Try.underlying32 rfl) ?_
              refine O.op (.g rfl rfl) (.eql rfl rfl) ?_
              refine O.op (.p rfl) (.pickT rfl rfl) ?_
              refine O.op (.p rfl) (.as rfl) ?_
              refine O.nil ?_
              refine S.ret Go.Proofs.Try.results52 rfl fun w hw => Holds.end_ hR hw ?_
              first | exact ⟨_, ⟨congrArg _ (decide_eq_false (by omega)).symm, rfl⟩, by repeat (first | exact Picks.all | exact Picks.nil | (apply Picks.cons; focus (repeat (first | exact Sel.here | apply Sel.there))) | apply Picks.skip)⟩ | exact ⟨_, ⟨congrArg _ (decide_eq_decide.2 (by omega)), rfl⟩, by repeat (first | exact Picks.all | exact Picks.nil | (apply Picks.cons; focus (repeat (first | exact Sel.here | apply Sel.there))) | apply Picks.skip)⟩
            · refine O.opN rfl rfl rfl ?_
              refine O.opN rfl rfl rfl ?_
              refine O.opN rfl rfl rfl ?_
              refine O.opN rfl rfl rfl ?_
              refine O.opN rfl rfl rfl ?_
              refine O.op (.p rfl) (.pickF rfl rfl) ?_
              refine O.op (.p rfl) (.as rfl) ?_
              refine O.nil ?_
              refine S.ret Go.Proofs.Try.results52 rfl fun w hw => Holds.end_ hR hw ?_
              first | exact ⟨_, ⟨congrArg _ (decide_eq_false (by omega)).symm, rfl⟩, by repeat (first | exact Picks.all | exact Picks.nil | (apply Picks.cons; focus (repeat (first | exact Sel.here | apply Sel.there))) | apply Picks.skip)⟩ | exact ⟨_, ⟨congrArg _ (decide_eq_decide.2 (by omega)), rfl⟩, by repeat (first | exact Picks.all | exact Picks.nil | (apply Picks.cons; focus (repeat (first | exact Sel.here | apply Sel.there))) | apply Picks.skip)⟩
          · refine O.opN rfl rfl rfl ?_
            refine O.opN rfl rfl rfl ?_
            refine O.opN rfl rfl rfl ?_
            refine O.opN rfl rfl rfl ?_
            refine O.op (.p rfl) (.pickF rfl rfl) ?_
            refine O.op (.p rfl) (.mv rfl) ?_
            refine O.opN rfl rfl rfl ?_
            refine O.opN rfl rfl rfl ?_
            refine O.opN rfl rfl rfl ?_
            refine O.opN rfl rfl rfl ?_
            refine O.opN rfl rfl rfl ?_
            refine O.op (.p rfl) (.pickF rfl rfl) ?_
            refine O.op (.p rfl) (.as rfl) ?_
            refine O.nil ?_
            refine S.ret Go.Proofs.Try.results52 rfl fun w hw => Holds.end_ hR hw ?_
            first | exact ⟨_, ⟨congrArg _ (decide_eq_false (by omega)).symm, rfl⟩, by repeat (first | exact Picks.all | exact Picks.nil | (apply Picks.cons; focus (repeat (first | exact Sel.here | apply Sel.there))) | apply Picks.skip)⟩ | exact ⟨_, ⟨congrArg _ (decide_eq_decide.2 (by omega)), rfl⟩, by repeat (first | exact Picks.all | exact Picks.nil | (apply Picks.cons; focus (repeat (first | exact Sel.here | apply Sel.there))) | apply Picks.skip)⟩
        · refine O.opN rfl rfl rfl ?_
          refine O.opN rfl rfl rfl ?_
          refine O.opN rfl rfl rfl ?_
          refine O.opN rfl rfl rfl ?_
          refine O.op (.p rfl) (.pickF rfl rfl) ?_
          refine O.op (.p rfl) (.mv rfl) ?_
          refine O.opN rfl rfl rfl ?_
          refine O.opN rfl rfl rfl ?_
          refine O.opN rfl rfl rfl ?_
          refine O.opN rfl rfl rfl ?_
          refine O.op (.p rfl) (.pickF rfl rfl) ?_
          refine O.op (.p rfl) (.mv rfl) ?_
          refine O.opN rfl rfl rfl ?_
          refine O.opN rfl rfl rfl ?_
          refine O.opN rfl rfl rfl ?_
          refine O.opN rfl rfl rfl ?_
          refine O.opN rfl rfl rfl ?_
          refine O.op (.p rfl) (.pickF rfl rfl) ?_
          refine O.op (.p rfl) (.as rfl) ?_
          refine O.nil ?_
          refine S.ret Go.Proofs.Try.results52 rfl fun w hw => Holds.end_ hR hw ?_
          first | exact ⟨_, ⟨congrArg _ (decide_eq_false (by omega)).symm, rfl⟩, by repeat (first | exact Picks.all | exact Picks.nil | (apply Picks.cons; focus (repeat (first | exact Sel.here | apply Sel.there))) | apply Picks.skip)⟩ | exact ⟨_, ⟨congrArg _ (decide_eq_decide.2 (by omega)), rfl⟩, by repeat (first | exact Picks.all | exact Picks.nil | (apply Picks.cons; focus (repeat (first | exact Sel.here | apply Sel.there))) | apply Picks.skip)⟩
      · refine O.opN rfl rfl rfl ?_
        refine O.opN rfl rfl rfl ?_
        refine O.opN rfl rfl rfl ?_
        refine O.opN rfl rfl rfl ?_
        refine O.op (.p rfl) (.pickF rfl rfl) ?_
        refine O.op (.p rfl) (.mv rfl) ?_
        refine O.opN rfl rfl rfl ?_
        refine O.opN rfl rfl rfl ?_
        refine O.opN rfl rfl rfl ?_
        refine O.opN rfl rfl rfl ?_
        refine O.op (.p rfl) (.pickF rfl rfl) ?_
        refine O.op (.p rfl) (.mv rfl) ?_
        refine O.opN rfl rfl rfl ?_
        refine O.opN rfl rfl rfl ?_
        refine O.opN rfl rfl rfl ?_
        refine O.opN rfl rfl rfl ?_
        refine O.op (.p rfl) (.pickF rfl rfl) ?_
        refine O.op (.p rfl) (.mv rfl) ?_
        refine O.opN rfl rfl rfl ?_
        refine O.opN rfl rfl rfl ?_
        refine O.opN rfl rfl rfl ?_
        refine O.opN rfl rfl rfl ?_
        refine O.opN rfl rfl rfl ?_
        refine O.op (.p rfl) (.pickF rfl rfl) ?_
        refine O.op (.p rfl) (.as rfl) ?_
        refine O.nil ?_
        refine S.ret Go.Proofs.Try.results52 rfl fun w hw => Holds.end_ hR hw ?_
        first | exact ⟨_, ⟨congrArg _ (decide_eq_false (by omega)).symm, rfl⟩, by repeat (first | exact Picks.all | exact Picks.nil | (apply Picks.cons; focus (repeat (first | exact Sel.here | apply Sel.there))) | apply Picks.skip)⟩ | exact ⟨_, ⟨congrArg _ (decide_eq_decide.2 (by omega)), rfl⟩, by repeat (first | exact Picks.all | exact Picks.nil | (apply Picks.cons; focus (repeat (first | exact Sel.here | apply Sel.there))) | apply Picks.skip)⟩
    · refine O.opN rfl rfl rfl ?_
      refine O.opN rfl rfl rfl ?_
      refine O.opN rfl rfl rfl ?_
      refine O.opN rfl rfl rfl ?_
      refine O.op (.p rfl) (.pickF rfl rfl) ?_
      refine O.op (.p rfl) (.mv rfl) ?_
      refine O.opN rfl rfl rfl ?_
      refine O.opN rfl rfl rfl ?_
      refine O.opN rfl rfl rfl ?_
      refine O.opN rfl rfl rfl ?_
      refine O.op (.p rfl) (.pickF rfl rfl) ?_
      refine O.op (.p rfl) (.mv rfl) ?_
      refine O.opN rfl rfl rfl ?_
      refine O.opN rfl rfl rfl ?_
      refine O.opN rfl rfl rfl ?_
      refine O.opN rfl rfl rfl ?_
      refine O.op (.p rfl) (.pickF rfl rfl) ?_
      refine O.op (.p rfl) (.mv rfl) ?_
      refine O.opN rfl rfl rfl ?_
      refine O.opN rfl rfl rfl ?_
      refine O.opN rfl rfl rfl ?_
      refine O.opN rfl rfl rfl ?_
      refine O.op (.p rfl) (.pickF rfl rfl) ?_
      refine O.op (.p rfl) (.mv rfl) ?_
      refine O.opN rfl rfl rfl ?_
      refine O.opN rfl rfl rfl ?_
      refine O.opN rfl rfl rfl ?_
      refine O.opN rfl rfl rfl ?_
      refine O.opN rfl rfl rfl ?_
      refine O.op (.p rfl) (.pickF rfl rfl) ?_
      refine O.op (.p rfl) (.as rfl) ?_
      refine O.nil ?_
      refine S.ret Go.Proofs.Try.results52 rfl fun w hw => Holds.end_ hR hw ?_
      first | exact ⟨_, ⟨congrArg _ (decide_eq_false (by omega)).symm, rfl⟩, by repeat (first | exact Picks.all | exact Picks.nil | (apply Picks.cons; focus (repeat (first | exact Sel.here | apply Sel.there))) | apply Picks.skip)⟩ | exact ⟨_, ⟨congrArg _ (decide_eq_decide.2 (by omega)), rfl⟩, by repeat (first | exact Picks.all | exact Picks.nil | (apply Picks.cons; focus (repeat (first | exact Sel.here | apply Sel.there))) | apply Picks.skip)⟩
  · refine O.opN rfl rfl rfl ?_
    refine O.opN rfl rfl rfl ?_
    refine O.opN rfl rfl rfl ?_
    refine O.opN rfl rfl rfl ?_
    refine O.op (.p rfl) (.pickF rfl rfl) ?_
    refine O.op (.p rfl) (.mv rfl) ?_
    refine O.opN rfl rfl rfl ?_
    refine O.opN rfl rfl rfl ?_
    refine O.opN rfl rfl rfl ?_
    refine O.opN rfl rfl rfl ?_
    refine O.op (.p rfl) (.pickF rfl rfl) ?_
    refine O.op (.p rfl) (.mv rfl) ?_
    refine O.opN rfl rfl rfl ?_
    refine O.opN rfl rfl rfl ?_
    refine O.opN rfl rfl rfl ?_
    refine O.opN rfl rfl rfl ?_
    refine O.op (.p rfl) (.pickF rfl rfl) ?_
    refine O.op (.p rfl) (.mv rfl) ?_
    refine O.opN rfl rfl rfl ?_
    refine O.opN rfl rfl rfl ?_
    refine O.opN rfl rfl rfl ?_
    refine O.opN rfl rfl rfl ?_
    refine O.op (.p rfl) (.pickF rfl rfl) ?_
    refine O.op (.p rfl) (.mv rfl) ?_
    refine O.opN rfl rfl rfl ?_
    refine O.opN rfl rfl rfl ?_
    refine O.opN rfl rfl rfl ?_
    refine O.opN rfl rfl rfl ?_
    refine O.op (.p rfl) (.pickF rfl rfl) ?_
    refine O.op (.p rfl) (.mv rfl) ?_
    refine O.opN rfl rfl rfl ?_
    refine O.opN rfl rfl rfl ?_
    refine O.opN rfl rfl rfl ?_
    refine O.opN rfl rfl rfl ?_
    refine O.opN rfl rfl rfl ?_
    refine O.op (.p rfl) (.pickF rfl rfl) ?_
    refine O.op (.p rfl) (.as rfl) ?_
    refine O.nil ?_
    refine S.ret Go.Proofs.Try.results52 rfl fun w hw => Holds.end_ hR hw ?_
    first | exact ⟨_, ⟨congrArg _ (decide_eq_false (by omega)).symm, rfl⟩, by repeat (first | exact Picks.all | exact Picks.nil | (apply Picks.cons; focus (repeat (first | exact Sel.here | apply Sel.there))) | apply Picks.skip)⟩ | exact ⟨_, ⟨congrArg _ (decide_eq_decide.2 (by omega)), rfl⟩, by repeat (first | exact Picks.all | exact Picks.nil | (apply Picks.cons; focus (repeat (first | exact Sel.here | apply Sel.there))) | apply Picks.skip)⟩
theorem pright_c {r : Fr} {cs : List Value} {x : RootT} (h : RootRp.rel r cs x) : Con Go.Proofs.Try.prog 41 #[.agg cs.toArray] r [] (Ret fun v η => v = .bool (rootOk x) ∧ η = []) := by
  obtain ⟨xa3, xa4, xc3, xc4, rfl, k0, k1, k2, k3, k4⟩ := RootRp.sh h
  refine Con.of (n := 12) [.agg #[.int .i64 x.1, .int .i64 x.2.1, .int .i64 x.2.2.1, .slice xa3 x.2.2.2.1.length xc3, .slice xa4 x.2.2.2.2.1.length xc4]] rfl Go.Proofs.Try.func41 rfl rfl rfl fun g hg R hR => ?_
  have h := h.mono hg
  cases e : rootShape x with
  | false =>
    refine S.seq (S.region rfl ?_)
    refine O.opE (.p rfl) (.box (cs := [_, _, _, _, _]) rfl rfl) ?_
    rintro _ _ ⟨b1, rfl, rfl⟩
    refine O.op (.p rfl) (.as rfl) ?_
    refine O.nil ?_
    refine S.seq (S.region rfl ?_)
    refine O.op (.p rfl) (.loadObjAgg (news := [_, _, _, _, _]) Go.Proofs.Try.isAgg90 (by kernel_rfl) rfl (by repeat (first | exact Sel.here | apply Sel.there)) rfl) ?_
    refine O.call0 (.p rfl) rfl FactRoot1.ok52 rfl rfl (pshape_c h) ?_
    rintro v4 _ ⟨rfl, rfl⟩
    try simp only [List.cons_append, List.nil_append, List.append_nil]
    refine O.slot 4 (v' := .bool false) rfl (congrArg Value.bool (by exact e)) ?_
    refine O.op (.p rfl) (.mv rfl) ?_
    refine O.opN rfl rfl rfl ?_
    refine O.opN rfl rfl rfl ?_
    refine O.opN rfl rfl rfl ?_
    refine O.opN rfl rfl rfl ?_
    refine O.opN rfl rfl rfl ?_
    refine O.op (.p rfl) (.pickF rfl rfl) ?_
    refine O.op (.p rfl) (.as rfl) ?_
    refine O.nil ?_
    refine S.ret Go.Proofs.Try.results41 rfl fun w hw => Holds.end_ hR hw ?_
    exact ⟨_, ⟨by simp [rootOk, e], rfl⟩, by repeat (first | exact Picks.all | exact Picks.nil | (apply Picks.cons; focus (repeat (first | exact Sel.here | apply Sel.there))) | apply Picks.skip)⟩
  | true =>
    refine S.seq (S.region rfl ?_)
    refine O.opE (.p rfl) (.box (cs := [_, _, _, _, _]) rfl rfl) ?_
    rintro _ _ ⟨b1, rfl, rfl⟩
    refine O.op (.p rfl) (.as rfl) ?_
    refine O.nil ?_
    refine S.seq (S.region rfl ?_)
    refine O.op (.p rfl) (.loadObjAgg (news := [_, _, _, _, _]) Go.Proofs.Try.isAgg90 (by kernel_rfl) rfl (by repeat (first | exact Sel.here | apply Sel.there)) rfl) ?_
    refine O.call0 (.p rfl) rfl FactRoot1.ok52 rfl rfl (pshape_c h) ?_
    rintro v4 _ ⟨rfl, rfl⟩
    try simp only [List.cons_append, List.nil_append, List.append_nil]
    refine O.slot 4 (v' := .bool true) rfl (congrArg Value.bool (by exact e)) ?_
    refine O.op (.p rfl) (.mv rfl) ?_
    refine O.op (.g rfl rfl) (.fieldObj FactRoot1.fld90x0 rfl) ?_
    refine O.op (.g rfl rfl) (.fieldObj FactRoot1.fld40x4 rfl) ?_
    refine O.op (.g rfl rfl) (.loadObj FactRoot1.flat32 rfl (by repeat (first | exact Sel.here | apply Sel.there)) rfl) ?_
    refine O.op (.g rfl rfl) (.len rfl Go.Proofs.Try.underlying32 rfl) ?_
    refine O.op (.g rfl rfl) (.eql rfl rfl) ?_
    refine O.op (.p rfl) (.pickT rfl rfl) ?_
    refine O.op (.p rfl) (.as rfl) ?_
    refine O.nil ?_
    refine S.ret Go.Proofs.Try.results41 rfl fun w hw => Holds.end_ hR hw ?_
    exact ⟨_, ⟨by simp [rootOk, e]; omega, rfl⟩, by repeat (first | exact Picks.all | exact Picks.nil | (apply Picks.cons; focus (repeat (first | exact Sel.here | apply Sel.there))) | apply Picks.skip)⟩
theorem tRight_c {r : Fr} {cs : List Value} {x : RootT} (h : RootRp.rel r cs x) : Con Go.Proofs.Try.prog 64 #[.agg cs.toArray] r [] (Ret fun v η => v = .bool (rootOk x) ∧ η = []) := by
  obtain ⟨xa3, xa4, xc3, xc4, rfl, k0, k1, k2, k3, k4⟩ := RootRp.sh h
  refine Con.of (n := 6) [.agg #[.int .i64 x.1, .int .i64 x.2.1, .int .i64 x.2.2.1, .slice xa3 x.2.2.2.1.length xc3, .slice xa4 x.2.2.2.2.1.length xc4]] rfl Go.Proofs.Try.func64 rfl rfl rfl fun g hg R hR => ?_
  have h := h.mono hg
  refine S.seq (S.region rfl ?_)
  refine O.opE (.p rfl) (.box (cs := [_, _, _, _, _]) rfl rfl) ?_
  rintro _ _ ⟨b1, rfl, rfl⟩
  refine O.op (.p rfl) (.as rfl) ?_
  refine O.nil ?_
  refine S.seq (S.region rfl ?_)
  refine O.op (.p rfl) (.loadObjAgg (news := [_, _, _, _, _]) Go.Proofs.Try.isAgg40 (by kernel_rfl) rfl (by repeat (first | exact Sel.here | apply Sel.there)) rfl) ?_
  refine O.op (.p rfl) (.build (cs := [_, _, _, _, _]) Go.Proofs.Try.underlying90 rfl rfl rfl rfl rfl) ?_
  refine O.call0 (.p rfl) rfl FactRoot1.ok41 rfl rfl (pright_c h) ?_
  rintro v5 _ ⟨rfl, rfl⟩
  try simp only [List.cons_append, List.nil_append, List.append_nil]
  refine O.op (.p rfl) (.as rfl) ?_
  refine O.nil ?_
  refine S.ret Go.Proofs.Try.results64 rfl fun w hw => Holds.end_ hR hw ?_
  exact ⟨_, ⟨rfl, rfl⟩, by repeat (first | exact Picks.all | exact Picks.nil | (apply Picks.cons; focus (repeat (first | exact Sel.here | apply Sel.there))) | apply Picks.skip)⟩
theorem tmust_c {r : Fr} (b : Bool) (z : Int) : Con Go.Proofs.Try.prog 40 #[.bool b, .int .i64 z] r [] (RetP (fun v η => b = true ∧ v = .tuple #[] ∧ η = []) (fun ch η => b = false ∧ ch = errP 33 z ∧ η = [])) := by
  refine Con.of (n := 8) [.bool b, .int .i64 z] rfl Go.Proofs.Try.func40 rfl rfl rfl fun g hg R hR => ?_
  refine S.seq (S.region rfl ?_)
  refine O.op (.p rfl) (.mv rfl) ?_
  refine O.op (.p rfl) ((by first | exact .notD rfl | exact .not rfl)) ?_
  refine O.nil ?_
  first | refine S.condD rfl (fun h5 => ?_) (fun h5 => ?_) | refine S.condB rfl (fun h5 => ?_) (fun h5 => ?_)
  · refine S.region rfl ?_
    refine O.op (.p rfl) (.mv rfl) ?_
    refine O.op (.p rfl) (.mkIface Go.Proofs.Try.underlying33 rfl) ?_
    refine O.panic rfl rfl (fun w hw => ?_)
    exact hR _ [] w ⟨by simpa using h5, rfl, rfl⟩ hw
  · refine S.skip ?_
    refine S.end0 Go.Proofs.Try.results40 fun w hw => hR _ _ w ?_ hw
    exact ⟨by simpa using h5, rfl, rfl⟩
theorem numbers_c {r : Fr} {va : Value} {l : List Int} (ha : Arr Rp.i64 r va l) (hl : l.length ≤ 1000000000) : Con Go.Proofs.Try.prog 53 #[va] r [] (Ret fun v η => ∃ a c, v = .slice a (l.map be).flatten.length c ∧ η = [OwnP Rp.u8 5 (.slice a (l.map be).flatten.length c) (l.map be).flatten]) := by
  refine Con.of (n := 18) [va] rfl Go.Proofs.Try.func53 rfl rfl rfl fun g hg R hR => ?_
  have ha := ha.mono hg
  obtain ⟨a1, c1, rfl⟩ := ha.shape
  have hlen : ∀ m : List Int, (m.map be).flatten.length = 8 * m.length := by
    intro m
    induction m with
    | nil => rfl
    | cons a m ih => rw [List.map_cons, List.flatten_cons, List.length_append, ih, be_length, List.length_cons]; omega
  refine S.addNil (T := Rp.u8) (e := 5) ?_
  refine S.seq (S.region rfl ?_)
  refine O.op (.p rfl) (.as rfl) ?_
  refine O.nil ?_
  refine S.seq (S.region rfl ?_)
  refine O.op (.p rfl) (.as rfl) ?_
  refine O.nil ?_
  refine S.seq (S.seq (S.region rfl ?_))
  refine O.op (.p rfl) (.mv rfl) ?_
  refine O.op (.p rfl) (.len rfl Go.Proofs.Try.underlying25 rfl) ?_
  refine O.op (.p rfl) (.mv rfl) ?_
  refine O.nil ?_
  refine S.block ?_
  refine S.loopK2 (ι := Nat) (κ := Option Addr × Nat) (fun i p => i ≤ l.length) (fun i p => [(8, .int .i64 (i : Int)), (3, .slice p.1 ((l.take i).map be).flatten.length p.2)]) [(6, _), (7, _)] (fun i p => [OwnP Rp.u8 5 (.slice p.1 ((l.take i).map be).flatten.length p.2) ((l.take i).map be).flatten]) (fun i p => l.length - i) (0) ((none, 0)) (by simp) (.cons rfl (.cons rfl (.nil))) (.cons rfl (.cons rfl (.nil))) rfl fun i p hx ih => ?_
  have hm1 := meltRefl (g := g)
  refine S.seq (S.region rfl ?_)
  refine O.op (.p rfl) (.lss rfl rfl) ?_
  refine O.nil ?_
  refine S.seq ?_
  first | refine S.condD rfl (fun h9 => ?_) (fun h9 => ?_) | refine S.condB rfl (fun h9 => ?_) (fun h9 => ?_)
  · have hi : i < l.length := by omega
    have htk : ((l.take i).map be).flatten ++ be l[i] = ((l.take (i + 1)).map be).flatten := by rw [List.take_succ_eq_append_getElem hi, List.map_append, List.flatten_append]; simp
    have hb := hlen (l.take i)
    rw [List.length_take, Nat.min_eq_left hx] at hb
    generalize ((l.take i).map be).flatten = so at htk hb ⊢
    refine S.skip (S.seq (S.block (S.seq (S.region rfl ?_))))
    refine O.idx' (.p rfl) Go.Proofs.Try.underlying25 FactRoot1.size3 rfl rfl rfl (by first | assumption | exact Arr.mono hg (by assumption) | exact Arr.left (by assumption) | exact Arr.left (Arr.mono hg (by assumption))) (by decide) (by first | omega | (simp; done) | (simp; omega) | decide) (fun p10 cs10 hp10 hr10 => ?_)
    obtain ⟨rfl, hz10⟩ := hr10
    refine O.op (.p rfl) (.loadAt FactRoot1.flat3 rfl hp10 rfl) ?_
    refine O.op (.p rfl) (.as rfl) ?_
    refine O.nil ?_
    refine S.region rfl ?_
    refine O.op (.p rfl) (.mv rfl) ?_
    refine O.op (.p rfl) (.mv rfl) ?_
    refine O.call0 (.p rfl) rfl FactRoot1.ok26 rfl rfl (wNumber_c _) ?_
    rintro v14 _ ⟨a14, c14, rfl, rfl⟩
    try simp only [List.cons_append, List.nil_append, List.append_nil]
    refine O.frzA (by repeat (first | exact Sel.here | apply Sel.there)) fun g hs hm ha14 => ?_
    replace hg := Fr.sub_trans hg hs
    replace hR := melted hR hm
    try replace hp10 := hp10.mono hs
    replace hm1 := meltTrans hm1 hm
    clear hs hm
    refine O.opE (.p rfl) (.appendP (T := Rp.u8) pure_u8 Go.Proofs.Try.underlying32 FactRoot1.elem5 (by decide) rfl rfl (by repeat (first | exact Sel.here | apply Sel.there)) (by first | assumption | exact Arr.mono hg (by assumption) | exact Arr.left (by assumption) | exact Arr.left (Arr.mono hg (by assumption))) (by first | omega | (simp; done) | (simp; omega) | decide) (by first | omega | (simp; done) | (simp; omega) | decide)) ?_
    rintro _ _ ⟨a15, c15, rfl, rfl⟩
    refine O.op (.p rfl) (.as rfl) ?_
    refine O.nil ?_
    refine S.inBlock (S.region rfl ?_)
    refine O.op (.p rfl) (.add rfl rfl (IntWalk.i64_in _ (by omega))) ?_
    refine O.op (.p rfl) (.mv rfl) ?_
    refine O.nil ?_
    rw [← List.length_append, htk]
    refine S.pk ?_ (S.melt hm1 (S.weaken ?_ (ih (i + 1) ((a15, c15)) (by omega) (by omega))))
    · repeat (first | exact Picks.all | exact Picks.nil | (apply Picks.cons; focus (repeat (first | exact Sel.here | apply Sel.there))) | apply Picks.skip)
    repeat (first | exact Sub.nil | refine Sub.cons rfl ?_)
  · clear ih
    have hi : i = l.length := by omega
    subst hi
    rw [List.take_length]
    refine S.exit rfl ?_
    refine S.seq (S.region rfl ?_)
    refine O.op (.p rfl) (.mv rfl) ?_
    refine O.op (.p rfl) (.as rfl) ?_
    refine O.nil ?_
    refine S.ret Go.Proofs.Try.results53 rfl fun w hw => Holds.end_ hR hw ?_
    exact ⟨_, ⟨p.1, p.2, rfl, rfl⟩, by repeat (first | exact Picks.all | exact Picks.nil | (apply Picks.cons; focus (repeat (first | exact Sel.here | apply Sel.there))) | apply Picks.skip)⟩
theorem ptext_c {r : Fr} {cs : List Value} {x : RootT} (h : RootRp.rel r cs x) (hs : rootShape x = true) : Con Go.Proofs.Try.prog 42 #[.agg cs.toArray] r [] (Ret fun v η => ∃ a c, v = .slice a (rootText x).length c ∧ η = [OwnP Rp.u8 5 (.slice a (rootText x).length c) (rootText x)]) := by
  have hl := rootText_length hs
  have hnum : ([x.1, x.2.1, x.2.2.1].map be).flatten = be x.1 ++ (be x.2.1 ++ be x.2.2.1) := by simp
  have hfl : [[2], be x.1 ++ (be x.2.1 ++ be x.2.2.1), x.2.2.2.1].flatten = rootText x := by simp [rootText]
  obtain ⟨xa3, xa4, xc3, xc4, rfl, k0, k1, k2, k3, k4⟩ := RootRp.sh h
  refine Con.of (n := 20) [.agg #[.int .i64 x.1, .int .i64 x.2.1, .int .i64 x.2.2.1, .slice xa3 x.2.2.2.1.length xc3, .slice xa4 x.2.2.2.2.1.length xc4]] rfl Go.Proofs.Try.func42 rfl rfl rfl fun g hg R hR => ?_
  have h := h.mono hg
  have k3 := k3.mono hg
  refine S.seq (S.region rfl ?_)
  refine O.opE (.p rfl) (.box (cs := [_, _, _, _, _]) rfl rfl) ?_
  rintro _ _ ⟨b1, rfl, rfl⟩
  refine O.op (.p rfl) (.as rfl) ?_
  refine O.nil ?_
  refine S.seq ?_
  refine S.frzO (by repeat (first | exact Sel.here | apply Sel.there)) fun g hs hm hbx => ?_
  replace hg := Fr.sub_trans hg hs
  replace hR := melted hR hm
  try replace h := h.mono hs
  try replace k3 := k3.mono hs
  clear hs hm
  refine S.regionJ (L := [1, 2, 3, 4, 5, 6, 7, 8, 9, 12, 13, 14, 0, 10, 11, 15, 16, 17]) (fun (s : Option Addr × Nat) => [(2, .slice s.1 (rootText x).length s.2)]) [] (fun (s : Option Addr × Nat) => [OwnP Rp.u8 5 (.slice s.1 (rootText x).length s.2) (rootText x)]) (.nil) FactRoot1.mixed (by kernel_rfl) (fun kk key => ?_) (fun s => ?_)
  · refine .quiet (.p rfl) rfl (fun _ => .fieldAddr FactRoot1.fld90x0 rfl) ?_
    refine .quiet (.p rfl) rfl (fun _ => .fieldAddr FactRoot1.fld40x0 rfl) ?_
    refine .quiet (.p rfl) rfl (fun _ => .loadAt FactRoot1.flat3 rfl hbx rfl) ?_
    refine .quiet (.p rfl) rfl (fun _ => .fieldAddr FactRoot1.fld90x0 rfl) ?_
    refine .quiet (.p rfl) rfl (fun _ => .fieldAddr FactRoot1.fld40x1 rfl) ?_
    refine .quiet (.p rfl) rfl (fun _ => .loadAt FactRoot1.flat3 rfl (hbx.drop 1) rfl) ?_
    refine .quiet (.p rfl) rfl (fun _ => .fieldAddr FactRoot1.fld90x0 rfl) ?_
    refine .quiet (.p rfl) rfl (fun _ => .fieldAddr FactRoot1.fld40x2 rfl) ?_
    refine .quiet (.p rfl) rfl (fun _ => .loadAt FactRoot1.flat3 rfl (hbx.drop 2) rfl) ?_
    refine .quiet (.p rfl) rfl (fun _ => .fieldAddr FactRoot1.fld90x0 rfl) ?_
    refine .quiet (.p rfl) rfl (fun _ => .fieldAddr FactRoot1.fld40x3 rfl) ?_
    refine .quiet (.p rfl) rfl (fun _ => .loadAt FactRoot1.flat32 rfl (hbx.drop 3) rfl) ?_
    refine OD.alt2 0 10 [10, 11, 15, 16, 17] [0, 11, 15, 16, 17] (by kernel_rfl) rfl rfl ?_ ?_
    · refine ODt.litP (T := Rp.u8) (ys := [2]) (.p rfl) (by kernel_rfl) Go.Proofs.Try.underlying32 FactRoot1.elem5 (by decide) rfl rfl ⟨rfl, trivial⟩ (by decide) (fun a3 c3 => ?_)
      refine OD.litP (T := Rp.i64) (ys := [_, _, _]) (.p rfl) (by kernel_rfl) Go.Proofs.Try.underlying25 FactRoot1.elem3 (by decide) rfl rfl ⟨⟨rfl, by first | assumption | (constructor <;> omega)⟩, ⟨rfl, by first | assumption | (constructor <;> omega)⟩, ⟨rfl, by first | assumption | (constructor <;> omega)⟩, trivial⟩ (by decide) (fun a13 c13 => ?_)
      refine OD.callB (.p rfl) (by kernel_rfl) rfl FactRoot1.ok53 rfl rfl (bs := [OwnP Rp.i64 3 (.slice a13 3 c13) [x.1, x.2.1, x.2.2.1]]) (by repeat (first | exact Sels.nil | (apply Sels.cons; focus (repeat (first | exact Sel.here | apply Sel.there))))) (fun m hm hd => numbers_c (hm.arr.right hd) (by simp)) ?_
      rintro v14 _ ⟨a14, c14, rfl, rfl⟩
      try simp only [List.cons_append, List.nil_append, List.append_nil]
      rw [hnum]
      refine OD.litP (T := Rp.val) (ys := [_, _, _]) (.p rfl) (by kernel_rfl) Go.Proofs.Try.underlying79 FactRoot1.elem32 (by decide) rfl rfl ⟨⟨rfl, rfl⟩, ⟨rfl, rfl⟩, ⟨rfl, rfl⟩, trivial⟩ (by decide) (fun a18 c18 => ?_)
      refine OD.callB (.p rfl) (by kernel_rfl) rfl FactRoot1.ok34 rfl rfl (bs := [OwnP Rp.val 32 (.slice a18 3 c18) [.slice a3 1 c3, .slice a14 (be x.1 ++ (be x.2.1 ++ be x.2.2.1)).length c14, .slice xa3 x.2.2.2.1.length xc3], OwnP Rp.u8 5 (.slice a3 1 c3) [2], OwnP Rp.u8 5 (.slice a14 (be x.1 ++ (be x.2.1 ++ be x.2.2.1)).length c14) (be x.1 ++ (be x.2.1 ++ be x.2.2.1))]) (by repeat (first | exact Sels.nil | (apply Sels.cons; focus (repeat (first | exact Sel.here | apply Sel.there))))) (fun m hm hd => wJoin_c (xss := [[2], be x.1 ++ (be x.2.1 ++ be x.2.2.1), x.2.2.2.1]) ((hm.arr.right hd).rows ⟨hm.tail.arr.right hd, hm.tail.tail.arr.right hd, k3.left, trivial⟩) (by rw [hfl]; omega)) ?_
      rintro v19 _ ⟨a19, c19, rfl, rfl⟩
      try simp only [List.cons_append, List.nil_append, List.append_nil]
      rw [hfl]
      refine .quiet (.p rfl) rfl (fun _ => .as rfl) ?_
      refine .nil ?_
      refine S.pk ?_ (S.weaken (Sub.app (.cons rfl (.nil)) (.nil)) (key (a19, c19)))
      try dsimp only
      repeat (first | exact Picks.all | exact Picks.nil | (apply Picks.cons; focus (repeat (first | exact Sel.here | apply Sel.there))) | apply Picks.skip)
    · refine ODt.litP (T := Rp.i64) (ys := [_, _, _]) (.p rfl) (by kernel_rfl) Go.Proofs.Try.underlying25 FactRoot1.elem3 (by decide) rfl rfl ⟨⟨rfl, by first | assumption | (constructor <;> omega)⟩, ⟨rfl, by first | assumption | (constructor <;> omega)⟩, ⟨rfl, by first | assumption | (constructor <;> omega)⟩, trivial⟩ (by decide) (fun a13 c13 => ?_)
      refine OD.alt2 0 11 [11, 15, 16, 17] [0, 15, 16, 17] (by kernel_rfl) rfl rfl ?_ ?_
      · refine ODt.litP (T := Rp.u8) (ys := [2]) (.p rfl) (by kernel_rfl) Go.Proofs.Try.underlying32 FactRoot1.elem5 (by decide) rfl rfl ⟨rfl, trivial⟩ (by decide) (fun a3 c3 => ?_)
        refine OD.callB (.p rfl) (by kernel_rfl) rfl FactRoot1.ok53 rfl rfl (bs := [OwnP Rp.i64 3 (.slice a13 3 c13) [x.1, x.2.1, x.2.2.1]]) (by repeat (first | exact Sels.nil | (apply Sels.cons; focus (repeat (first | exact Sel.here | apply Sel.there))))) (fun m hm hd => numbers_c (hm.arr.right hd) (by simp)) ?_
        rintro v14 _ ⟨a14, c14, rfl, rfl⟩
        try simp only [List.cons_append, List.nil_append, List.append_nil]
        rw [hnum]
        refine OD.litP (T := Rp.val) (ys := [_, _, _]) (.p rfl) (by kernel_rfl) Go.Proofs.Try.underlying79 FactRoot1.elem32 (by decide) rfl rfl ⟨⟨rfl, rfl⟩, ⟨rfl, rfl⟩, ⟨rfl, rfl⟩, trivial⟩ (by decide) (fun a18 c18 => ?_)
        refine OD.callB (.p rfl) (by kernel_rfl) rfl FactRoot1.ok34 rfl rfl (bs := [OwnP Rp.val 32 (.slice a18 3 c18) [.slice a3 1 c3, .slice a14 (be x.1 ++ (be x.2.1 ++ be x.2.2.1)).length c14, .slice xa3 x.2.2.2.1.length xc3], OwnP Rp.u8 5 (.slice a3 1 c3) [2], OwnP Rp.u8 5 (.slice a14 (be x.1 ++ (be x.2.1 ++ be x.2.2.1)).length c14) (be x.1 ++ (be x.2.1 ++ be x.2.2.1))]) (by repeat (first | exact Sels.nil | (apply Sels.cons; focus (repeat (first | exact Sel.here | apply Sel.there))))) (fun m hm hd => wJoin_c (xss := [[2], be x.1 ++ (be x.2.1 ++ be x.2.2.1), x.2.2.2.1]) ((hm.arr.right hd).rows ⟨hm.tail.arr.right hd, hm.tail.tail.arr.right hd, k3.left, trivial⟩) (by rw [hfl]; omega)) ?_
        rintro v19 _ ⟨a19, c19, rfl, rfl⟩
        try simp only [List.cons_append, List.nil_append, List.append_nil]
        rw [hfl]
        refine .quiet (.p rfl) rfl (fun _ => .as rfl) ?_
        refine .nil ?_
        refine S.pk ?_ (S.weaken (Sub.app (.cons rfl (.nil)) (.nil)) (key (a19, c19)))
        try dsimp only
        repeat (first | exact Picks.all | exact Picks.nil | (apply Picks.cons; focus (repeat (first | exact Sel.here | apply Sel.there))) | apply Picks.skip)
      · refine ODt.callB (.p rfl) (by kernel_rfl) rfl FactRoot1.ok53 rfl rfl (bs := [OwnP Rp.i64 3 (.slice a13 3 c13) [x.1, x.2.1, x.2.2.1]]) (by repeat (first | exact Sels.nil | (apply Sels.cons; focus (repeat (first | exact Sel.here | apply Sel.there))))) (fun m hm hd => numbers_c (hm.arr.right hd) (by simp)) ?_
        rintro v14 _ ⟨a14, c14, rfl, rfl⟩
        try simp only [List.cons_append, List.nil_append, List.append_nil]
        rw [hnum]
        refine OD.litP (T := Rp.u8) (ys := [2]) (.p rfl) (by kernel_rfl) Go.Proofs.Try.underlying32 FactRoot1.elem5 (by decide) rfl rfl ⟨rfl, trivial⟩ (by decide) (fun a3 c3 => ?_)
        refine OD.litP (T := Rp.val) (ys := [_, _, _]) (.p rfl) (by kernel_rfl) Go.Proofs.Try.underlying79 FactRoot1.elem32 (by decide) rfl rfl ⟨⟨rfl, rfl⟩, ⟨rfl, rfl⟩, ⟨rfl, rfl⟩, trivial⟩ (by decide) (fun a18 c18 => ?_)
        refine OD.callB (.p rfl) (by kernel_rfl) rfl FactRoot1.ok34 rfl rfl (bs := [OwnP Rp.val 32 (.slice a18 3 c18) [.slice a3 1 c3, .slice a14 (be x.1 ++ (be x.2.1 ++ be x.2.2.1)).length c14, .slice xa3 x.2.2.2.1.length xc3], OwnP Rp.u8 5 (.slice a3 1 c3) [2], OwnP Rp.u8 5 (.slice a14 (be x.1 ++ (be x.2.1 ++ be x.2.2.1)).length c14) (be x.1 ++ (be x.2.1 ++ be x.2.2.1))]) (by repeat (first | exact Sels.nil | (apply Sels.cons; focus (repeat (first | exact Sel.here | apply Sel.there))))) (fun m hm hd => wJoin_c (xss := [[2], be x.1 ++ (be x.2.1 ++ be x.2.2.1), x.2.2.2.1]) ((hm.arr.right hd).rows ⟨hm.tail.arr.right hd, hm.tail.tail.arr.right hd, k3.left, trivial⟩) (by rw [hfl]; omega)) ?_
        rintro v19 _ ⟨a19, c19, rfl, rfl⟩
        try simp only [List.cons_append, List.nil_append, List.append_nil]
        rw [hfl]
        refine .quiet (.p rfl) rfl (fun _ => .as rfl) ?_
        refine .nil ?_
        refine S.pk ?_ (S.weaken (Sub.app (.cons rfl (.nil)) (.nil)) (key (a19, c19)))
        try dsimp only
        repeat (first | exact Picks.all | exact Picks.nil | (apply Picks.cons; focus (repeat (first | exact Sel.here | apply Sel.there))) | apply Picks.skip)
  refine S.ret Go.Proofs.Try.results42 rfl fun w hw => Holds.end_ hR hw ?_
  exact ⟨_, ⟨s.1, s.2, rfl, rfl⟩, by repeat (first | exact Picks.all | exact Picks.nil | (apply Picks.cons; focus (repeat (first | exact Sel.here | apply Sel.there))) | apply Picks.skip)⟩
theorem tput1_c {r : Fr} {b : Nat} {cs : List Value} {x : RootT} (hb : At r ⟨b, 0, none⟩ cs) (h : RootRp.rel r cs x) :
    Con Go.Proofs.Try.prog 39 (#[] ++ #[] ++ #[.pointer (some ⟨b, 0, none⟩)]) r [] (RetP (fun v η => rootOk x = true ∧ ∃ a c, v = .slice a (rootB x).length c ∧ η = [OwnP Rp.u8 5 (.slice a (rootB x).length c) (rootB x)]) (fun ch η => ∃ z, ch = errP 33 z ∧ (rootOk x = false ∧ z = 4) ∧ η = [])) := by
  obtain ⟨xa3, xa4, xc3, xc4, rfl, k0, k1, k2, k3, k4⟩ := RootRp.sh h
  refine Con.of (n := 15) [.pointer (some ⟨b, 0, none⟩)] rfl Go.Proofs.Try.func39 rfl rfl rfl fun g hg R hR => ?_
  have hb := hb.mono hg
  have h := h.mono hg
  have k4 := k4.mono hg
  cases e : rootOk x with
  | false =>
    refine S.seq (S.region rfl ?_)
    refine O.op (.p rfl) (.as rfl) ?_
    refine O.nil ?_
    refine S.seq (S.region rfl ?_)
    refine O.op (.p rfl) (.loadAgg Go.Proofs.Try.isAgg40 (by kernel_rfl) rfl hb) ?_
    refine O.op (.p rfl) (.build (cs := [_, _, _, _, _]) Go.Proofs.Try.underlying90 rfl rfl rfl rfl rfl) ?_
    refine O.opE (.p rfl) (.alloc (cs := [.int .i64 0, .int .i64 0, .int .i64 0, .slice none 0 0, .slice none 0 0]) Go.Proofs.Try.zeroValue90 rfl) ?_
    rintro _ _ ⟨b2, rfl, rfl⟩
    refine O.opU rfl (.storeObj (by kernel_rfl) rfl rfl rfl rfl (by repeat (first | exact Sel.here | apply Sel.there)) (by first | (simp; done) | (simp [Value.cells]; done))) ?_
    refine O.nil ?_
    refine S.seq (S.region rfl ?_)
    refine O.op (.p rfl) (.loadObjAgg (news := [_, _, _, _, _]) Go.Proofs.Try.isAgg90 (by kernel_rfl) rfl (by repeat (first | exact Sel.here | apply Sel.there)) rfl) ?_
    refine O.call0 (.p rfl) rfl FactRoot1.ok41 rfl rfl (pright_c h) ?_
    rintro v6 _ ⟨rfl, rfl⟩
    try simp only [List.cons_append, List.nil_append, List.append_nil]
    refine O.slot 6 (v' := .bool false) rfl (congrArg Value.bool (by exact e)) ?_
    refine O.callP0 (.p rfl) rfl FactRoot1.ok40 rfl rfl (tmust_c _ _) (fun ch η' w hX hW => by (obtain ⟨hb, rfl, rfl⟩ := hX; exact hR _ _ w ⟨4, rfl, ⟨e, rfl⟩, rfl⟩ hW.drop_all)) ?_
    rintro v7 _ ⟨hb7, rfl, rfl⟩
    try simp only [List.cons_append, List.nil_append, List.append_nil]
    exact absurd hb7 (by simp)
  | true =>
    have hl := rootB_length e
    have hfl : [rootText x, x.2.2.2.2.1].flatten = rootB x := by simp [rootB]
    refine S.seq (S.region rfl ?_)
    refine O.op (.p rfl) (.as rfl) ?_
    refine O.nil ?_
    refine S.seq (S.region rfl ?_)
    refine O.op (.p rfl) (.loadAgg Go.Proofs.Try.isAgg40 (by kernel_rfl) rfl hb) ?_
    refine O.op (.p rfl) (.build (cs := [_, _, _, _, _]) Go.Proofs.Try.underlying90 rfl rfl rfl rfl rfl) ?_
    refine O.opE (.p rfl) (.alloc (cs := [.int .i64 0, .int .i64 0, .int .i64 0, .slice none 0 0, .slice none 0 0]) Go.Proofs.Try.zeroValue90 rfl) ?_
    rintro _ _ ⟨b2, rfl, rfl⟩
    refine O.opU rfl (.storeObj (by kernel_rfl) rfl rfl rfl rfl (by repeat (first | exact Sel.here | apply Sel.there)) (by first | (simp; done) | (simp [Value.cells]; done))) ?_
    refine O.nil ?_
    refine S.seq (S.region rfl ?_)
    refine O.op (.p rfl) (.loadObjAgg (news := [_, _, _, _, _]) Go.Proofs.Try.isAgg90 (by kernel_rfl) rfl (by repeat (first | exact Sel.here | apply Sel.there)) rfl) ?_
    refine O.call0 (.p rfl) rfl FactRoot1.ok41 rfl rfl (pright_c h) ?_
    rintro v6 _ ⟨rfl, rfl⟩
    try simp only [List.cons_append, List.nil_append, List.append_nil]
    refine O.slot 6 (v' := .bool true) rfl (congrArg Value.bool (by exact e)) ?_
    refine O.callP0 (.p rfl) rfl FactRoot1.ok40 rfl rfl (tmust_c _ _) (fun ch η' w hX hW => by (exact absurd hX.1 (by simp))) ?_
    rintro v7 _ ⟨hb7, rfl, rfl⟩
    try simp only [List.cons_append, List.nil_append, List.append_nil]
    refine O.nil ?_
    refine S.seq ?_
    refine S.frzO (by repeat (first | exact Sel.here | apply Sel.there)) fun g hs hm hb2 => ?_
    replace hg := Fr.sub_trans hg hs
    replace hR := melted hR hm
    try replace hb := hb.mono hs
    try replace h := h.mono hs
    try replace k4 := k4.mono hs
    clear hs hm
    refine S.regionD (L := [0, 2, 3, 4, 1, 5, 6, 7]) FactRoot1.mixed (by kernel_rfl) ?_
    refine .quiet (.p rfl) rfl (fun _ => .loadAgg Go.Proofs.Try.isAgg90 (by kernel_rfl) rfl hb2) ?_
    refine .quiet (.p rfl) rfl (fun _ => .fieldAddr FactRoot1.fld90x0 rfl) ?_
    refine .quiet (.p rfl) rfl (fun _ => .fieldAddr FactRoot1.fld40x4 rfl) ?_
    refine .quiet (.p rfl) rfl (fun _ => .loadAt FactRoot1.flat32 rfl (hb2.drop 4) rfl) ?_
    refine OD.call0 (.p rfl) (by kernel_rfl) rfl FactRoot1.ok42 rfl rfl ((ptext_c h (rootOk_iff.1 e).1)) ?_
    rintro v9 _ ⟨a9, c9, rfl, rfl⟩
    try simp only [List.cons_append, List.nil_append, List.append_nil]
    refine OD.litP (T := Rp.val) (ys := [_, _]) (.p rfl) (by kernel_rfl) Go.Proofs.Try.underlying79 FactRoot1.elem32 (by decide) rfl rfl ⟨⟨rfl, rfl⟩, ⟨rfl, rfl⟩, trivial⟩ (by decide) (fun a13 c13 => ?_)
    refine OD.callB (.p rfl) (by kernel_rfl) rfl FactRoot1.ok34 rfl rfl (bs := [OwnP Rp.val 32 (.slice a13 2 c13) [.slice a9 (rootText x).length c9, .slice xa4 x.2.2.2.2.1.length xc4], OwnP Rp.u8 5 (.slice a9 (rootText x).length c9) (rootText x)]) (by repeat (first | exact Sels.nil | (apply Sels.cons; focus (repeat (first | exact Sel.here | apply Sel.there))))) (fun m hm hd => wJoin_c (xss := [rootText x, x.2.2.2.2.1]) ((hm.arr.right hd).rows ⟨hm.tail.arr.right hd, k4.left, trivial⟩) (by rw [hfl]; omega)) ?_
    rintro v14 _ ⟨a14, c14, rfl, rfl⟩
    try simp only [List.cons_append, List.nil_append, List.append_nil]
    rw [hfl]
    refine .quiet (.p rfl) rfl (fun _ => .as rfl) ?_
    refine .nil ?_
    refine S.ret Go.Proofs.Try.results39 rfl fun w hw => Holds.end_ hR hw ?_
    exact ⟨_, ⟨e, a14, c14, rfl, rfl⟩, by repeat (first | exact Picks.all | exact Picks.nil | (apply Picks.cons; focus (repeat (first | exact Sel.here | apply Sel.there))) | apply Picks.skip)⟩
theorem tTried_c {r : Fr} {first cap : Array Value} {x : RootT} (con : Con Go.Proofs.Try.prog 39 (first ++ #[] ++ cap) r [] (RetP (fun v η => rootOk x = true ∧ ∃ a c, v = .slice a (rootB x).length c ∧ η = [OwnP Rp.u8 5 (.slice a (rootB x).length c) (rootB x)]) (fun ch η => ∃ z, ch = errP 33 z ∧ (rootOk x = false ∧ z = 4) ∧ η = []))) (h1 : (Value.func (.func 39) first cap).oneCell' = true := by rfl) :
    Con Go.Proofs.Try.prog 38 #[.func (.func 39) first cap] r [] (Ret fun v η => ∃ a c, v = .tuple #[.slice a (rootOut x).length c, .int .i64 (rootErr x)] ∧ η = [OwnP Rp.u8 5 (.slice a (rootOut x).length c) (rootOut x)]) :=
  (triedRB_c FactRoot1.ok39 h1 (fun _ _ h => by obtain ⟨_, _, _, rfl, _⟩ := h; rfl) con).post fun e η h w g hw => by
    cases e with
    | returned v =>
      rcases h with ⟨u, ⟨hs, a, c, rfl, rfl⟩, rfl⟩ | ⟨z, ⟨hs, rfl⟩, rfl, rfl⟩
      · exact ⟨_, ⟨a, c, by simp [rootOut, rootErr, hs], rfl⟩, by simpa [rootOut, hs] using hw⟩
      · exact ⟨_, ⟨none, 0, by simp [rootOut, rootErr, hs], rfl⟩, by simp only [rootOut, hs]; exact hw.imp fun m x => ⟨Fr.emp, m, Fr.emp_disj _, Fr.emp_sub _, Fr.sub_refl _, ownP_nil _, x⟩⟩
    | panicked _ => exact h.elim
    | outgrown => exact h.elim
theorem tPut_c {r : Fr} {cs : List Value} {x : RootT} (h : RootRp.rel r cs x) :
    Con Go.Proofs.Try.prog 31 #[.agg cs.toArray] r [] (Ret fun v η => ∃ a c, v = .tuple #[.slice a (rootOut x).length c, .int .i64 (rootErr x)] ∧ η = [OwnP Rp.u8 5 (.slice a (rootOut x).length c) (rootOut x)]) := by
  obtain ⟨xa3, xa4, xc3, xc4, rfl, k0, k1, k2, k3, k4⟩ := RootRp.sh h
  refine Con.of (n := 8) [.agg #[.int .i64 x.1, .int .i64 x.2.1, .int .i64 x.2.2.1, .slice xa3 x.2.2.2.1.length xc3, .slice xa4 x.2.2.2.2.1.length xc4]] rfl Go.Proofs.Try.func31 rfl rfl rfl fun g hg R hR => ?_
  have h := h.mono hg
  refine S.seq (S.region rfl ?_)
  refine O.opE (.p rfl) (.box (cs := [_, _, _, _, _]) rfl rfl) ?_
  rintro _ _ ⟨b1, rfl, rfl⟩
  refine O.op (.p rfl) (.as rfl) ?_
  refine O.op (.p rfl) (.as rfl) ?_
  refine O.nil ?_
  refine S.seq ?_
  refine S.frzO (by repeat (first | exact Sel.here | apply Sel.there)) fun g hs hm hb1 => ?_
  replace hg := Fr.sub_trans hg hs
  replace hR := melted hR hm
  try replace h := h.mono hs
  clear hs hm
  refine S.region rfl ?_
  refine O.op (.p rfl) (.mkFunc rfl rfl) ?_
  refine O.call0 (.p rfl) rfl FactRoot1.ok38 rfl rfl ((tTried_c (tput1_c hb1 h))) ?_
  rintro v5 _ ⟨a5, c5, rfl, rfl⟩
  try simp only [List.cons_append, List.nil_append, List.append_nil]
  refine O.op (.p rfl) (.extract rfl rfl) ?_
  refine O.op (.p rfl) (.extract rfl rfl) ?_
  refine O.op (.p rfl) (.as rfl) ?_
  refine O.op (.p rfl) (.as rfl) ?_
  refine O.nil ?_
  refine S.ret2 Go.Proofs.Try.results31 rfl rfl fun w hw => Holds.end_ hR hw ?_
  exact ⟨_, ⟨a5, c5, rfl, rfl⟩, by repeat (first | exact Picks.all | exact Picks.nil | (apply Picks.cons; focus (repeat (first | exact Sel.here | apply Sel.there))) | apply Picks.skip)⟩

end Go.Proofs.Ytodhbhanmdfdeaa
