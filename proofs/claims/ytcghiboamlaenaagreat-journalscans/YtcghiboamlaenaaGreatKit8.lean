import Derived.Test.YtcghiboamlaenaaGreatKit6
import Derived.Test.YtcghiboamlaenaaGreatKit7
open Go Go.Sp
set_option maxRecDepth 100000
attribute [local irreducible] obj Own OwnP
namespace Go.Proofs.YtcghiboamlaenaaGreat
theorem FactKit8.flat23 : Go.Sp.flat1 Go.Proofs.Tryz.prog 23 = true := by kernel_rfl
theorem FactKit8.fld25x1 : fieldOff Go.Proofs.Tryz.prog 25 1 = some 1 := by kernel_rfl
theorem FactKit8.ok12 : callable Go.Proofs.Tryz.prog 12 = true := by kernel_rfl
theorem FactKit8.ok15 : callable Go.Proofs.Tryz.prog 15 = true := by kernel_rfl
theorem FactKit8.ok25 : callable Go.Proofs.Tryz.prog 25 = true := by kernel_rfl

theorem LentP.own {e : TypeId} {a : Option Addr} {c n : Nat} {xs : List UInt8} {h : Fr} (x : LentP e (.slice a n c) xs h) : OwnP Rp.u8 e (.slice a n c) xs h := by
  obtain ⟨a', c', _, h2, h3⟩ := x
  cases h2
  exact OwnP.take rfl h3
theorem lentEntry_c {r : Fr} {k : UInt8} {va : Value} {xs : List UInt8} (ha : Arr Rp.u8 r va xs) (hl : xs.length ≤ 100000000000000) :
    Con Go.Proofs.Tryz.prog 6 #[.agg #[byteV k, va]] r [] (Ret fun v η => ∃ a c, v = .agg #[byteV k, .slice a xs.length c] ∧ η = [LentP 5 (.slice a xs.length c) xs]) := by
  refine Con.of (n := 8) [.agg #[byteV k, va]] rfl Go.Proofs.Tryz.func6 rfl rfl rfl fun g hg R hR => ?_
  have ha := ha.mono hg
  obtain ⟨a1, c1, rfl⟩ := ha.shape
  refine S.seq (S.region rfl ?_)
  refine O.opE (.p rfl) (.box (cs := [_, _]) rfl rfl) ?_
  rintro _ _ ⟨b1, rfl, rfl⟩
  refine O.opE (.p rfl) (.alloc (cs := [.int .u8 0, .slice none 0 0]) Go.Proofs.Tryz.zeroValue25 rfl) ?_
  rintro _ _ ⟨b2, rfl, rfl⟩
  refine O.nil ?_
  refine S.seq (S.region rfl ?_)
  refine O.op (.p rfl) (.fieldObj FactKit8.fld25x1 rfl) ?_
  refine O.op (.p rfl) (.loadObj FactKit8.flat23 rfl (by repeat (first | exact Sel.here | apply Sel.there)) rfl) ?_
  refine O.call0 (.p rfl) rfl FactKit8.ok12 rfl rfl (LentBytes_c (by first | assumption | exact Arr.mono hg (by assumption) | exact Arr.left (by assumption) | exact Arr.left (Arr.mono hg (by assumption))) (by first | omega | (simp; done) | (simp; omega) | decide)) ?_
  rintro v5 _ ⟨a5, c5, rfl, rfl⟩
  try simp only [List.cons_append, List.nil_append, List.append_nil]
  refine O.op (.p rfl) (.fieldObj FactKit8.fld25x1 rfl) ?_
  refine O.opU rfl (.store1 FactKit8.flat23 rfl rfl (by first | rfl | assumption) (by repeat (first | exact Sel.here | apply Sel.there)) (by first | (simp; done) | (simp [Value.cells]; done))) ?_
  refine O.nil ?_
  refine S.seq (S.region rfl ?_)
  refine O.op (.p rfl) (.loadObjAgg (news := [_, _]) Go.Proofs.Tryz.isAgg25 (by kernel_rfl) rfl (by repeat (first | exact Sel.here | apply Sel.there)) rfl) ?_
  refine O.opU rfl (.storeObj (by kernel_rfl) rfl rfl rfl rfl (by repeat (first | exact Sel.here | apply Sel.there)) (by first | (simp; done) | (simp [Value.cells]; done))) ?_
  refine O.nil ?_
  refine S.retCellAgg Go.Proofs.Tryz.results6 Go.Proofs.Tryz.isAgg25 (by kernel_rfl) rfl (by repeat (first | exact Sel.here | apply Sel.there)) fun w hw => Holds.end_ hR hw ?_
  exact ⟨_, ⟨a5, c5, rfl, rfl⟩, by repeat (first | exact Picks.all | exact Picks.nil | (apply Picks.cons; focus (repeat (first | exact Sel.here | apply Sel.there))) | apply Picks.skip)⟩
theorem keptEntry_c {r : Fr} {k : UInt8} {va vb : Value} {xs : List UInt8} (hz : LentA r va xs) (hl : Arr Rp.u8 r vb xs) (hb : xs.length ≤ 100000000000000) :
    Con Go.Proofs.Tryz.prog 10 #[.agg #[byteV k, va], .agg #[byteV k, vb]] r [] (Ret fun v η => v = .bool true ∧ η = []) := by
  refine Con.of (n := 15) [.agg #[byteV k, va], .agg #[byteV k, vb]] rfl Go.Proofs.Tryz.func10 rfl rfl rfl fun g hg R hR => ?_
  replace hz : LentA g.h va xs := hz.mono hg
  have hl := hl.mono hg
  have hza := hz.arr
  obtain ⟨a1, c1, hr, rfl, hzz⟩ := hz
  obtain ⟨a2, c2, rfl⟩ := hl.shape
  refine S.seq (S.region rfl ?_)
  refine O.opE (.p rfl) (.box (cs := [_, _]) rfl rfl) ?_
  rintro _ _ ⟨b2, rfl, rfl⟩
  refine O.opE (.p rfl) (.box (cs := [_, _]) rfl rfl) ?_
  rintro _ _ ⟨b3, rfl, rfl⟩
  refine O.op (.p rfl) (.as rfl) ?_
  refine O.nil ?_
  refine S.seq (S.region rfl ?_)
  refine O.op (.p rfl) (.loadObjAgg (news := [_, _]) Go.Proofs.Tryz.isAgg25 (by kernel_rfl) rfl (by repeat (first | exact Sel.here | apply Sel.there)) rfl) ?_
  refine O.op (.p rfl) (.loadObjAgg (news := [_, _]) Go.Proofs.Tryz.isAgg25 (by kernel_rfl) rfl (by repeat (first | exact Sel.here | apply Sel.there)) rfl) ?_
  refine O.call0 (.p rfl) rfl FactKit8.ok25 rfl rfl (sameEntry_c hza hl) ?_
  rintro v7 _ ⟨rfl, rfl⟩
  try simp only [List.cons_append, List.nil_append, List.append_nil]
  refine O.slot 7 (v' := .bool true) rfl (congrArg Value.bool (by simp)) ?_
  refine O.op (.p rfl) (.mv rfl) ?_
  refine O.op (.g rfl rfl) (.fieldObj FactKit8.fld25x1 rfl) ?_
  refine O.op (.g rfl rfl) (.loadObj FactKit8.flat23 rfl (by repeat (first | exact Sel.here | apply Sel.there)) rfl) ?_
  refine O.op (.g rfl rfl) (.fieldObj FactKit8.fld25x1 rfl) ?_
  refine O.op (.g rfl rfl) (.loadObj FactKit8.flat23 rfl (by repeat (first | exact Sel.here | apply Sel.there)) rfl) ?_
  refine O.call0 (.g rfl rfl) rfl FactKit8.ok15 rfl rfl (KeptBytes_c hzz hl (by omega)) ?_
  rintro v13 _ ⟨rfl, rfl⟩
  try simp only [List.cons_append, List.nil_append, List.append_nil]
  refine O.slot 13 (v' := .bool true) rfl (congrArg Value.bool (by simp)) ?_
  refine O.op (.p rfl) (.pickT rfl rfl) ?_
  refine O.op (.p rfl) (.as rfl) ?_
  refine O.nil ?_
  refine S.ret Go.Proofs.Tryz.results10 rfl fun w hw => Holds.end_ hR hw ?_
  exact ⟨_, ⟨rfl, rfl⟩, by repeat (first | exact Picks.all | exact Picks.nil | (apply Picks.cons; focus (repeat (first | exact Sel.here | apply Sel.there))) | apply Picks.skip)⟩

end Go.Proofs.YtcghiboamlaenaaGreat
