import Derived.Test.YtkkcpckgnfcncaaDoorDapart1
open Go Go.Sp
set_option maxRecDepth 100000
attribute [local irreducible] obj Own OwnP
namespace Go.Proofs.YtkkcpckgnfcncaaDoor
theorem FactDapart0.flat3 : Go.Sp.flat1 Go.Proofs.Tryd.prog 3 = true := by kernel_rfl
theorem FactDapart0.flat9 : Go.Sp.flat1 Go.Proofs.Tryd.prog 9 = true := by kernel_rfl
theorem FactDapart0.fld33x0 : fieldOff Go.Proofs.Tryd.prog 33 0 = some 0 := by kernel_rfl
theorem FactDapart0.fld33x1 : fieldOff Go.Proofs.Tryd.prog 33 1 = some 1 := by kernel_rfl
theorem FactDapart0.fld33x2 : fieldOff Go.Proofs.Tryd.prog 33 2 = some 2 := by kernel_rfl
theorem FactDapart0.fld33x3 : fieldOff Go.Proofs.Tryd.prog 33 3 = some 3 := by kernel_rfl
theorem FactDapart0.ok10 : callable Go.Proofs.Tryd.prog 10 = true := by kernel_rfl
theorem FactDapart0.ok12 : callable Go.Proofs.Tryd.prog 12 = true := by kernel_rfl

theorem lk_len (k : Nat) : (lk k).length = 1 := rfl
theorem tmod4 (z : Int) : -3 ≤ z.tmod 4 ∧ z.tmod 4 ≤ 3 := by
  have h1 := Int.tmod_lt_of_pos z (show (0 : Int) < 4 by decide)
  have h2 := Int.lt_tmod_of_pos z (show (0 : Int) < 4 by decide)
  omega
theorem mine_c {r : Fr} {a : Option Addr} {n c0 : Nat} {x : DeedT} {c : UInt8} (h1 : x.2.2.1.length ≤ 100) (h2 : x.2.2.2.1.length ≤ 100) :
    Con Go.Proofs.Tryd.prog 20 #[.agg #[.int .i64 x.1, .int .i64 x.2.1, .string (str x.2.2.1), .string (str x.2.2.2.1), .slice a n c0], .string (str [c])] r []
      (Ret fun v η => v = .agg #[.int .i64 (mineD c x).1, .int .i64 (mineD c x).2.1, .string (str (mineD c x).2.2.1), .string (str (mineD c x).2.2.2.1), .slice a n c0] ∧ η = []) := by
  refine Con.of (n := 29) [.agg #[.int .i64 x.1, .int .i64 x.2.1, .string (str x.2.2.1), .string (str x.2.2.2.1), .slice a n c0], .string (str [c])] rfl Go.Proofs.Tryd.func20 rfl rfl rfl fun g hg R hR => ?_
  have ht := tmod4 x.2.1
  have hz0 := str_size [c]
  have hz1 : (str (lk (pick (x.2.2.1.length : Int) 4).toNat)).size = 1 := str_size _
  have hz2 : (str (lk (pick ((x.2.2.2.1.length : Int) + x.2.1.tmod 4) 4).toNat)).size = 1 := str_size _
  simp only [List.length_singleton] at hz0
  have hin : ∀ d : DeedT, d = (mineD c x) → d = (if pick x.1 7 = 6 then 2 else x.1, x.2.1, c :: lk (pick (x.2.2.1.length : Int) 4).toNat, c :: lk (pick ((x.2.2.2.1.length : Int) + x.2.1.tmod 4) 4).toNat, x.2.2.2.2.1, ()) := fun _ h => h
  refine S.seq (S.region rfl ?_)
  refine O.opE (.p rfl) (.box (cs := [_, _, _, _, _]) rfl rfl) ?_
  rintro _ _ ⟨b2, rfl, rfl⟩
  refine O.opE (.p rfl) (.alloc (cs := [.int .i64 0, .int .i64 0, .string ⟨#[]⟩, .string ⟨#[]⟩, .slice none 0 0]) Go.Proofs.Tryd.zeroValue33 rfl) ?_
  rintro _ _ ⟨b4, rfl, rfl⟩
  refine O.nil ?_
  refine S.seq (S.region rfl ?_)
  refine O.op (.p rfl) (.mv rfl) ?_
  refine O.op (.p rfl) (.fieldObj FactDapart0.fld33x2 rfl) ?_
  refine O.op (.p rfl) (.loadObj FactDapart0.flat9 rfl (by repeat (first | exact Sel.here | apply Sel.there)) rfl) ?_
  refine O.op (.p rfl) (.lenS rfl Go.Proofs.Tryd.underlying9 rfl) ?_
  refine O.slot 8 (v' := .int .i64 (x.2.2.1.length : Int)) rfl (by rw [str_size]) ?_
  refine O.call0 (.p rfl) rfl FactDapart0.ok12 rfl rfl (letter_c _) ?_
  rintro v9 _ ⟨rfl, rfl⟩
  try simp only [List.cons_append, List.nil_append, List.append_nil]
  refine O.op (.p rfl) (.addS rfl rfl (by omega)) ?_
  refine O.slot 10 (v' := .string (str (c :: lk (pick (x.2.2.1.length : Int) 4).toNat))) rfl (by rw [str_app]; rfl) ?_
  refine O.op (.p rfl) (.fieldObj FactDapart0.fld33x2 rfl) ?_
  refine O.opU rfl (.store1 FactDapart0.flat9 rfl rfl (by first | rfl | assumption) (by repeat (first | exact Sel.here | apply Sel.there)) (by first | (simp; done) | (simp [Value.cells]; done))) ?_
  refine O.nil ?_
  refine S.seq (S.region rfl ?_)
  refine O.op (.p rfl) (.mv rfl) ?_
  refine O.op (.p rfl) (.fieldObj FactDapart0.fld33x3 rfl) ?_
  refine O.op (.p rfl) (.loadObj FactDapart0.flat9 rfl (by repeat (first | exact Sel.here | apply Sel.there)) rfl) ?_
  refine O.op (.p rfl) (.lenS rfl Go.Proofs.Tryd.underlying9 rfl) ?_
  refine O.slot 15 (v' := .int .i64 (x.2.2.2.1.length : Int)) rfl (by rw [str_size]) ?_
  refine O.op (.p rfl) (.fieldObj FactDapart0.fld33x1 rfl) ?_
  refine O.op (.p rfl) (.loadObj FactDapart0.flat3 rfl (by repeat (first | exact Sel.here | apply Sel.there)) rfl) ?_
  refine O.op (.p rfl) (.rem rfl rfl (by omega)) ?_
  refine O.op (.p rfl) (.add rfl rfl (IntWalk.i64_in _ (by omega))) ?_
  refine O.call0 (.p rfl) rfl FactDapart0.ok12 rfl rfl (letter_c _) ?_
  rintro v20 _ ⟨rfl, rfl⟩
  try simp only [List.cons_append, List.nil_append, List.append_nil]
  refine O.op (.p rfl) (.addS rfl rfl (by omega)) ?_
  refine O.slot 21 (v' := .string (str (c :: lk (pick ((x.2.2.2.1.length : Int) + x.2.1.tmod 4) 4).toNat))) rfl (by rw [str_app]; rfl) ?_
  refine O.op (.p rfl) (.fieldObj FactDapart0.fld33x3 rfl) ?_
  refine O.opU rfl (.store1 FactDapart0.flat9 rfl rfl (by first | rfl | assumption) (by repeat (first | exact Sel.here | apply Sel.there)) (by first | (simp; done) | (simp [Value.cells]; done))) ?_
  refine O.nil ?_
  refine S.seq (S.seq (S.region rfl ?_))
  refine O.op (.p rfl) (.fieldObj FactDapart0.fld33x0 rfl) ?_
  refine O.op (.p rfl) (.loadObj FactDapart0.flat3 rfl (by repeat (first | exact Sel.here | apply Sel.there)) rfl) ?_
  refine O.call0 (.p rfl) rfl FactDapart0.ok10 rfl rfl (Pick_c _ _ (by first | assumption | (constructor <;> omega))) ?_
  rintro v25 _ ⟨rfl, rfl⟩
  try simp only [List.cons_append, List.nil_append, List.append_nil]
  refine O.op (.p rfl) (.eql rfl rfl) ?_
  refine O.nil ?_
  first | refine S.condD rfl (fun h26 => ?_) (fun h26 => ?_) | refine S.condB rfl (fun h26 => ?_) (fun h26 => ?_)
  · have hp : pick x.1 7 = 6 := by omega
    simp only [mineD, if_pos hp] at hR
    refine S.region rfl ?_
    refine O.op (.p rfl) (.fieldObj FactDapart0.fld33x0 rfl) ?_
    refine O.opU rfl (.store1 FactDapart0.flat3 rfl rfl (by first | rfl | assumption) (by repeat (first | exact Sel.here | apply Sel.there)) (by first | (simp; done) | (simp [Value.cells]; done))) ?_
    refine O.nil ?_
    refine S.seq (S.region rfl ?_)
    refine O.op (.p rfl) (.loadObjAgg (news := [_, _, _, _, _]) Go.Proofs.Tryd.isAgg33 (by kernel_rfl) rfl (by repeat (first | exact Sel.here | apply Sel.there)) rfl) ?_
    refine O.opU rfl (.storeObj (by kernel_rfl) rfl rfl rfl rfl (by repeat (first | exact Sel.here | apply Sel.there)) (by first | (simp; done) | (simp [Value.cells]; done))) ?_
    refine O.nil ?_
    refine S.retCellAgg Go.Proofs.Tryd.results20 Go.Proofs.Tryd.isAgg33 (by kernel_rfl) rfl (by repeat (first | exact Sel.here | apply Sel.there)) fun w hw => Holds.end_ hR hw ?_
    exact ⟨_, ⟨rfl, rfl⟩, by repeat (first | exact Picks.all | exact Picks.nil | (apply Picks.cons; focus (repeat (first | exact Sel.here | apply Sel.there))) | apply Picks.skip)⟩
  · have hp : ¬ pick x.1 7 = 6 := by omega
    simp only [mineD, if_neg hp] at hR
    refine S.skip (S.seq (S.region rfl ?_))
    refine O.op (.p rfl) (.loadObjAgg (news := [_, _, _, _, _]) Go.Proofs.Tryd.isAgg33 (by kernel_rfl) rfl (by repeat (first | exact Sel.here | apply Sel.there)) rfl) ?_
    refine O.opU rfl (.storeObj (by kernel_rfl) rfl rfl rfl rfl (by repeat (first | exact Sel.here | apply Sel.there)) (by first | (simp; done) | (simp [Value.cells]; done))) ?_
    refine O.nil ?_
    refine S.retCellAgg Go.Proofs.Tryd.results20 Go.Proofs.Tryd.isAgg33 (by kernel_rfl) rfl (by repeat (first | exact Sel.here | apply Sel.there)) fun w hw => Holds.end_ hR hw ?_
    exact ⟨_, ⟨rfl, rfl⟩, by repeat (first | exact Picks.all | exact Picks.nil | (apply Picks.cons; focus (repeat (first | exact Sel.here | apply Sel.there))) | apply Picks.skip)⟩

end Go.Proofs.YtkkcpckgnfcncaaDoor
