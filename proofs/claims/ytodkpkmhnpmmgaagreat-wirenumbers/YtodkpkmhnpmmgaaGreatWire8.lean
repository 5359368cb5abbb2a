import Derived.Test.YtodkpkmhnpmmgaaGreatWire12
import Derived.Test.YtodkpkmhnpmmgaaGreatSpOpen
import Derived.Test.YtodkpkmhnpmmgaaGreatSpOwn3
open Go Go.Sp
set_option maxRecDepth 100000
attribute [local irreducible] obj Own OwnP
namespace Go.Proofs.YtodkpkmhnpmmgaaGreat
theorem FactWire8.flat23 : Go.Sp.flat1 Go.Proofs.Tryz.prog 23 = true := by kernel_rfl
theorem FactWire8.flat3 : Go.Sp.flat1 Go.Proofs.Tryz.prog 3 = true := by kernel_rfl
theorem FactWire8.flat4 : Go.Sp.flat1 Go.Proofs.Tryz.prog 4 = true := by kernel_rfl
theorem FactWire8.fld40x0 : fieldOff Go.Proofs.Tryz.prog 40 0 = some 0 := by kernel_rfl
theorem FactWire8.fld40x1 : fieldOff Go.Proofs.Tryz.prog 40 1 = some 1 := by kernel_rfl
theorem FactWire8.fld40x2 : fieldOff Go.Proofs.Tryz.prog 40 2 = some 2 := by kernel_rfl
theorem FactWire8.fld40x3 : fieldOff Go.Proofs.Tryz.prog 40 3 = some 3 := by kernel_rfl
theorem FactWire8.fld43x0 : fieldOff Go.Proofs.Tryz.prog 43 0 = some 0 := by kernel_rfl
theorem FactWire8.fld43x1 : fieldOff Go.Proofs.Tryz.prog 43 1 = some 1 := by kernel_rfl
theorem FactWire8.ok21 : callable Go.Proofs.Tryz.prog 21 = true := by kernel_rfl
theorem FactWire8.ok23 : callable Go.Proofs.Tryz.prog 23 = true := by kernel_rfl
theorem FactWire8.ok28 : callable Go.Proofs.Tryz.prog 28 = true := by kernel_rfl
theorem FactWire8.ok29 : callable Go.Proofs.Tryz.prog 29 = true := by kernel_rfl
theorem FactWire8.ok30 : callable Go.Proofs.Tryz.prog 30 = true := by kernel_rfl
theorem FactWire8.ok37 : callable Go.Proofs.Tryz.prog 37 = true := by kernel_rfl
theorem FactWire8.ok38 : callable Go.Proofs.Tryz.prog 38 = true := by kernel_rfl
/-- what a reader tells to an ask: a number, bytes, what is left, whether it went bad -/
def askM (what most : Int) (good : Bool) (rest : List UInt8) : Int × List UInt8 × List UInt8 × Bool :=
  if pick what 4 = 0 then (((rByte good rest).1.toNat : Int), [], (rByte good rest).2.1, (rByte good rest).2.2)
  else if pick what 4 = 1 then ((rNum good rest).1, [], (rNum good rest).2.1, (rNum good rest).2.2)
  else if pick what 4 = 2 then (0, (rBytes most good rest).1, (rBytes most good rest).2.1, (rBytes most good rest).2.2)
  else ((rCount most good rest).1, [], (rCount most good rest).2.1, (rCount most good rest).2.2)
theorem wrapByte (x : UInt8) : IntKind.i64.wrap (x.toNat : Int) = x.toNat := IntWalk.i64_in _ (by have := x.toNat_lt; omega)
theorem doneIf (made bad : Bool) (rest : List UInt8) : decide ((made && !bad) = true ∧ rest = []) = (made && !bad && decide (rest = [])) := by cases made <;> cases bad <;> simp
theorem asked_c {r : Fr} {b : Nat} {v : Value} {rest : List UInt8} {bad : Bool} (what most : Int) (ha : Arr Rp.u8 r v rest) (hl : rest.length ≤ 140737488355328) :
    Con Go.Proofs.Tryz.prog 26 #[.pointer (some ⟨b, 0, none⟩), .agg #[.int .i64 what, .int .i64 most]] r [obj b 82 [v, .bool true, .bool bad]]
      (Ret fun u η => ∃ a c v', u = .agg #[.int .i64 (askM what most (!bad) rest).1, .slice a (askM what most (!bad) rest).2.1.length c, .bool (!(bad || (askM what most (!bad) rest).2.2.2)), .bool (decide ((!(bad || (askM what most (!bad) rest).2.2.2)) = true ∧ (askM what most (!bad) rest).2.2.1 = []))] ∧
        Arr Rp.u8 r v' (askM what most (!bad) rest).2.2.1 ∧ η = [obj b 82 [v', .bool true, .bool (bad || (askM what most (!bad) rest).2.2.2)], OwnP Rp.u8 5 (.slice a (askM what most (!bad) rest).2.1.length c) (askM what most (!bad) rest).2.1]) := by
  refine Con.of (n := 39) [.pointer (some ⟨b, 0, none⟩), .agg #[.int .i64 what, .int .i64 most]] rfl Go.Proofs.Tryz.func26 rfl rfl rfl fun g hg R hR => ?_
  refine S.seq (S.region rfl ?_)
  refine O.opE (.p rfl) (.box (cs := [_, _]) rfl rfl) ?_
  rintro _ _ ⟨b3, rfl, rfl⟩
  refine O.opE (.p rfl) (.alloc (cs := [.int .i64 0, .slice none 0 0, .bool false, .bool false]) Go.Proofs.Tryz.zeroValue40 rfl) ?_
  rintro _ _ ⟨b4, rfl, rfl⟩
  refine O.nil ?_
  refine S.seq (S.region rfl ?_)
  refine O.opE (.p rfl) (.alloc (cs := [.int .i64 0, .slice none 0 0, .bool false, .bool false]) Go.Proofs.Tryz.zeroValue40 rfl) ?_
  rintro _ _ ⟨b5, rfl, rfl⟩
  refine O.nil ?_
  refine S.seq (S.seq (S.region rfl ?_))
  refine O.op (.p rfl) (.fieldObj FactWire8.fld43x0 rfl) ?_
  refine O.op (.p rfl) (.loadObj FactWire8.flat3 rfl (by repeat (first | exact Sel.here | apply Sel.there)) rfl) ?_
  refine O.call0 (.p rfl) rfl FactWire8.ok37 rfl rfl (Pick_c _ _ (by first | assumption | (constructor <;> omega))) ?_
  rintro v8 _ ⟨rfl, rfl⟩
  try simp only [List.cons_append, List.nil_append, List.append_nil]
  refine O.nil ?_
  refine S.block (S.seq (S.region rfl ?_))
  refine O.op (.p rfl) (.eql rfl rfl) ?_
  refine O.op (.p rfl) (.as rfl) ?_
  refine O.nil ?_
  first | refine S.condD rfl (fun h14 => ?_) (fun h14 => ?_) | refine S.condB rfl (fun h14 => ?_) (fun h14 => ?_)
  · refine S.region rfl ?_
    refine O.op (.p rfl) (.mv rfl) ?_
    refine O.callS (.p rfl) rfl FactWire8.ok30 rfl rfl (by repeat (first | exact Sel.here | apply Sel.there)) ((rByte_c ha).sub hg) ?_
    rintro v17 _ ⟨v17', rfl, ha17', rfl⟩
    try simp only [List.cons_append, List.nil_append, List.append_nil]
    refine O.op (.p rfl) (.cvt Go.Proofs.Tryz.underlying5 Go.Proofs.Tryz.underlying3 rfl) ?_
    refine O.op (.p rfl) (.fieldObj FactWire8.fld40x0 rfl) ?_
    refine O.opU rfl (.store1 FactWire8.flat3 rfl rfl (by first | rfl | assumption) (by repeat (first | exact Sel.here | apply Sel.there)) (by simp)) ?_
    refine O.nil ?_
    refine S.inBlock (S.seq (S.region rfl ?_))
    refine O.op (.p rfl) (.mv rfl) ?_
    refine O.callS (.p rfl) rfl FactWire8.ok21 rfl rfl (by repeat (first | exact Sel.here | apply Sel.there)) rGood_c ?_
    rintro v33 _ ⟨rfl, rfl⟩
    try simp only [List.cons_append, List.nil_append, List.append_nil]
    refine O.op (.p rfl) (.fieldObj FactWire8.fld40x2 rfl) ?_
    refine O.opU rfl (.store1 FactWire8.flat4 rfl rfl (by first | rfl | assumption) (by repeat (first | exact Sel.here | apply Sel.there)) (by simp)) ?_
    refine O.nil ?_
    refine S.seq (S.region rfl ?_)
    refine O.op (.p rfl) (.mv rfl) ?_
    refine O.callS (.p rfl) rfl FactWire8.ok23 rfl rfl (by repeat (first | exact Sel.here | apply Sel.there)) ((rDone_c ha17').sub hg) ?_
    rintro v36 _ ⟨rfl, rfl⟩
    try simp only [List.cons_append, List.nil_append, List.append_nil]
    refine O.op (.p rfl) (.fieldObj FactWire8.fld40x3 rfl) ?_
    refine O.opU rfl (.store1 FactWire8.flat4 rfl rfl (by first | rfl | assumption) (by repeat (first | exact Sel.here | apply Sel.there)) (by simp)) ?_
    refine O.nil ?_
    refine S.seq (S.region rfl ?_)
    refine O.op (.p rfl) (.loadObjAgg (news := [_, _, _, _]) Go.Proofs.Tryz.isAgg40 (by kernel_rfl) rfl (by repeat (first | exact Sel.here | apply Sel.there)) rfl) ?_
    refine O.opU rfl (.storeObj (by kernel_rfl) rfl rfl rfl rfl (by repeat (first | exact Sel.here | apply Sel.there)) (by first | (simp; done) | (simp [Value.cells]; done))) ?_
    refine O.nil ?_
    refine S.addNil (T := Rp.u8) (e := 5) ?_
    have hk : pick what 4 = 0 := by assumption
    simp only [wrapByte]
    refine S.retCellAgg Go.Proofs.Tryz.results26 Go.Proofs.Tryz.isAgg40 (by kernel_rfl) rfl (by repeat (first | exact Sel.here | apply Sel.there)) fun w hw => Holds.end_ hR hw ?_
    simp only [askM, hk, if_true, if_false, Bool.true_and, show ¬ (1 : Int) = 0 from by decide, show ¬ (2 : Int) = 0 from by decide, show ¬ (2 : Int) = 1 from by decide]
    exact ⟨_, ⟨none, 0, v17', rfl, ha17', rfl⟩, by repeat (first | exact Picks.all | exact Picks.nil | (apply Picks.cons; focus (repeat (first | exact Sel.here | apply Sel.there))) | apply Picks.skip)⟩
  · refine S.seq (S.region rfl ?_)
    refine O.op (.p rfl) (.eql rfl rfl) ?_
    refine O.op (.p rfl) (.as rfl) ?_
    refine O.nil ?_
    first | refine S.condD rfl (fun h20 => ?_) (fun h20 => ?_) | refine S.condB rfl (fun h20 => ?_) (fun h20 => ?_)
    · refine S.region rfl ?_
      refine O.op (.p rfl) (.mv rfl) ?_
      refine O.callS (.p rfl) rfl FactWire8.ok28 rfl rfl (by repeat (first | exact Sel.here | apply Sel.there)) ((rNumber_c ha).sub hg) ?_
      rintro v23 _ ⟨v23', rfl, ha23', rfl⟩
      try simp only [List.cons_append, List.nil_append, List.append_nil]
      refine O.op (.p rfl) (.fieldObj FactWire8.fld40x0 rfl) ?_
      refine O.opU rfl (.store1 FactWire8.flat3 rfl rfl (by first | rfl | assumption) (by repeat (first | exact Sel.here | apply Sel.there)) (by simp)) ?_
      refine O.nil ?_
      refine S.inBlock (S.seq (S.region rfl ?_))
      refine O.op (.p rfl) (.mv rfl) ?_
      refine O.callS (.p rfl) rfl FactWire8.ok21 rfl rfl (by repeat (first | exact Sel.here | apply Sel.there)) rGood_c ?_
      rintro v33 _ ⟨rfl, rfl⟩
      try simp only [List.cons_append, List.nil_append, List.append_nil]
      refine O.op (.p rfl) (.fieldObj FactWire8.fld40x2 rfl) ?_
      refine O.opU rfl (.store1 FactWire8.flat4 rfl rfl (by first | rfl | assumption) (by repeat (first | exact Sel.here | apply Sel.there)) (by simp)) ?_
      refine O.nil ?_
      refine S.seq (S.region rfl ?_)
      refine O.op (.p rfl) (.mv rfl) ?_
      refine O.callS (.p rfl) rfl FactWire8.ok23 rfl rfl (by repeat (first | exact Sel.here | apply Sel.there)) ((rDone_c ha23').sub hg) ?_
      rintro v36 _ ⟨rfl, rfl⟩
      try simp only [List.cons_append, List.nil_append, List.append_nil]
      refine O.op (.p rfl) (.fieldObj FactWire8.fld40x3 rfl) ?_
      refine O.opU rfl (.store1 FactWire8.flat4 rfl rfl (by first | rfl | assumption) (by repeat (first | exact Sel.here | apply Sel.there)) (by simp)) ?_
      refine O.nil ?_
      refine S.seq (S.region rfl ?_)
      refine O.op (.p rfl) (.loadObjAgg (news := [_, _, _, _]) Go.Proofs.Tryz.isAgg40 (by kernel_rfl) rfl (by repeat (first | exact Sel.here | apply Sel.there)) rfl) ?_
      refine O.opU rfl (.storeObj (by kernel_rfl) rfl rfl rfl rfl (by repeat (first | exact Sel.here | apply Sel.there)) (by first | (simp; done) | (simp [Value.cells]; done))) ?_
      refine O.nil ?_
      refine S.addNil (T := Rp.u8) (e := 5) ?_
      refine S.retCellAgg Go.Proofs.Tryz.results26 Go.Proofs.Tryz.isAgg40 (by kernel_rfl) rfl (by repeat (first | exact Sel.here | apply Sel.there)) fun w hw => Holds.end_ hR hw ?_
      have hk : pick what 4 = 1 := by assumption
      simp only [askM, hk, if_true, if_false, Bool.true_and, show ¬ (1 : Int) = 0 from by decide, show ¬ (2 : Int) = 0 from by decide, show ¬ (2 : Int) = 1 from by decide]
      exact ⟨_, ⟨none, 0, v23', rfl, ha23', rfl⟩, by repeat (first | exact Picks.all | exact Picks.nil | (apply Picks.cons; focus (repeat (first | exact Sel.here | apply Sel.there))) | apply Picks.skip)⟩
    · refine S.seq (S.region rfl ?_)
      refine O.op (.p rfl) (.eql rfl rfl) ?_
      refine O.op (.p rfl) (.as rfl) ?_
      refine O.nil ?_
      first | refine S.condD rfl (fun h25 => ?_) (fun h25 => ?_) | refine S.condB rfl (fun h25 => ?_) (fun h25 => ?_)
      · refine S.region rfl ?_
        refine O.op (.p rfl) (.mv rfl) ?_
        refine O.op (.p rfl) (.fieldObj FactWire8.fld43x1 rfl) ?_
        refine O.op (.p rfl) (.loadObj FactWire8.flat3 rfl (by repeat (first | exact Sel.here | apply Sel.there)) rfl) ?_
        refine O.callS (.p rfl) rfl FactWire8.ok29 rfl rfl (by repeat (first | exact Sel.here | apply Sel.there)) ((rBytes_c _ ha hl).sub hg) ?_
        rintro v30 _ ⟨a30, c30, v30', rfl, ha30', rfl⟩
        try simp only [List.cons_append, List.nil_append, List.append_nil]
        refine O.op (.p rfl) (.fieldObj FactWire8.fld40x1 rfl) ?_
        refine O.opU rfl (.store1 FactWire8.flat23 rfl rfl (by first | rfl | assumption) (by repeat (first | exact Sel.here | apply Sel.there)) (by simp)) ?_
        refine O.nil ?_
        refine S.inBlock (S.seq (S.region rfl ?_))
        refine O.op (.p rfl) (.mv rfl) ?_
        refine O.callS (.p rfl) rfl FactWire8.ok21 rfl rfl (by repeat (first | exact Sel.here | apply Sel.there)) rGood_c ?_
        rintro v33 _ ⟨rfl, rfl⟩
        try simp only [List.cons_append, List.nil_append, List.append_nil]
        refine O.op (.p rfl) (.fieldObj FactWire8.fld40x2 rfl) ?_
        refine O.opU rfl (.store1 FactWire8.flat4 rfl rfl (by first | rfl | assumption) (by repeat (first | exact Sel.here | apply Sel.there)) (by simp)) ?_
        refine O.nil ?_
        refine S.seq (S.region rfl ?_)
        refine O.op (.p rfl) (.mv rfl) ?_
        refine O.callS (.p rfl) rfl FactWire8.ok23 rfl rfl (by repeat (first | exact Sel.here | apply Sel.there)) ((rDone_c ha30').sub hg) ?_
        rintro v36 _ ⟨rfl, rfl⟩
        try simp only [List.cons_append, List.nil_append, List.append_nil]
        refine O.op (.p rfl) (.fieldObj FactWire8.fld40x3 rfl) ?_
        refine O.opU rfl (.store1 FactWire8.flat4 rfl rfl (by first | rfl | assumption) (by repeat (first | exact Sel.here | apply Sel.there)) (by simp)) ?_
        refine O.nil ?_
        refine S.seq (S.region rfl ?_)
        refine O.op (.p rfl) (.loadObjAgg (news := [_, _, _, _]) Go.Proofs.Tryz.isAgg40 (by kernel_rfl) rfl (by repeat (first | exact Sel.here | apply Sel.there)) rfl) ?_
        refine O.opU rfl (.storeObj (by kernel_rfl) rfl rfl rfl rfl (by repeat (first | exact Sel.here | apply Sel.there)) (by first | (simp; done) | (simp [Value.cells]; done))) ?_
        refine O.nil ?_
        refine S.retCellAgg Go.Proofs.Tryz.results26 Go.Proofs.Tryz.isAgg40 (by kernel_rfl) rfl (by repeat (first | exact Sel.here | apply Sel.there)) fun w hw => Holds.end_ hR hw ?_
        have hk : pick what 4 = 2 := by assumption
        simp only [askM, hk, if_true, if_false, Bool.true_and, show ¬ (1 : Int) = 0 from by decide, show ¬ (2 : Int) = 0 from by decide, show ¬ (2 : Int) = 1 from by decide]
        exact ⟨_, ⟨a30, c30, v30', rfl, ha30', rfl⟩, by repeat (first | exact Picks.all | exact Picks.nil | (apply Picks.cons; focus (repeat (first | exact Sel.here | apply Sel.there))) | apply Picks.skip)⟩
      · refine S.region rfl ?_
        refine O.op (.p rfl) (.mv rfl) ?_
        refine O.op (.p rfl) (.fieldObj FactWire8.fld43x1 rfl) ?_
        refine O.op (.p rfl) (.loadObj FactWire8.flat3 rfl (by repeat (first | exact Sel.here | apply Sel.there)) rfl) ?_
        refine O.callS (.p rfl) rfl FactWire8.ok38 rfl rfl (by repeat (first | exact Sel.here | apply Sel.there)) ((rCount_c _ ha).sub hg) ?_
        rintro v12 _ ⟨v12', rfl, ha12', rfl⟩
        try simp only [List.cons_append, List.nil_append, List.append_nil]
        refine O.op (.p rfl) (.fieldObj FactWire8.fld40x0 rfl) ?_
        refine O.opU rfl (.store1 FactWire8.flat3 rfl rfl (by first | rfl | assumption) (by repeat (first | exact Sel.here | apply Sel.there)) (by simp)) ?_
        refine O.nil ?_
        refine S.inBlock (S.seq (S.region rfl ?_))
        refine O.op (.p rfl) (.mv rfl) ?_
        refine O.callS (.p rfl) rfl FactWire8.ok21 rfl rfl (by repeat (first | exact Sel.here | apply Sel.there)) rGood_c ?_
        rintro v33 _ ⟨rfl, rfl⟩
        try simp only [List.cons_append, List.nil_append, List.append_nil]
        refine O.op (.p rfl) (.fieldObj FactWire8.fld40x2 rfl) ?_
        refine O.opU rfl (.store1 FactWire8.flat4 rfl rfl (by first | rfl | assumption) (by repeat (first | exact Sel.here | apply Sel.there)) (by simp)) ?_
        refine O.nil ?_
        refine S.seq (S.region rfl ?_)
        refine O.op (.p rfl) (.mv rfl) ?_
        refine O.callS (.p rfl) rfl FactWire8.ok23 rfl rfl (by repeat (first | exact Sel.here | apply Sel.there)) ((rDone_c ha12').sub hg) ?_
        rintro v36 _ ⟨rfl, rfl⟩
        try simp only [List.cons_append, List.nil_append, List.append_nil]
        refine O.op (.p rfl) (.fieldObj FactWire8.fld40x3 rfl) ?_
        refine O.opU rfl (.store1 FactWire8.flat4 rfl rfl (by first | rfl | assumption) (by repeat (first | exact Sel.here | apply Sel.there)) (by simp)) ?_
        refine O.nil ?_
        refine S.seq (S.region rfl ?_)
        refine O.op (.p rfl) (.loadObjAgg (news := [_, _, _, _]) Go.Proofs.Tryz.isAgg40 (by kernel_rfl) rfl (by repeat (first | exact Sel.here | apply Sel.there)) rfl) ?_
        refine O.opU rfl (.storeObj (by kernel_rfl) rfl rfl rfl rfl (by repeat (first | exact Sel.here | apply Sel.there)) (by first | (simp; done) | (simp [Value.cells]; done))) ?_
        refine O.nil ?_
        refine S.addNil (T := Rp.u8) (e := 5) ?_
        refine S.retCellAgg Go.Proofs.Tryz.results26 Go.Proofs.Tryz.isAgg40 (by kernel_rfl) rfl (by repeat (first | exact Sel.here | apply Sel.there)) fun w hw => Holds.end_ hR hw ?_
        have hk0 : ¬ pick what 4 = 0 := by assumption
        have hk1 : ¬ pick what 4 = 1 := by assumption
        have hk2 : ¬ pick what 4 = 2 := by assumption
        simp only [askM, hk0, hk1, hk2, if_false, Bool.true_and]
        exact ⟨_, ⟨none, 0, v12', rfl, ha12', rfl⟩, by repeat (first | exact Picks.all | exact Picks.nil | (apply Picks.cons; focus (repeat (first | exact Sel.here | apply Sel.there))) | apply Picks.skip)⟩
theorem asked_e {r : Fr} {b : Nat} {v : Value} {rest bs rest' : List UInt8} {bad f bad' : Bool} {n : Int} (what most : Int) (ha : Arr Rp.u8 r v rest) (hl : rest.length ≤ 140737488355328) (h : askM what most (!bad) rest = (n, bs, rest', f)) (hb : (bad || f) = bad') :
    Con Go.Proofs.Tryz.prog 26 #[.pointer (some ⟨b, 0, none⟩), .agg #[.int .i64 what, .int .i64 most]] r [obj b 82 [v, .bool true, .bool bad]]
      (Ret fun u η => ∃ a c v', u = .agg #[.int .i64 n, .slice a bs.length c, .bool (!bad'), .bool (decide ((!bad') = true ∧ rest' = []))] ∧
        Arr Rp.u8 r v' rest' ∧ η = [obj b 82 [v', .bool true, .bool bad'], OwnP Rp.u8 5 (.slice a bs.length c) bs]) := by
  have := asked_c (b := b) (bad := bad) what most ha hl
  rw [h] at this; subst hb; exact this

end Go.Proofs.YtodkpkmhnpmmgaaGreat
