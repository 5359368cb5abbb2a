import Derived.Test.YtodkpkmhnpmmgaaGreatWire8
open Go Go.Sp
set_option maxRecDepth 100000
attribute [local irreducible] obj Own OwnP
namespace Go.Proofs.YtodkpkmhnpmmgaaGreat
theorem FactWire13.elem23 : elemIs Go.Proofs.Tryz.prog 23 1 24 [.slice none 0 0] := elemIs.mk (by kernel_rfl) rfl
theorem FactWire13.flat23 : Go.Sp.flat1 Go.Proofs.Tryz.prog 23 = true := by kernel_rfl
theorem FactWire13.flat3 : Go.Sp.flat1 Go.Proofs.Tryz.prog 3 = true := by kernel_rfl
theorem FactWire13.flat4 : Go.Sp.flat1 Go.Proofs.Tryz.prog 4 = true := by kernel_rfl
theorem FactWire13.fld40x0 : fieldOff Go.Proofs.Tryz.prog 40 0 = some 0 := by kernel_rfl
theorem FactWire13.fld40x1 : fieldOff Go.Proofs.Tryz.prog 40 1 = some 1 := by kernel_rfl
theorem FactWire13.fld40x2 : fieldOff Go.Proofs.Tryz.prog 40 2 = some 2 := by kernel_rfl
theorem FactWire13.fld40x3 : fieldOff Go.Proofs.Tryz.prog 40 3 = some 3 := by kernel_rfl
theorem FactWire13.fld43x0 : fieldOff Go.Proofs.Tryz.prog 43 0 = some 0 := by kernel_rfl
theorem FactWire13.fld43x1 : fieldOff Go.Proofs.Tryz.prog 43 1 = some 1 := by kernel_rfl
theorem FactWire13.mixed : Go.Proofs.Tryz.prog.follows .mixedOrders = true := by kernel_rfl
theorem FactWire13.ok10 : callable Go.Proofs.Tryz.prog 10 = true := by kernel_rfl
theorem FactWire13.ok16 : callable Go.Proofs.Tryz.prog 16 = true := by kernel_rfl
theorem FactWire13.ok17 : callable Go.Proofs.Tryz.prog 17 = true := by kernel_rfl
theorem FactWire13.ok18 : callable Go.Proofs.Tryz.prog 18 = true := by kernel_rfl
theorem FactWire13.ok19 : callable Go.Proofs.Tryz.prog 19 = true := by kernel_rfl
theorem FactWire13.ok20 : callable Go.Proofs.Tryz.prog 20 = true := by kernel_rfl
theorem FactWire13.ok21 : callable Go.Proofs.Tryz.prog 21 = true := by kernel_rfl
theorem FactWire13.ok22 : callable Go.Proofs.Tryz.prog 22 = true := by kernel_rfl
theorem FactWire13.ok23 : callable Go.Proofs.Tryz.prog 23 = true := by kernel_rfl
theorem FactWire13.ok24 : callable Go.Proofs.Tryz.prog 24 = true := by kernel_rfl
theorem FactWire13.ok25 : callable Go.Proofs.Tryz.prog 25 = true := by kernel_rfl
theorem FactWire13.ok26 : callable Go.Proofs.Tryz.prog 26 = true := by kernel_rfl
theorem FactWire13.ok27 : callable Go.Proofs.Tryz.prog 27 = true := by kernel_rfl
theorem FactWire13.ok37 : callable Go.Proofs.Tryz.prog 37 = true := by kernel_rfl
theorem FactWire13.ok39 : callable Go.Proofs.Tryz.prog 39 = true := by kernel_rfl
theorem FactWire13.ok40 : callable Go.Proofs.Tryz.prog 40 = true := by kernel_rfl
theorem FactWire13.ok41 : callable Go.Proofs.Tryz.prog 41 = true := by kernel_rfl
theorem FactWire13.ok42 : callable Go.Proofs.Tryz.prog 42 = true := by kernel_rfl
theorem FactWire13.ok6 : callable Go.Proofs.Tryz.prog 6 = true := by kernel_rfl
theorem FactWire13.size43 : (Go.Proofs.Tryz.prog.info? 43).map (·.size) = some 2 := by kernel_rfl
theorem wanted_c {r : Fr} {b p : Nat} {v : Value} {xs : List UInt8} {bad : Bool} (what most : Int) (ha : Arr Rp.u8 r v xs) (hp : p ≤ xs.length) (hl : xs.length ≤ 1000000000) :
    Con Go.Proofs.Tryz.prog 27 #[.pointer (some ⟨b, 0, none⟩), .agg #[.int .i64 what, .int .i64 most]] r [obj b 84 [v, .int .i64 (p : Int), .bool bad]]
      (Ret fun u η => ∃ a c p', p' ≤ xs.length ∧ xs.drop p' = (askM what most (!bad) (xs.drop p)).2.2.1 ∧ u = .agg #[.int .i64 (askM what most (!bad) (xs.drop p)).1, .slice a (askM what most (!bad) (xs.drop p)).2.1.length c, .bool (!(bad || (askM what most (!bad) (xs.drop p)).2.2.2)), .bool (!(bad || (askM what most (!bad) (xs.drop p)).2.2.2) && decide (p' = xs.length))] ∧
        η = [obj b 84 [v, .int .i64 (p' : Int), .bool (bad || (askM what most (!bad) (xs.drop p)).2.2.2)], OwnP Rp.u8 5 (.slice a (askM what most (!bad) (xs.drop p)).2.1.length c) (askM what most (!bad) (xs.drop p)).2.1]) := by
  refine Con.of (n := 39) [.pointer (some ⟨b, 0, none⟩), .agg #[.int .i64 what, .int .i64 most]] rfl Go.Proofs.Tryz.func27 rfl rfl rfl fun g hg R hR => ?_
  refine S.seq (S.region rfl ?_)
  refine O.opE (.p rfl) (.box (cs := [_, _]) rfl rfl) ?_
  rintro _ _ ⟨b3, rfl, rfl⟩
  refine O.opE (.p rfl) (.alloc (cs := [.int .i64 0, .slice none 0 0, .bool false, .bool false]) Go.Proofs.Tryz.zeroValue40 rfl) ?_
  rintro _ _ ⟨b4, rfl, rfl⟩
  refine O.nil ?_
  refine S.seq (S.region rfl ?_)
  refine O.opE (.p rfl) (.alloc (cs := [.int .i64 0, .slice none 0 0, .bool false, .bool false]) Go.Proofs.Tryz.zeroValue40 rfl) ?_
  rintro _ _ ⟨b5, rfl, rfl⟩
  refine O.nil ?_
  refine S.seq (S.seq (S.region rfl ?_))
  refine O.op (.p rfl) (.fieldObj FactWire13.fld43x0 rfl) ?_
  refine O.op (.p rfl) (.loadObj FactWire13.flat3 rfl (by repeat (first | exact Sel.here | apply Sel.there)) rfl) ?_
  refine O.call0 (.p rfl) rfl FactWire13.ok37 rfl rfl (Pick_c _ _ (by first | assumption | (constructor <;> omega))) ?_
  rintro v8 _ ⟨rfl, rfl⟩
  try simp only [List.cons_append, List.nil_append, List.append_nil]
  refine O.nil ?_
  refine S.block (S.seq (S.region rfl ?_))
  refine O.op (.p rfl) (.eql rfl rfl) ?_
  refine O.op (.p rfl) (.as rfl) ?_
  refine O.nil ?_
  first | refine S.condD rfl (fun h14 => ?_) (fun h14 => ?_) | refine S.condB rfl (fun h14 => ?_) (fun h14 => ?_)
  · refine S.region rfl ?_
    refine O.op (.p rfl) (.mv rfl) ?_
    refine O.callS (.p rfl) rfl FactWire13.ok39 rfl rfl (by repeat (first | exact Sel.here | apply Sel.there)) ((refByte_c ha hp).sub hg) ?_
    rintro v17 _ ⟨p', hp', hd', rfl, rfl⟩
    try simp only [List.cons_append, List.nil_append, List.append_nil]
    refine O.op (.p rfl) (.cvt Go.Proofs.Tryz.underlying5 Go.Proofs.Tryz.underlying3 rfl) ?_
    refine O.op (.p rfl) (.fieldObj FactWire13.fld40x0 rfl) ?_
    refine O.opU rfl (.store1 FactWire13.flat3 rfl rfl (by first | rfl | assumption) (by repeat (first | exact Sel.here | apply Sel.there)) (by simp)) ?_
    refine O.nil ?_
    refine S.inBlock (S.seq (S.region rfl ?_))
    refine O.op (.p rfl) (.mv rfl) ?_
    refine O.callS (.p rfl) rfl FactWire13.ok22 rfl rfl (by repeat (first | exact Sel.here | apply Sel.there)) refGood_c ?_
    rintro v33 _ ⟨rfl, rfl⟩
    try simp only [List.cons_append, List.nil_append, List.append_nil]
    refine O.op (.p rfl) (.fieldObj FactWire13.fld40x2 rfl) ?_
    refine O.opU rfl (.store1 FactWire13.flat4 rfl rfl (by first | rfl | assumption) (by repeat (first | exact Sel.here | apply Sel.there)) (by simp)) ?_
    refine O.nil ?_
    refine S.seq (S.region rfl ?_)
    refine O.op (.p rfl) (.mv rfl) ?_
    refine O.callS (.p rfl) rfl FactWire13.ok24 rfl rfl (by repeat (first | exact Sel.here | apply Sel.there)) ((refDone_c ha).sub hg) ?_
    rintro v36 _ ⟨rfl, rfl⟩
    try simp only [List.cons_append, List.nil_append, List.append_nil]
    refine O.op (.p rfl) (.fieldObj FactWire13.fld40x3 rfl) ?_
    refine O.opU rfl (.store1 FactWire13.flat4 rfl rfl (by first | rfl | assumption) (by repeat (first | exact Sel.here | apply Sel.there)) (by simp)) ?_
    refine O.nil ?_
    refine S.seq (S.region rfl ?_)
    refine O.op (.p rfl) (.loadObjAgg (news := [_, _, _, _]) Go.Proofs.Tryz.isAgg40 (by kernel_rfl) rfl (by repeat (first | exact Sel.here | apply Sel.there)) rfl) ?_
    refine O.opU rfl (.storeObj (by kernel_rfl) rfl rfl rfl rfl (by repeat (first | exact Sel.here | apply Sel.there)) (by first | (simp; done) | (simp [Value.cells]; done))) ?_
    refine O.nil ?_
    refine S.addNil (T := Rp.u8) (e := 5) ?_
    have hk : pick what 4 = 0 := by assumption
    simp only [wrapByte]
    refine S.retCellAgg Go.Proofs.Tryz.results27 Go.Proofs.Tryz.isAgg40 (by kernel_rfl) rfl (by repeat (first | exact Sel.here | apply Sel.there)) fun w hw => Holds.end_ hR hw ?_
    simp only [askM, hk, if_true]
    exact ⟨_, ⟨none, 0, p', hp', hd', rfl, rfl⟩, by repeat (first | exact Picks.all | exact Picks.nil | (apply Picks.cons; focus (repeat (first | exact Sel.here | apply Sel.there))) | apply Picks.skip)⟩
  · refine S.seq (S.region rfl ?_)
    refine O.op (.p rfl) (.eql rfl rfl) ?_
    refine O.op (.p rfl) (.as rfl) ?_
    refine O.nil ?_
    first | refine S.condD rfl (fun h20 => ?_) (fun h20 => ?_) | refine S.condB rfl (fun h20 => ?_) (fun h20 => ?_)
    · refine S.region rfl ?_
      refine O.op (.p rfl) (.mv rfl) ?_
      refine O.callS (.p rfl) rfl FactWire13.ok40 rfl rfl (by repeat (first | exact Sel.here | apply Sel.there)) ((refNumber2_c ha hp hl).sub hg) ?_
      rintro v23 _ ⟨p', hp', hd', rfl, rfl⟩
      try simp only [List.cons_append, List.nil_append, List.append_nil]
      refine O.op (.p rfl) (.fieldObj FactWire13.fld40x0 rfl) ?_
      refine O.opU rfl (.store1 FactWire13.flat3 rfl rfl (by first | rfl | assumption) (by repeat (first | exact Sel.here | apply Sel.there)) (by simp)) ?_
      refine O.nil ?_
      refine S.inBlock (S.seq (S.region rfl ?_))
      refine O.op (.p rfl) (.mv rfl) ?_
      refine O.callS (.p rfl) rfl FactWire13.ok22 rfl rfl (by repeat (first | exact Sel.here | apply Sel.there)) refGood_c ?_
      rintro v33 _ ⟨rfl, rfl⟩
      try simp only [List.cons_append, List.nil_append, List.append_nil]
      refine O.op (.p rfl) (.fieldObj FactWire13.fld40x2 rfl) ?_
      refine O.opU rfl (.store1 FactWire13.flat4 rfl rfl (by first | rfl | assumption) (by repeat (first | exact Sel.here | apply Sel.there)) (by simp)) ?_
      refine O.nil ?_
      refine S.seq (S.region rfl ?_)
      refine O.op (.p rfl) (.mv rfl) ?_
      refine O.callS (.p rfl) rfl FactWire13.ok24 rfl rfl (by repeat (first | exact Sel.here | apply Sel.there)) ((refDone_c ha).sub hg) ?_
      rintro v36 _ ⟨rfl, rfl⟩
      try simp only [List.cons_append, List.nil_append, List.append_nil]
      refine O.op (.p rfl) (.fieldObj FactWire13.fld40x3 rfl) ?_
      refine O.opU rfl (.store1 FactWire13.flat4 rfl rfl (by first | rfl | assumption) (by repeat (first | exact Sel.here | apply Sel.there)) (by simp)) ?_
      refine O.nil ?_
      refine S.seq (S.region rfl ?_)
      refine O.op (.p rfl) (.loadObjAgg (news := [_, _, _, _]) Go.Proofs.Tryz.isAgg40 (by kernel_rfl) rfl (by repeat (first | exact Sel.here | apply Sel.there)) rfl) ?_
      refine O.opU rfl (.storeObj (by kernel_rfl) rfl rfl rfl rfl (by repeat (first | exact Sel.here | apply Sel.there)) (by first | (simp; done) | (simp [Value.cells]; done))) ?_
      refine O.nil ?_
      refine S.addNil (T := Rp.u8) (e := 5) ?_
      refine S.retCellAgg Go.Proofs.Tryz.results27 Go.Proofs.Tryz.isAgg40 (by kernel_rfl) rfl (by repeat (first | exact Sel.here | apply Sel.there)) fun w hw => Holds.end_ hR hw ?_
      have hk : pick what 4 = 1 := by assumption
      simp only [askM, hk, if_true, if_false, show ¬ (1 : Int) = 0 from by decide]
      exact ⟨_, ⟨none, 0, p', hp', hd', rfl, rfl⟩, by repeat (first | exact Picks.all | exact Picks.nil | (apply Picks.cons; focus (repeat (first | exact Sel.here | apply Sel.there))) | apply Picks.skip)⟩
    · refine S.seq (S.region rfl ?_)
      refine O.op (.p rfl) (.eql rfl rfl) ?_
      refine O.op (.p rfl) (.as rfl) ?_
      refine O.nil ?_
      first | refine S.condD rfl (fun h25 => ?_) (fun h25 => ?_) | refine S.condB rfl (fun h25 => ?_) (fun h25 => ?_)
      · refine S.region rfl ?_
        refine O.op (.p rfl) (.mv rfl) ?_
        refine O.op (.p rfl) (.fieldObj FactWire13.fld43x1 rfl) ?_
        refine O.op (.p rfl) (.loadObj FactWire13.flat3 rfl (by repeat (first | exact Sel.here | apply Sel.there)) rfl) ?_
        refine O.callS (.p rfl) rfl FactWire13.ok41 rfl rfl (by repeat (first | exact Sel.here | apply Sel.there)) ((refBytes2_c most ha hp hl).sub hg) ?_
        rintro v30 _ ⟨a30, c30, p', hp', hd', rfl, rfl⟩
        try simp only [List.cons_append, List.nil_append, List.append_nil]
        refine O.op (.p rfl) (.fieldObj FactWire13.fld40x1 rfl) ?_
        refine O.opU rfl (.store1 FactWire13.flat23 rfl rfl (by first | rfl | assumption) (by repeat (first | exact Sel.here | apply Sel.there)) (by simp)) ?_
        refine O.nil ?_
        refine S.inBlock (S.seq (S.region rfl ?_))
        refine O.op (.p rfl) (.mv rfl) ?_
        refine O.callS (.p rfl) rfl FactWire13.ok22 rfl rfl (by repeat (first | exact Sel.here | apply Sel.there)) refGood_c ?_
        rintro v33 _ ⟨rfl, rfl⟩
        try simp only [List.cons_append, List.nil_append, List.append_nil]
        refine O.op (.p rfl) (.fieldObj FactWire13.fld40x2 rfl) ?_
        refine O.opU rfl (.store1 FactWire13.flat4 rfl rfl (by first | rfl | assumption) (by repeat (first | exact Sel.here | apply Sel.there)) (by simp)) ?_
        refine O.nil ?_
        refine S.seq (S.region rfl ?_)
        refine O.op (.p rfl) (.mv rfl) ?_
        refine O.callS (.p rfl) rfl FactWire13.ok24 rfl rfl (by repeat (first | exact Sel.here | apply Sel.there)) ((refDone_c ha).sub hg) ?_
        rintro v36 _ ⟨rfl, rfl⟩
        try simp only [List.cons_append, List.nil_append, List.append_nil]
        refine O.op (.p rfl) (.fieldObj FactWire13.fld40x3 rfl) ?_
        refine O.opU rfl (.store1 FactWire13.flat4 rfl rfl (by first | rfl | assumption) (by repeat (first | exact Sel.here | apply Sel.there)) (by simp)) ?_
        refine O.nil ?_
        refine S.seq (S.region rfl ?_)
        refine O.op (.p rfl) (.loadObjAgg (news := [_, _, _, _]) Go.Proofs.Tryz.isAgg40 (by kernel_rfl) rfl (by repeat (first | exact Sel.here | apply Sel.there)) rfl) ?_
        refine O.opU rfl (.storeObj (by kernel_rfl) rfl rfl rfl rfl (by repeat (first | exact Sel.here | apply Sel.there)) (by first | (simp; done) | (simp [Value.cells]; done))) ?_
        refine O.nil ?_
        refine S.retCellAgg Go.Proofs.Tryz.results27 Go.Proofs.Tryz.isAgg40 (by kernel_rfl) rfl (by repeat (first | exact Sel.here | apply Sel.there)) fun w hw => Holds.end_ hR hw ?_
        have hk : pick what 4 = 2 := by assumption
        simp only [askM, hk, if_true, if_false, show ¬ (2 : Int) = 0 from by decide, show ¬ (2 : Int) = 1 from by decide]
        exact ⟨_, ⟨a30, c30, p', hp', hd', rfl, rfl⟩, by repeat (first | exact Picks.all | exact Picks.nil | (apply Picks.cons; focus (repeat (first | exact Sel.here | apply Sel.there))) | apply Picks.skip)⟩
      · refine S.region rfl ?_
        refine O.op (.p rfl) (.mv rfl) ?_
        refine O.op (.p rfl) (.fieldObj FactWire13.fld43x1 rfl) ?_
        refine O.op (.p rfl) (.loadObj FactWire13.flat3 rfl (by repeat (first | exact Sel.here | apply Sel.there)) rfl) ?_
        refine O.callS (.p rfl) rfl FactWire13.ok42 rfl rfl (by repeat (first | exact Sel.here | apply Sel.there)) ((refCount_c most ha hp hl).sub hg) ?_
        rintro v12 _ ⟨p', hp', hd', rfl, rfl⟩
        try simp only [List.cons_append, List.nil_append, List.append_nil]
        refine O.op (.p rfl) (.fieldObj FactWire13.fld40x0 rfl) ?_
        refine O.opU rfl (.store1 FactWire13.flat3 rfl rfl (by first | rfl | assumption) (by repeat (first | exact Sel.here | apply Sel.there)) (by simp)) ?_
        refine O.nil ?_
        refine S.inBlock (S.seq (S.region rfl ?_))
        refine O.op (.p rfl) (.mv rfl) ?_
        refine O.callS (.p rfl) rfl FactWire13.ok22 rfl rfl (by repeat (first | exact Sel.here | apply Sel.there)) refGood_c ?_
        rintro v33 _ ⟨rfl, rfl⟩
        try simp only [List.cons_append, List.nil_append, List.append_nil]
        refine O.op (.p rfl) (.fieldObj FactWire13.fld40x2 rfl) ?_
        refine O.opU rfl (.store1 FactWire13.flat4 rfl rfl (by first | rfl | assumption) (by repeat (first | exact Sel.here | apply Sel.there)) (by simp)) ?_
        refine O.nil ?_
        refine S.seq (S.region rfl ?_)
        refine O.op (.p rfl) (.mv rfl) ?_
        refine O.callS (.p rfl) rfl FactWire13.ok24 rfl rfl (by repeat (first | exact Sel.here | apply Sel.there)) ((refDone_c ha).sub hg) ?_
        rintro v36 _ ⟨rfl, rfl⟩
        try simp only [List.cons_append, List.nil_append, List.append_nil]
        refine O.op (.p rfl) (.fieldObj FactWire13.fld40x3 rfl) ?_
        refine O.opU rfl (.store1 FactWire13.flat4 rfl rfl (by first | rfl | assumption) (by repeat (first | exact Sel.here | apply Sel.there)) (by simp)) ?_
        refine O.nil ?_
        refine S.seq (S.region rfl ?_)
        refine O.op (.p rfl) (.loadObjAgg (news := [_, _, _, _]) Go.Proofs.Tryz.isAgg40 (by kernel_rfl) rfl (by repeat (first | exact Sel.here | apply Sel.there)) rfl) ?_
        refine O.opU rfl (.storeObj (by kernel_rfl) rfl rfl rfl rfl (by repeat (first | exact Sel.here | apply Sel.there)) (by first | (simp; done) | (simp [Value.cells]; done))) ?_
        refine O.nil ?_
        refine S.addNil (T := Rp.u8) (e := 5) ?_
        refine S.retCellAgg Go.Proofs.Tryz.results27 Go.Proofs.Tryz.isAgg40 (by kernel_rfl) rfl (by repeat (first | exact Sel.here | apply Sel.there)) fun w hw => Holds.end_ hR hw ?_
        have hk0 : ¬ pick what 4 = 0 := by assumption
        have hk1 : ¬ pick what 4 = 1 := by assumption
        have hk2 : ¬ pick what 4 = 2 := by assumption
        simp only [askM, hk0, hk1, hk2, if_false]
        exact ⟨_, ⟨none, 0, p', hp', hd', rfl, rfl⟩, by repeat (first | exact Picks.all | exact Picks.nil | (apply Picks.cons; focus (repeat (first | exact Sel.here | apply Sel.there))) | apply Picks.skip)⟩
theorem wanted_e {r : Fr} {b p : Nat} {v : Value} {xs bs rest' : List UInt8} {bad f bad' : Bool} {n : Int} (what most : Int) (ha : Arr Rp.u8 r v xs) (hp : p ≤ xs.length) (hl : xs.length ≤ 1000000000) (h : askM what most (!bad) (xs.drop p) = (n, bs, rest', f)) (hb : (bad || f) = bad') :
    Con Go.Proofs.Tryz.prog 27 #[.pointer (some ⟨b, 0, none⟩), .agg #[.int .i64 what, .int .i64 most]] r [obj b 84 [v, .int .i64 (p : Int), .bool bad]]
      (Ret fun u η => ∃ a c p', p' ≤ xs.length ∧ xs.drop p' = rest' ∧ u = .agg #[.int .i64 n, .slice a bs.length c, .bool (!bad'), .bool (!bad' && decide (p' = xs.length))] ∧
        η = [obj b 84 [v, .int .i64 (p' : Int), .bool bad'], OwnP Rp.u8 5 (.slice a bs.length c) bs]) := by
  have := wanted_c (b := b) (bad := bad) what most ha hp hl
  rw [h] at this; subst hb; exact this
theorem askM_bs (what most : Int) (good : Bool) (rest : List UInt8) : (askM what most good rest).2.1.length ≤ rest.length := by
  unfold askM rByte rNum rBytes rCount; repeat' split
  all_goals (first | (simp; done) | (simp; omega))
/-- a reader of what is lent -/
theorem NewReader_l {r : Fr} {va : Value} {xs : List UInt8} (hl : xs.length ≤ 140737488355328) :
    Con Go.Proofs.Tryz.prog 18 #[va] r [LentP 5 va xs] (Ret fun v η => ∃ b a c, v = .pointer (some ⟨b, 0, none⟩) ∧ η = [obj b 82 [.slice a xs.length c, .bool true, .bool false], OwnP Rp.u8 5 (.slice a xs.length c) xs, LentP 5 va xs]) :=
  (Con.lent (bs := [_]) fun _ hm hd => wNewReader_c (((Sat.w1 (B := fun m => LentA m va xs) LentA.mono (fun _ x => x.lentA) hm).arr).right hd) hl).mono fun e η h => by
    cases e with
    | returned v => obtain ⟨_, ⟨b, a, c, h1, h2⟩, h3⟩ := h; subst h2; exact ⟨b, a, c, h1, h3⟩
    | panicked _ => obtain ⟨_, h, _⟩ := h; exact h.elim
    | outgrown => obtain ⟨_, h, _⟩ := h; exact h.elim
/-- what is lent is as it was -/
theorem KeptBytes_l {r : Fr} {va vl : Value} {xs : List UInt8} (hl : Arr Rp.u8 r vl xs) (hb : xs.length ≤ 100000000000000) :
    Con Go.Proofs.Tryz.prog 20 #[va, vl] r [LentP 5 va xs] (Ret fun v η => v = .bool true ∧ η = [LentP 5 va xs]) :=
  (Con.lent (bs := [_]) (Post := Ret fun v η => v = .bool true ∧ η = []) fun _ hm hd => by
    obtain ⟨a, c, h1, h2, h3⟩ := Sat.w1 (B := fun m => LentA m va xs) LentA.mono (fun _ x => x.lentA) hm
    subst h2
    refine (KeptBytes_c (h3.right hd) hl.left hb).mono fun e η h => ?_
    cases e with
    | returned v => obtain ⟨h4, h5⟩ := h; exact ⟨by rw [h4]; simp, h5⟩
    | panicked _ => exact h.elim
    | outgrown => exact h.elim).mono fun e η h => by
    cases e with
    | returned v => obtain ⟨_, ⟨h1, h2⟩, h3⟩ := h; subst h2; exact ⟨h1, h3⟩
    | panicked _ => obtain ⟨_, h, _⟩ := h; exact h.elim
    | outgrown => obtain ⟨_, h, _⟩ := h; exact h.elim
/-- where the walk through the asks stands -/
structure Stand (xs : List UInt8) (g : Fr) (i : Nat) (v : Value) (p : Nat) (ws : List Value) (ws2 : List (List UInt8)) : Prop where
  pl : p ≤ xs.length
  arr : Arr Rp.u8 g v (xs.drop p)
  l1 : ws.length = i
  l2 : ws2.length = i
  bd : ∀ x ∈ ws2, x.length ≤ 20000
theorem Stand.bd_step {ws2 : List (List UInt8)} {bs : List UInt8} (h : ∀ x ∈ ws2, x.length ≤ 20000) (hb : bs.length ≤ 20000) : ∀ x ∈ ws2 ++ [bs], x.length ≤ 20000 := fun x hx => by
  rcases List.mem_append.1 hx with q | q
  · exact h x q
  · rw [List.mem_singleton.1 q]; exact hb
theorem WireReads_c {r : Fr} {vb va : Value} {xs : List UInt8} {asks : List (Int × Int × Unit)} (hb : Arr Rp.u8 r vb xs) (ha : Arr (Rp.prod Rp.i64 (Rp.prod Rp.i64 Rp.unit)) r va asks) :
    Con Go.Proofs.Tryz.prog 4 #[vb, va] r [] (Ret fun v η => v = .bool true ∧ η = []) := by
  refine Con.of (n := 102) [vb, va] rfl Go.Proofs.Tryz.func4 rfl rfl rfl fun g hg R hR => ?_
  have hba := ha.bound
  have hb := hb.mono hg
  have ha := ha.mono hg
  obtain ⟨a2, c2, rfl⟩ := hb.shape
  obtain ⟨a3, c3, rfl⟩ := ha.shape
  refine S.seq (S.region rfl ?_)
  refine O.op (.p rfl) (.as rfl) ?_
  refine O.nil ?_
  refine S.seq (S.seq (S.region rfl ?_))
  refine O.op (.p rfl) (.mv rfl) ?_
  refine O.op (.p rfl) (.len rfl Go.Proofs.Tryz.underlying23 rfl) ?_
  refine O.op (.p rfl) (.gtr rfl rfl) ?_
  refine O.op (.p rfl) (.mv rfl) ?_
  first | refine O.caseD 15 rfl (fun h15 => ?_) (fun h15 => ?_) | refine O.caseB 15 rfl (fun h15 => ?_) (fun h15 => ?_)
  · refine O.opN rfl rfl rfl ?_
    refine O.opN rfl rfl rfl ?_
    refine O.opN rfl rfl rfl ?_
    refine O.op (.p rfl) (.pickT rfl rfl) ?_
    refine O.nil ?_
    refine S.condT rfl ?_
    refine S.seq (S.region rfl ?_)
    refine O.call0 (.p rfl) rfl FactWire13.ok6 rfl rfl (awake_c) ?_
    rintro v20 _ ⟨rfl, rfl⟩
    try simp only [List.cons_append, List.nil_append, List.append_nil]
    refine O.op (.p rfl) (.as rfl) ?_
    refine O.nil ?_
    refine S.ret Go.Proofs.Tryz.results4 rfl fun w hw => hR _ _ w ?_ hw
    exact ⟨rfl, rfl⟩
  · refine O.op (.g rfl rfl) (.mv rfl) ?_
    refine O.op (.g rfl rfl) (.len rfl Go.Proofs.Tryz.underlying33 rfl) ?_
    refine O.op (.g rfl rfl) (.gtr rfl rfl) ?_
    refine O.op (.p rfl) (.pickF rfl rfl) ?_
    refine O.nil ?_
    first | refine S.condD rfl (fun h19 => ?_) (fun h19 => ?_) | refine S.condB rfl (fun h19 => ?_) (fun h19 => ?_)
    · refine S.seq (S.region rfl ?_)
      refine O.call0 (.p rfl) rfl FactWire13.ok6 rfl rfl (awake_c) ?_
      rintro v20 _ ⟨rfl, rfl⟩
      try simp only [List.cons_append, List.nil_append, List.append_nil]
      refine O.op (.p rfl) (.as rfl) ?_
      refine O.nil ?_
      refine S.ret Go.Proofs.Tryz.results4 rfl fun w hw => hR _ _ w ?_ hw
      exact ⟨rfl, rfl⟩
    · refine S.skip (S.seq (S.region rfl ?_))
      refine O.op (.p rfl) (.mv rfl) ?_
      refine O.call0 (.p rfl) rfl FactWire13.ok17 rfl rfl ((LentBytes_c (by first | assumption | exact Arr.mono hg (by assumption) | exact Arr.left (by assumption) | exact Arr.left (Arr.mono hg (by assumption))) (by omega))) ?_
      rintro v22 _ ⟨a22, c22, rfl, rfl⟩
      try simp only [List.cons_append, List.nil_append, List.append_nil]
      refine O.op (.p rfl) (.as rfl) ?_
      refine O.nil ?_
      refine S.seq (S.region rfl ?_)
      refine O.op (.p rfl) (.mv rfl) ?_
      refine O.callSs (.p rfl) rfl FactWire13.ok18 rfl rfl (by repeat (first | exact Sels.nil | (apply Sels.cons; focus (repeat (first | exact Sel.here | apply Sel.there))))) (NewReader_l (by omega)) ?_
      rintro v24 _ ⟨b24, a24, c24, rfl, rfl⟩
      try simp only [List.cons_append, List.nil_append, List.append_nil]
      refine O.frzA (by repeat (first | exact Sel.here | apply Sel.there)) fun g hs hm ha24 => ?_
      replace hg := Fr.sub_trans hg hs
      replace hR := melted hR hm
      try replace hb := hb.mono hs
      try replace ha := ha.mono hs
      clear hs hm
      refine O.op (.p rfl) (.mv rfl) ?_
      refine O.call0 (.p rfl) rfl FactWire13.ok19 rfl rfl ((refNewReader_c (by first | assumption | exact Arr.mono hg (by assumption) | exact Arr.left (by assumption) | exact Arr.left (Arr.mono hg (by assumption))) (by omega))) ?_
      rintro v26 _ ⟨b26, a26, c26, rfl, rfl⟩
      try simp only [List.cons_append, List.nil_append, List.append_nil]
      refine O.frzA (by repeat (first | exact Sel.here | apply Sel.there)) fun g hs hm ha26 => ?_
      replace hg := Fr.sub_trans hg hs
      replace hR := melted hR hm
      try replace hb := hb.mono hs
      try replace ha := ha.mono hs
      try replace ha24 := ha24.mono hs
      clear hs hm
      refine O.op (.p rfl) (.as rfl) ?_
      refine O.op (.p rfl) (.as rfl) ?_
      refine O.nil ?_
      refine S.seq (S.seq (S.region rfl ?_))
      refine O.op (.p rfl) (.mv rfl) ?_
      refine O.op (.p rfl) (.mv rfl) ?_
      refine O.callSs (.p rfl) rfl FactWire13.ok20 rfl rfl (by repeat (first | exact Sels.nil | (apply Sels.cons; focus (repeat (first | exact Sel.here | apply Sel.there))))) (KeptBytes_l (by first | assumption | exact Arr.mono hg (by assumption) | exact Arr.left (by assumption) | exact Arr.left (Arr.mono hg (by assumption))) (by omega)) ?_
      rintro v29 _ ⟨rfl, rfl⟩
      try simp only [List.cons_append, List.nil_append, List.append_nil]
      refine O.slot 29 (v' := .bool true) rfl (congrArg Value.bool (by first | decide | simp)) ?_
      refine O.op (.p rfl) (.not rfl) ?_
      refine O.op (.p rfl) (.mv rfl) ?_
      refine O.op (.g rfl rfl) (.mv rfl) ?_
      refine O.callS (.g rfl rfl) rfl FactWire13.ok21 rfl rfl (by repeat (first | exact Sel.here | apply Sel.there)) rGood_c ?_
      rintro v33 _ ⟨rfl, rfl⟩
      try simp only [List.cons_append, List.nil_append, List.append_nil]
      refine O.op (.g rfl rfl) (.mv rfl) ?_
      refine O.callS (.g rfl rfl) rfl FactWire13.ok22 rfl rfl (by repeat (first | exact Sel.here | apply Sel.there)) refGood_c ?_
      rintro v35 _ ⟨rfl, rfl⟩
      try simp only [List.cons_append, List.nil_append, List.append_nil]
      refine O.op (.g rfl rfl) (.neqB Go.Proofs.Tryz.underlying4 rfl rfl) ?_
      refine O.slot 36 (v' := .bool false) rfl (congrArg Value.bool (by first | decide | simp)) ?_
      refine O.op (.p rfl) (.pickF rfl rfl) ?_
      refine O.op (.p rfl) (.mv rfl) ?_
      refine O.op (.g rfl rfl) (.mv rfl) ?_
      refine O.callS (.g rfl rfl) rfl FactWire13.ok23 rfl rfl (by repeat (first | exact Sel.here | apply Sel.there)) (rDone_c ha24) ?_
      rintro v40 _ ⟨rfl, rfl⟩
      try simp only [List.cons_append, List.nil_append, List.append_nil]
      refine O.op (.g rfl rfl) (.mv rfl) ?_
      refine O.callS (.g rfl rfl) rfl FactWire13.ok24 rfl rfl (by repeat (first | exact Sel.here | apply Sel.there)) (refDone_c (p := 0) ha26) ?_
      rintro v42 _ ⟨rfl, rfl⟩
      try simp only [List.cons_append, List.nil_append, List.append_nil]
      refine O.op (.g rfl rfl) (.neqB Go.Proofs.Tryz.underlying4 rfl rfl) ?_
      refine O.slot 43 (v' := .bool false) rfl (congrArg Value.bool (by cases xs <;> simp)) ?_
      refine O.op (.p rfl) (.pickF rfl rfl) ?_
      refine O.nil ?_
      refine S.condF rfl ?_
      refine S.skip (S.seq (S.region rfl ?_))
      refine O.op (.p rfl) (.mv rfl) ?_
      refine O.callS (.p rfl) rfl FactWire13.ok25 rfl rfl (by repeat (first | exact Sel.here | apply Sel.there)) (OverBytes_c (by omega)) ?_
      rintro v46 _ ⟨rfl, rfl⟩
      try simp only [List.cons_append, List.nil_append, List.append_nil]
      refine O.nil ?_
      refine S.seq (S.region rfl ?_)
      refine O.op (.p rfl) (.as rfl) ?_
      refine O.nil ?_
      refine S.seq (S.seq (S.region rfl ?_))
      refine O.op (.p rfl) (.as rfl) ?_
      refine O.nil ?_
      refine S.block ?_
      refine S.each0 (OwnP Rp.u8 5) ?_
      refine S.addNil (T := Rp.val) (e := 23) ?_
      refine S.pk (ζ := [OwnP Rp.val 23 (.slice none 0 0) [], RowsP Rp.u8 5 [] [], obj b24 82 [.slice a24 xs.length c24, .bool true, .bool false], obj b26 84 [.slice a26 xs.length c26, .int .i64 ((0 : Nat) : Int), .bool false]]) (by repeat (first | exact Picks.all | exact Picks.nil | (apply Picks.cons; focus (repeat (first | exact Sel.here | apply Sel.there))) | apply Picks.skip)) ?_
      refine S.loopK4 (ι := Nat) (κ := Option Addr) (υ := Nat) (τ := Value × Nat × Bool × List Value × List (List UInt8)) (fun i a8 c8 q => i ≤ asks.length ∧ Stand xs g.h i q.1 q.2.1 q.2.2.2.1 q.2.2.2.2) (fun i a8 c8 q => [(9, .int .i64 (i : Int)), (8, .slice a8 i c8)]) [(1, _), (6, _), (7, _)] (fun i a8 c8 q => [OwnP Rp.val 23 (.slice a8 i c8) q.2.2.2.1, RowsP Rp.u8 5 q.2.2.2.1 q.2.2.2.2, obj b24 82 [q.1, .bool true, .bool q.2.2.1], obj b26 84 [.slice a26 xs.length c26, .int .i64 (q.2.1 : Int), .bool q.2.2.1]]) (fun i a8 c8 q => asks.length - i) (0) (none) (0) ((.slice a24 xs.length c24, 0, false, [], [])) (by exact ⟨by simp, by simp, ha24, rfl, rfl, by simp⟩) (.cons rfl (.cons rfl (.nil))) (.cons rfl (.cons rfl (.cons rfl (.nil)))) rfl fun i a8 c8 q hx ih => ?_
      have hm1 := meltRefl (g := g)
      obtain ⟨v, p, bad, ws, ws2⟩ := q
      obtain ⟨hx1, hst⟩ := hx
      dsimp only at hst ⊢
      refine S.seq (S.seq (S.region rfl ?_))
      refine O.op (.p rfl) (.mv rfl) ?_
      refine O.op (.p rfl) (.mv rfl) ?_
      refine O.op (.p rfl) (.len rfl Go.Proofs.Tryz.underlying33 rfl) ?_
      refine O.op (.p rfl) (.lss rfl rfl) ?_
      refine O.nil ?_
      first | refine S.condD rfl (fun h50 => ?_) (fun h50 => ?_) | refine S.condB rfl (fun h50 => ?_) (fun h50 => ?_)
      · have hi : i < asks.length := by omega
        obtain ⟨n, bs, rest', f, hE⟩ : ∃ n bs rest' f, askM asks[i].1 asks[i].2.1 (!bad) (xs.drop p) = (n, bs, rest', f) := ⟨_, _, _, _, rfl⟩
        have hwl : ws.length ≤ 200 := by have := hst.l1; omega
        have hbs : bs.length ≤ xs.length := by have h := askM_bs asks[i].1 asks[i].2.1 (!bad) (xs.drop p); rw [hE] at h; simp at h; omega
        refine S.skip (S.seq (S.block (S.seq (S.regionD (L := [0, 1, 2, 3, 4, 6, 7, 8, 9, 10, 5, 11, 12, 13, 14, 15]) FactWire13.mixed (by kernel_rfl) ?_))))
        refine .quiet (.p rfl) rfl (fun _ => .mv rfl) ?_
        refine .quiet (.p rfl) rfl (fun _ => .mv rfl) ?_
        refine .quiet (.p rfl) rfl (fun _ => .mv rfl) ?_
        refine OD.idx' (.p rfl) Go.Proofs.Tryz.underlying33 FactWire13.size43 rfl rfl rfl (by first | assumption | exact Arr.mono hg (by assumption) | exact Arr.left (by assumption) | exact Arr.left (Arr.mono hg (by assumption))) (by decide) (by first | omega | (simp; done) | (simp; omega) | decide) (fun p56 cs56 hp56 hr56 => ?_)
        obtain ⟨_, _, rfl, ⟨rfl, hz56⟩, _, _, rfl, ⟨rfl, hy56⟩, hw56⟩ := hr56; cases hw56; simp only [List.cons_append, List.nil_append, List.append_nil] at hp56
        refine .quiet (.p rfl) rfl (fun _ => .loadAgg Go.Proofs.Tryz.isAgg43 (by kernel_rfl) rfl hp56) ?_
        refine .quiet (.p rfl) rfl (fun _ => .mv rfl) ?_
        refine .quiet (.p rfl) rfl (fun _ => .mv rfl) ?_
        refine .quiet (.p rfl) rfl (fun _ => .mv rfl) ?_
        refine OD.idx' (.p rfl) Go.Proofs.Tryz.underlying33 FactWire13.size43 rfl rfl rfl (by first | assumption | exact Arr.mono hg (by assumption) | exact Arr.left (by assumption) | exact Arr.left (Arr.mono hg (by assumption))) (by decide) (by first | omega | (simp; done) | (simp; omega) | decide) (fun p62 cs62 hp62 hr62 => ?_)
        obtain ⟨_, _, rfl, ⟨rfl, hz62⟩, _, _, rfl, ⟨rfl, hy62⟩, hw62⟩ := hr62; cases hw62; simp only [List.cons_append, List.nil_append, List.append_nil] at hp62
        refine .quiet (.p rfl) rfl (fun _ => .loadAgg Go.Proofs.Tryz.isAgg43 (by kernel_rfl) rfl hp62) ?_
        refine OD.callS (.p rfl) (by kernel_rfl) rfl FactWire13.ok26 rfl rfl (by repeat (first | exact Sel.here | apply Sel.there)) (asked_e _ _ hst.arr (by simp; omega) hE rfl) ?_
        rintro v58 _ ⟨a58, c58, v58', rfl, ha58', rfl⟩
        try simp only [List.cons_append, List.nil_append, List.append_nil]
        refine OD.callS (.p rfl) (by kernel_rfl) rfl FactWire13.ok27 rfl rfl (by repeat (first | exact Sel.here | apply Sel.there)) (wanted_e _ _ ha26 hst.pl (by omega) hE rfl) ?_
        rintro v64 _ ⟨a64, c64, p64, hp64, hd64, rfl, rfl⟩
        try simp only [List.cons_append, List.nil_append, List.append_nil]
        refine .lazy rfl (by kernel_rfl) rfl fun b10 => ?_
        refine .lazy rfl (by kernel_rfl) rfl fun b11 => ?_
        refine OD.storeObj rfl (by kernel_rfl) (by kernel_rfl) rfl rfl rfl rfl (by repeat (first | exact Sel.here | apply Sel.there)) (by first | (simp; done) | (simp [Value.cells]; done)) ?_
        refine OD.storeObj rfl (by kernel_rfl) (by kernel_rfl) rfl rfl rfl rfl (by repeat (first | exact Sel.here | apply Sel.there)) (by first | (simp; done) | (simp [Value.cells]; done)) ?_
        refine .nil ?_
        refine S.seq (S.seq (S.region rfl ?_))
        refine O.op (.p rfl) (.fieldObj FactWire13.fld40x0 rfl) ?_
        refine O.op (.p rfl) (.loadObj FactWire13.flat3 rfl (by repeat (first | exact Sel.here | apply Sel.there)) rfl) ?_
        refine O.op (.p rfl) (.fieldObj FactWire13.fld40x0 rfl) ?_
        refine O.op (.p rfl) (.loadObj FactWire13.flat3 rfl (by repeat (first | exact Sel.here | apply Sel.there)) rfl) ?_
        refine O.op (.p rfl) (.neq rfl rfl) ?_
        refine O.slot 69 (v' := .bool false) rfl (congrArg Value.bool (by first | decide | simp)) ?_
        refine O.op (.p rfl) (.mv rfl) ?_
        refine O.op (.g rfl rfl) (.fieldObj FactWire13.fld40x2 rfl) ?_
        refine O.op (.g rfl rfl) (.loadObj FactWire13.flat4 rfl (by repeat (first | exact Sel.here | apply Sel.there)) rfl) ?_
        refine O.op (.g rfl rfl) (.fieldObj FactWire13.fld40x2 rfl) ?_
        refine O.op (.g rfl rfl) (.loadObj FactWire13.flat4 rfl (by repeat (first | exact Sel.here | apply Sel.there)) rfl) ?_
        refine O.op (.g rfl rfl) (.neqB Go.Proofs.Tryz.underlying4 rfl rfl) ?_
        refine O.slot 75 (v' := .bool false) rfl (congrArg Value.bool (by first | decide | simp)) ?_
        refine O.op (.p rfl) (.pickF rfl rfl) ?_
        refine O.op (.p rfl) (.mv rfl) ?_
        refine O.op (.g rfl rfl) (.fieldObj FactWire13.fld40x3 rfl) ?_
        refine O.op (.g rfl rfl) (.loadObj FactWire13.flat4 rfl (by repeat (first | exact Sel.here | apply Sel.there)) rfl) ?_
        refine O.op (.g rfl rfl) (.fieldObj FactWire13.fld40x3 rfl) ?_
        refine O.op (.g rfl rfl) (.loadObj FactWire13.flat4 rfl (by repeat (first | exact Sel.here | apply Sel.there)) rfl) ?_
        have hdn : rest' = [] ↔ p64 = xs.length := by rw [← hd64, List.drop_eq_nil_iff]; omega
        refine O.op (.g rfl rfl) (.neqB Go.Proofs.Tryz.underlying4 rfl rfl) ?_
        refine O.slot 82 (v' := .bool false) rfl (congrArg Value.bool (by cases (bad || f) <;> simp [hdn])) ?_
        refine O.op (.p rfl) (.pickF rfl rfl) ?_
        refine O.op (.p rfl) (.mv rfl) ?_
        refine O.op (.g rfl rfl) (.fieldObj FactWire13.fld40x1 rfl) ?_
        refine O.op (.g rfl rfl) (.loadObj FactWire13.flat23 rfl (by repeat (first | exact Sel.here | apply Sel.there)) rfl) ?_
        refine O.op (.g rfl rfl) (.fieldObj FactWire13.fld40x1 rfl) ?_
        refine O.op (.g rfl rfl) (.loadObj FactWire13.flat23 rfl (by repeat (first | exact Sel.here | apply Sel.there)) rfl) ?_
        refine O.callB (.g rfl rfl) rfl FactWire13.ok10 rfl rfl (bs := [OwnP Rp.u8 5 (.slice a58 bs.length c58) bs, OwnP Rp.u8 5 (.slice a64 bs.length c64) bs]) (by repeat (first | exact Sels.nil | (apply Sels.cons; focus (repeat (first | exact Sel.here | apply Sel.there))))) (fun m hm hd => SameBytes_c (hm.arr.right hd) (hm.tail.arr.right hd)) ?_
        rintro v89 _ ⟨rfl, rfl⟩
        try simp only [List.cons_append, List.nil_append, List.append_nil]
        refine O.slot 89 (v' := .bool true) rfl (congrArg Value.bool (by first | decide | simp)) ?_
        refine O.op (.g rfl rfl) (.not rfl) ?_
        refine O.op (.p rfl) (.pickF rfl rfl) ?_
        refine O.nil ?_
        refine S.condF rfl ?_
        refine S.skip (S.region rfl ?_)
        refine O.op (.p rfl) (.mv rfl) ?_
        refine O.op (.p rfl) (.fieldObj FactWire13.fld40x1 rfl) ?_
        refine O.op (.p rfl) (.loadObj FactWire13.flat23 rfl (by repeat (first | exact Sel.here | apply Sel.there)) rfl) ?_
        refine O.opE (.p rfl) (.litP (T := Rp.val) (ys := [_]) Go.Proofs.Tryz.underlying22 FactWire13.elem23 (by decide) rfl rfl ⟨⟨rfl, rfl⟩, trivial⟩ (by decide)) ?_
        rintro _ _ ⟨a95, c95, rfl, rfl⟩
        refine O.opE (.p rfl) (.appendO (T := Rp.val) Go.Proofs.Tryz.underlying22 FactWire13.elem23 (by decide) rfl rfl (by repeat (first | exact Sel.here | apply Sel.there)) (by repeat (first | exact Sel.here | apply Sel.there)) (by first | omega | (simp; done) | (simp; omega) | decide) (by first | omega | (simp; done) | (simp; omega) | decide)) ?_
        rintro _ _ ⟨a96, c96, rfl, rfl⟩
        refine O.op (.p rfl) (.as rfl) ?_
        refine O.nil ?_
        refine S.inBlock (S.region rfl ?_)
        refine O.op (.p rfl) (.mv rfl) ?_
        refine O.op (.p rfl) (.add rfl rfl (IntWalk.i64_in _ (by omega))) ?_
        refine O.op (.p rfl) (.as rfl) ?_
        refine O.nil ?_
        refine S.each (A := OwnP Rp.u8 5) (bs := ws) (b := .slice a58 bs.length c58) (a := bs) (by repeat (first | exact Sel.here | apply Sel.there)) (by repeat (first | exact Sel.here | apply Sel.there)) ?_
        rw [hst.l1]
        refine S.pk ?_ (S.weaken ?_ (ih (i + 1) (a96) (c96) ((v58', p64, (or bad f), ws ++ [.slice a58 bs.length c58], ws2 ++ [bs])) (by exact ⟨by omega, hp64, by rw [hd64]; exact ha58', by simp [hst.l1], by simp [hst.l2], Stand.bd_step hst.bd (by omega)⟩) (by omega)))
        · repeat (first | exact Picks.all | exact Picks.nil | (apply Picks.cons; focus (repeat (first | exact Sel.here | apply Sel.there))) | apply Picks.skip)
        repeat (first | exact Sub.nil | refine Sub.cons rfl ?_)
      · clear ih
        have hi : i = asks.length := by omega
        subst hi
        refine S.frzA (by repeat (first | exact Sel.here | apply Sel.there)) fun g hs hm hout => ?_
        replace hg := Fr.sub_trans hg hs
        replace hR := melted hR hm
        try replace hb := hb.mono hs
        try replace ha := ha.mono hs
        try replace ha24 := ha24.mono hs
        try replace ha26 := ha26.mono hs
        replace hm1 := meltTrans hm1 hm
        clear hs hm
        have hl2 := hst.l2
        refine S.exit rfl ?_
        refine S.seq (S.region rfl ?_)
        refine O.op (.p rfl) (.mv rfl) ?_
        refine O.callSs (.p rfl) rfl FactWire13.ok16 rfl rfl (by repeat (first | exact Sels.nil | (apply Sels.cons; focus (repeat (first | exact Sel.here | apply Sel.there))))) (ApartBytes_c hout (fun x hx => Nat.le_trans (hst.bd x hx) (by decide)) (by omega)) ?_
        rintro v98 _ ⟨rfl, rfl⟩
        try simp only [List.cons_append, List.nil_append, List.append_nil]
        refine O.slot 98 (v' := .bool true) rfl (congrArg Value.bool (by first | decide | simp)) ?_
        refine O.op (.p rfl) (.mv rfl) ?_
        refine O.call0 (.g rfl rfl) rfl FactWire13.ok6 rfl rfl (awake_c) ?_
        rintro v100 _ ⟨rfl, rfl⟩
        try simp only [List.cons_append, List.nil_append, List.append_nil]
        refine O.slot 100 (v' := .bool true) rfl (congrArg Value.bool (by first | decide | simp)) ?_
        refine O.op (.p rfl) (.pickT rfl rfl) ?_
        refine O.op (.p rfl) (.as rfl) ?_
        refine O.nil ?_
        refine S.ret Go.Proofs.Tryz.results4 rfl fun w hw => Holds.end_ hR hw ?_
        exact ⟨_, ⟨rfl, rfl⟩, by repeat (first | exact Picks.all | exact Picks.nil | (apply Picks.cons; focus (repeat (first | exact Sel.here | apply Sel.there))) | apply Picks.skip)⟩

end Go.Proofs.YtodkpkmhnpmmgaaGreat
