import Derived.Test.YtodkpkmhnpmmgaaGreatWire2
open Go Go.Sp
set_option maxRecDepth 100000
attribute [local irreducible] obj Own OwnP
namespace Go.Proofs.YtodkpkmhnpmmgaaGreat
theorem FactWire3.flat3 : Go.Sp.flat1 Go.Proofs.Tryz.prog 3 = true := by kernel_rfl
theorem FactWire3.flat34 : Go.Sp.flat1 Go.Proofs.Tryz.prog 34 = true := by kernel_rfl
theorem FactWire3.fld82x0 : fieldOff Go.Proofs.Tryz.prog 82 0 = some 0 := by kernel_rfl
theorem FactWire3.mixed : Go.Proofs.Tryz.prog.follows .mixedOrders = true := by kernel_rfl
theorem FactWire3.ok36 : callable Go.Proofs.Tryz.prog 36 = true := by kernel_rfl
theorem FactWire3.ok43 : callable Go.Proofs.Tryz.prog 43 = true := by kernel_rfl
theorem FactWire3.ok44 : callable Go.Proofs.Tryz.prog 44 = true := by kernel_rfl
theorem FactWire3.ok45 : callable Go.Proofs.Tryz.prog 45 = true := by kernel_rfl
theorem FactWire3.ok46 : callable Go.Proofs.Tryz.prog 46 = true := by kernel_rfl
theorem FactWire3.ok47 : callable Go.Proofs.Tryz.prog 47 = true := by kernel_rfl
theorem FactWire3.ok48 : callable Go.Proofs.Tryz.prog 48 = true := by kernel_rfl
theorem FactWire3.ok49 : callable Go.Proofs.Tryz.prog 49 = true := by kernel_rfl
theorem FactWire3.ok50 : callable Go.Proofs.Tryz.prog 50 = true := by kernel_rfl
theorem FactWire3.ok78 : callable Go.Proofs.Tryz.prog 78 = true := by kernel_rfl
theorem FactWire3.ok82 : callable Go.Proofs.Tryz.prog 82 = true := by kernel_rfl
/-- what a reader tells, leaves, and whether it went bad -/
def rByte (good : Bool) (rest : List UInt8) : UInt8 × List UInt8 × Bool := if good then (match rest with | [] => (0, [], true) | x :: xs => (x, xs, false)) else (0, rest, false)
def rNum (good : Bool) (rest : List UInt8) : Int × List UInt8 × Bool := if good then (if 8 ≤ rest.length then (ofBe rest, rest.drop 8, false) else (0, rest, true)) else (0, rest, false)
def rCount (most : Int) (good : Bool) (rest : List UInt8) : Int × List UInt8 × Bool :=
  if good then (if 8 ≤ rest.length then (if 0 ≤ ofBe rest ∧ ofBe rest ≤ most then (ofBe rest, rest.drop 8, false) else (0, rest.drop 8, true)) else (0, rest, true)) else (0, rest, false)
def rBytes (most : Int) (good : Bool) (rest : List UInt8) : List UInt8 × List UInt8 × Bool :=
  if good then (if 8 ≤ rest.length then (if 0 ≤ ofBe rest ∧ ofBe rest ≤ most then (if (ofBe rest).toNat ≤ (rest.drop 8).length then ((rest.drop 8).take (ofBe rest).toNat, (rest.drop 8).drop (ofBe rest).toNat, false) else ([], rest.drop 8, true)) else ([], rest.drop 8, true)) else ([], rest, true)) else ([], rest, false)

theorem count_c {r : Fr} {b T : Nat} {v : Value} {cs : List Value} {rest : List UInt8} (most : Int) (ha : Arr Rp.u8 r v rest) :
    Con Go.Proofs.Tryz.prog 48 #[.pointer (some ⟨b, 0, none⟩), .int .i64 most] r [obj b T (v :: cs)]
      (RetP (fun u η => 8 ≤ rest.length ∧ (0 ≤ ofBe rest ∧ ofBe rest ≤ most) ∧ ∃ v', u = .int .i64 (ofBe rest) ∧ Arr Rp.u8 r v' (rest.drop 8) ∧ η = [obj b T (v' :: cs)])
        (fun ch η => ch = missing ∧ ∃ v', (rest.length < 8 ∧ v' = v ∨ 8 ≤ rest.length ∧ ¬(0 ≤ ofBe rest ∧ ofBe rest ≤ most) ∧ Arr Rp.u8 r v' (rest.drop 8)) ∧ η = [obj b T (v' :: cs)])) := by
  refine Con.of (n := 17) [.pointer (some ⟨b, 0, none⟩), .int .i64 most] rfl Go.Proofs.Tryz.func48 rfl rfl rfl fun g hg R hR => ?_
  refine S.seq (S.region rfl ?_)
  refine O.op (.p rfl) (.as rfl) ?_
  refine O.nil ?_
  refine S.seq (S.region rfl ?_)
  refine O.op (.p rfl) (.mv rfl) ?_
  refine O.callPS (.p rfl) rfl FactWire3.ok44 rfl rfl (by repeat (first | exact Sel.here | apply Sel.there)) ((number_c ha).sub hg) (fun ch η' w hX hW => by (obtain ⟨hb, rfl, rfl⟩ := hX; exact hR _ _ w ⟨rfl, v, .inl ⟨hb, rfl⟩, rfl⟩ hW)) ?_
  rintro v7 _ ⟨hl7, v7, rfl, ha7, rfl⟩
  try simp only [List.cons_append, List.nil_append, List.append_nil]
  refine O.op (.p rfl) (.as rfl) ?_
  refine O.nil ?_
  refine S.seq (S.region rfl ?_)
  refine O.op (.p rfl) (.mv rfl) ?_
  refine O.op (.p rfl) (.geq rfl rfl) ?_
  refine O.op (.p rfl) (.mv rfl) ?_
  first | refine O.caseD 10 rfl (fun h10 => ?_) (fun h10 => ?_) | refine O.caseB 10 rfl (fun h10 => ?_) (fun h10 => ?_)
  · refine O.op (.g rfl rfl) (.mv rfl) ?_
    refine O.op (.g rfl rfl) (.mv rfl) ?_
    refine O.op (.g rfl rfl) (.leq rfl rfl) ?_
    refine O.op (.p rfl) (.pickT rfl rfl) ?_
    refine O.callP0 (.p rfl) rfl FactWire3.ok82 rfl rfl (must_c _) (fun ch η' w hX hW => by (obtain ⟨hb, rfl, rfl⟩ := hX; exact hR _ _ w ⟨rfl, v7, .inr ⟨hl7, by simp at hb; omega, ha7⟩, rfl⟩ hW)) ?_
    rintro v15 _ ⟨hb15, rfl, rfl⟩
    try simp only [List.cons_append, List.nil_append, List.append_nil]
    refine O.nil ?_
    refine S.seq (S.region rfl ?_)
    refine O.op (.p rfl) (.mv rfl) ?_
    refine O.op (.p rfl) (.as rfl) ?_
    refine O.nil ?_
    refine S.ret Go.Proofs.Tryz.results48 rfl fun w hw => hR _ _ w ?_ hw
    exact ⟨hl7, by simp at hb15; omega, v7, rfl, ha7, rfl⟩
  · refine O.opN rfl rfl rfl ?_
    refine O.opN rfl rfl rfl ?_
    refine O.opN rfl rfl rfl ?_
    refine O.op (.p rfl) (.pickF rfl rfl) ?_
    refine O.callP0 (.p rfl) rfl FactWire3.ok82 rfl rfl (must_c _) (fun ch η' w hX hW => by (obtain ⟨hb, rfl, rfl⟩ := hX; exact hR _ _ w ⟨rfl, v7, .inr ⟨hl7, by omega, ha7⟩, rfl⟩ hW)) ?_
    rintro v15 _ ⟨hb15, rfl, rfl⟩
    try simp only [List.cons_append, List.nil_append, List.append_nil]
    exact absurd hb15 (by simp)

def KNum (r : Fr) (rest : List UInt8) (u v' : Value) (ζ : List SProp) : Prop := 8 ≤ rest.length ∧ u = .int .i64 (ofBe rest) ∧ Arr Rp.u8 r v' (rest.drop 8) ∧ ζ = []
theorem numberR {r : Fr} {b : Nat} {v : Value} {rest : List UInt8} (ha : Arr Rp.u8 r v rest) :
    Con Go.Proofs.Tryz.prog 44 (#[.pointer (some ⟨b, 0, none⟩)] ++ #[] ++ #[]) r [obj b 82 [v, .bool true, .bool false]]
      (RetP (fun u η => ∃ v' ζ, KNum r rest u v' ζ ∧ η = obj b 82 [v', .bool true, .bool false] :: ζ) (fun ch η => ch = missing ∧ ∃ v', (rest.length < 8 ∧ v' = v) ∧ η = [obj b 82 [v', .bool true, .bool false]])) :=
  (number_c (T := 82) (cs := [.bool true, .bool false]) ha).mono fun e η h => by
    cases e with
    | returned u => obtain ⟨h1, v', h2, h3, h4⟩ := h; exact ⟨v', [], ⟨h1, h2, h3, rfl⟩, h4⟩
    | panicked ch => obtain ⟨h1, h2, h3⟩ := h; exact ⟨h2, v, ⟨h1, rfl⟩, h3⟩
    | outgrown => exact h.elim
theorem rNumber_c {r : Fr} {b : Nat} {v : Value} {rest : List UInt8} {made bad : Bool} (ha : Arr Rp.u8 r v rest) :
    Con Go.Proofs.Tryz.prog 28 #[.pointer (some ⟨b, 0, none⟩)] r [obj b 82 [v, .bool made, .bool bad]]
      (Ret fun u η => ∃ v', u = .int .i64 (rNum (made && !bad) rest).1 ∧ Arr Rp.u8 r v' (rNum (made && !bad) rest).2.1 ∧ η = [obj b 82 [v', .bool made, .bool (bad || (rNum (made && !bad) rest).2.2)]]) := by
  refine Con.of (n := 11) [.pointer (some ⟨b, 0, none⟩)] rfl Go.Proofs.Tryz.func28 rfl rfl rfl fun g hg R hR => ?_
  refine S.seq (S.region rfl ?_)
  refine O.op (.p rfl) (.as rfl) ?_
  refine O.nil ?_
  refine S.seq (S.seq (S.region rfl ?_))
  refine O.op (.p rfl) (.mv rfl) ?_
  refine O.op (.p rfl) (.eqlP Go.Proofs.Tryz.underlying34 rfl rfl) ?_
  refine O.nil ?_
  refine S.condF rfl ?_
  refine S.skip (S.seq (S.region rfl ?_))
  refine O.op (.p rfl) (.mv rfl) ?_
  refine O.op (.p rfl) (.mv rfl) ?_
  refine O.op (.p rfl) (.nilCheck rfl) ?_
  refine O.op (.p rfl) (.fieldAddr FactWire3.fld82x0 rfl) ?_
  refine O.op (.p rfl) (.mkFunc rfl rfl) ?_
  refine O.callS (.p rfl) rfl FactWire3.ok43 rfl rfl (by repeat (first | exact Sel.here | apply Sel.there)) ((triedI_c FactWire3.ok44 (K := KNum r rest) (fun _ _ _ h => by obtain ⟨_, rfl, _⟩ := h; rfl) fun _ _ => numberR ha).sub hg) ?_
  rintro v10 _ h10
  try simp only [List.cons_append, List.nil_append, List.append_nil]
  refine O.op (.p rfl) (.as rfl) ?_
  refine O.nil ?_
  refine S.ret Go.Proofs.Tryz.results28 rfl fun w hw => hR _ _ w ?_ hw
  rcases h10 with ⟨h1, rfl, rfl⟩ | ⟨rfl, rfl, v', ζ, ⟨h1, rfl, h2, rfl⟩, rfl⟩ | ⟨rfl, rfl, v', ⟨h1, rfl⟩, rfl, rfl⟩
  · exact ⟨v, by simp [rNum, h1], by simpa [rNum, h1] using ha, by simp [rNum, h1]⟩
  · exact ⟨v', by simp [rNum, h1], by simpa [rNum, h1] using h2, by simp [rNum, h1]⟩
  · have h1 : ¬ 8 ≤ rest.length := by omega
    exact ⟨_, by simp [rNum, h1], by simpa [rNum, h1] using ha, by simp [rNum, h1]⟩

def KByte (r : Fr) (rest : List UInt8) (u v' : Value) (ζ : List SProp) : Prop := ∃ x xs, rest = x :: xs ∧ u = byteV x ∧ Arr Rp.u8 r v' xs ∧ ζ = []
theorem oneR {r : Fr} {b : Nat} {v : Value} {rest : List UInt8} (ha : Arr Rp.u8 r v rest) :
    Con Go.Proofs.Tryz.prog 50 (#[.pointer (some ⟨b, 0, none⟩)] ++ #[] ++ #[]) r [obj b 82 [v, .bool true, .bool false]]
      (RetP (fun u η => ∃ v' ζ, KByte r rest u v' ζ ∧ η = obj b 82 [v', .bool true, .bool false] :: ζ) (fun ch η => ch = missing ∧ ∃ v', (rest = [] ∧ v' = v) ∧ η = [obj b 82 [v', .bool true, .bool false]])) :=
  (one_c (T := 82) (cs := [.bool true, .bool false]) ha).mono fun e η h => by
    cases e with
    | returned u => obtain ⟨x, xs, v', h1, h2, h3, h4⟩ := h; exact ⟨v', [], ⟨x, xs, h1, h2, h3, rfl⟩, h4⟩
    | panicked ch => obtain ⟨h1, h2, h3⟩ := h; exact ⟨h2, v, ⟨h1, rfl⟩, h3⟩
    | outgrown => exact h.elim
theorem rByte_c {r : Fr} {b : Nat} {v : Value} {rest : List UInt8} {made bad : Bool} (ha : Arr Rp.u8 r v rest) :
    Con Go.Proofs.Tryz.prog 30 #[.pointer (some ⟨b, 0, none⟩)] r [obj b 82 [v, .bool made, .bool bad]]
      (Ret fun u η => ∃ v', u = byteV (rByte (made && !bad) rest).1 ∧ Arr Rp.u8 r v' (rByte (made && !bad) rest).2.1 ∧ η = [obj b 82 [v', .bool made, .bool (bad || (rByte (made && !bad) rest).2.2)]]) := by
  refine Con.of (n := 11) [.pointer (some ⟨b, 0, none⟩)] rfl Go.Proofs.Tryz.func30 rfl rfl rfl fun g hg R hR => ?_
  refine S.seq (S.region rfl ?_)
  refine O.op (.p rfl) (.as rfl) ?_
  refine O.nil ?_
  refine S.seq (S.seq (S.region rfl ?_))
  refine O.op (.p rfl) (.mv rfl) ?_
  refine O.op (.p rfl) (.eqlP Go.Proofs.Tryz.underlying34 rfl rfl) ?_
  refine O.nil ?_
  refine S.condF rfl ?_
  refine S.skip (S.seq (S.region rfl ?_))
  refine O.op (.p rfl) (.mv rfl) ?_
  refine O.op (.p rfl) (.mv rfl) ?_
  refine O.op (.p rfl) (.nilCheck rfl) ?_
  refine O.op (.p rfl) (.fieldAddr FactWire3.fld82x0 rfl) ?_
  refine O.op (.p rfl) (.mkFunc rfl rfl) ?_
  refine O.callS (.p rfl) rfl FactWire3.ok49 rfl rfl (by repeat (first | exact Sel.here | apply Sel.there)) ((triedB_c FactWire3.ok50 (K := KByte r rest) (fun _ _ _ h => by obtain ⟨_, _, _, rfl, _⟩ := h; rfl) fun _ _ => oneR ha).sub hg) ?_
  rintro v10 _ h10
  try simp only [List.cons_append, List.nil_append, List.append_nil]
  refine O.op (.p rfl) (.as rfl) ?_
  refine O.nil ?_
  refine S.ret Go.Proofs.Tryz.results30 rfl fun w hw => hR _ _ w ?_ hw
  rcases h10 with ⟨h1, rfl, rfl⟩ | ⟨rfl, rfl, v', ζ, ⟨x, xs, rfl, rfl, h2, rfl⟩, rfl⟩ | ⟨rfl, rfl, v', ⟨rfl, rfl⟩, rfl, rfl⟩
  · exact ⟨v, by simp [rByte, h1, byteV], by simpa [rByte, h1] using ha, by simp [rByte, h1]⟩
  · exact ⟨v', by simp [rByte], by simpa [rByte] using h2, by simp [rByte]⟩
  · exact ⟨_, by simp [rByte, byteV], by simpa [rByte] using ha, by simp [rByte]⟩

def KCount (r : Fr) (most : Int) (rest : List UInt8) (u v' : Value) (ζ : List SProp) : Prop := 8 ≤ rest.length ∧ (0 ≤ ofBe rest ∧ ofBe rest ≤ most) ∧ u = .int .i64 (ofBe rest) ∧ Arr Rp.u8 r v' (rest.drop 8) ∧ ζ = []
def XCount (r : Fr) (most : Int) (v : Value) (rest : List UInt8) (v' : Value) : Prop := rest.length < 8 ∧ v' = v ∨ 8 ≤ rest.length ∧ ¬(0 ≤ ofBe rest ∧ ofBe rest ≤ most) ∧ Arr Rp.u8 r v' (rest.drop 8)
theorem count1_c {r0 r : Fr} {b bt bm : Nat} {v : Value} {rest : List UInt8} {most : Int} (hs : r0.sub r) (ha : Arr Rp.u8 r0 v rest) (ht : At r ⟨bt, 0, none⟩ [.pointer (some ⟨b, 0, none⟩)]) (hm : At r ⟨bm, 0, none⟩ [.int .i64 most]) :
    Con Go.Proofs.Tryz.prog 78 (#[] ++ #[] ++ #[.pointer (some ⟨bt, 0, none⟩), .pointer (some ⟨bm, 0, none⟩)]) r [obj b 82 [v, .bool true, .bool false]]
      (RetP (fun u η => ∃ v' ζ, KCount r0 most rest u v' ζ ∧ η = obj b 82 [v', .bool true, .bool false] :: ζ) (fun ch η => ch = missing ∧ ∃ v', XCount r0 most v rest v' ∧ η = [obj b 82 [v', .bool true, .bool false]])) := by
  refine Con.of (n := 8) [.pointer (some ⟨bt, 0, none⟩), .pointer (some ⟨bm, 0, none⟩)] rfl Go.Proofs.Tryz.func78 rfl rfl rfl fun g hg R hR => ?_
  have ht := ht.mono hg
  have hm := hm.mono hg
  refine S.seq (S.region rfl ?_)
  refine O.op (.p rfl) (.as rfl) ?_
  refine O.nil ?_
  refine S.seq (S.regionD (L := [0, 1, 2, 3, 4, 5]) FactWire3.mixed (by kernel_rfl) ?_)
  refine .quiet (.p rfl) rfl (fun _ => .loadAt FactWire3.flat34 rfl ht rfl) ?_
  refine .quiet (.p rfl) rfl (fun _ => .nilCheck rfl) ?_
  refine .quiet (.p rfl) rfl (fun _ => .fieldAddr FactWire3.fld82x0 rfl) ?_
  refine .quiet (.p rfl) rfl (fun _ => .loadAt FactWire3.flat3 rfl hm rfl) ?_
  refine OD.callPS (.p rfl) (by kernel_rfl) rfl FactWire3.ok48 rfl rfl (by repeat (first | exact Sel.here | apply Sel.there)) ((count_c most ha).sub (Fr.sub_trans hs hg)) (fun ch η' w hX hW => by (obtain ⟨rfl, v', hx, rfl⟩ := hX; exact hR _ _ w ⟨rfl, v', hx, rfl⟩ hW)) ?_
  rintro v7 _ ⟨hl7, hm7, v7, rfl, ha7, rfl⟩
  try simp only [List.cons_append, List.nil_append, List.append_nil]
  refine .quiet (.p rfl) rfl (fun _ => .as rfl) ?_
  refine .nil ?_
  refine S.ret Go.Proofs.Tryz.results78 rfl fun w hw => hR _ _ w ?_ hw
  exact ⟨v7, [], ⟨hl7, hm7, rfl, ha7, rfl⟩, rfl⟩

theorem rCount_c {r : Fr} {b : Nat} {v : Value} {rest : List UInt8} {made bad : Bool} (most : Int) (ha : Arr Rp.u8 r v rest) :
    Con Go.Proofs.Tryz.prog 38 #[.pointer (some ⟨b, 0, none⟩), .int .i64 most] r [obj b 82 [v, .bool made, .bool bad]]
      (Ret fun u η => ∃ v', u = .int .i64 (rCount most (made && !bad) rest).1 ∧ Arr Rp.u8 r v' (rCount most (made && !bad) rest).2.1 ∧ η = [obj b 82 [v', .bool made, .bool (bad || (rCount most (made && !bad) rest).2.2)]]) := by
  refine Con.of (n := 8) [.pointer (some ⟨b, 0, none⟩), .int .i64 most] rfl Go.Proofs.Tryz.func38 rfl rfl rfl fun g hg R hR => ?_
  refine S.seq (S.region rfl ?_)
  refine O.opE (.p rfl) (.box (cs := [_]) rfl rfl) ?_
  rintro _ _ ⟨b2, rfl, rfl⟩
  refine O.opE (.p rfl) (.box (cs := [_]) rfl rfl) ?_
  rintro _ _ ⟨b3, rfl, rfl⟩
  refine O.op (.p rfl) (.as rfl) ?_
  refine O.nil ?_
  refine S.seq (S.region rfl ?_)
  refine O.op (.p rfl) (.loadObj FactWire3.flat34 rfl (by repeat (first | exact Sel.here | apply Sel.there)) rfl) ?_
  refine O.op (.p rfl) (.mkFunc rfl rfl) ?_
  refine O.freeze fun m1 hm1 hd1 => ?_
  refine O.freeze fun m2 hm2 hd2 => ?_
  have hg2 : r.sub ((g.add m1).add m2).h := Fr.sub_trans hg (Fr.sub_trans (Fr.sub_add_left _ _) (Fr.sub_add_left _ _))
  refine O.callS (.p rfl) rfl FactWire3.ok43 rfl rfl (by repeat (first | exact Sel.here | apply Sel.there)) (triedI_c FactWire3.ok78 (K := KCount r most rest) (X := XCount r most v rest) (fun _ _ _ h => by obtain ⟨_, _, rfl, _⟩ := h; rfl) fun _ _ => count1_c hg2 ha (obj_atR hm2 hd2) (obj_atR hm1 hd1).left) ?_
  rintro v7 _ h7
  try simp only [List.cons_append, List.nil_append, List.append_nil]
  refine O.op (.p rfl) (.as rfl) ?_
  refine O.nil ?_
  refine S.thaw (A := fun _ => True) trivial hd2 (S.drop (S.thaw (A := fun _ => True) trivial hd1 (S.drop ?_)))
  refine S.ret Go.Proofs.Tryz.results38 rfl fun w hw => hR _ _ w ?_ hw
  rcases h7 with ⟨h1, rfl, rfl⟩ | ⟨rfl, rfl, v', ζ, ⟨h1, h3, rfl, h2, rfl⟩, rfl⟩ | ⟨rfl, rfl, v', h1, rfl, rfl⟩
  · exact ⟨v, by simp [rCount, h1], by simpa [rCount, h1] using ha, by simp [rCount, h1]⟩
  · exact ⟨v', by simp [rCount, h1, h3], by simpa [rCount, h1, h3] using h2, by simp [rCount, h1, h3]⟩
  · rcases h1 with ⟨h1, rfl⟩ | ⟨h1, h3, h4⟩
    · have h1 : ¬ 8 ≤ rest.length := by omega
      exact ⟨_, by simp [rCount, h1], by simpa [rCount, h1] using ha, by simp [rCount, h1]⟩
    · exact ⟨v', by simp [rCount, h1, h3], by simpa [rCount, h1, h3] using h4, by simp [rCount, h1, h3]⟩

def KBytes (r : Fr) (e : TypeId) (most : Int) (rest : List UInt8) (u v' : Value) (ζ : List SProp) : Prop :=
  8 ≤ rest.length ∧ (0 ≤ ofBe rest ∧ ofBe rest ≤ most) ∧ (ofBe rest).toNat ≤ (rest.drop 8).length ∧ Arr Rp.u8 r v' ((rest.drop 8).drop (ofBe rest).toNat) ∧
  ∃ a c, u = .slice a ((rest.drop 8).take (ofBe rest).toNat).length c ∧ ζ = [OwnP Rp.u8 e u ((rest.drop 8).take (ofBe rest).toNat)]
def XBytes (r : Fr) (most : Int) (v : Value) (rest : List UInt8) (v' : Value) : Prop := XCount r most v rest v' ∨ 8 ≤ rest.length ∧ (0 ≤ ofBe rest ∧ ofBe rest ≤ most) ∧ ¬(ofBe rest).toNat ≤ (rest.drop 8).length ∧ Arr Rp.u8 r v' (rest.drop 8)
theorem bytes1_c {r0 r : Fr} {b bt bm : Nat} {v : Value} {rest : List UInt8} {most : Int} (hs : r0.sub r) (ha : Arr Rp.u8 r0 v rest) (hl : rest.length ≤ 140737488355328) (ht : At r ⟨bt, 0, none⟩ [.pointer (some ⟨b, 0, none⟩)]) (hm : At r ⟨bm, 0, none⟩ [.int .i64 most]) :
    Con Go.Proofs.Tryz.prog 46 (#[] ++ #[] ++ #[.pointer (some ⟨bt, 0, none⟩), .pointer (some ⟨bm, 0, none⟩)]) r [obj b 82 [v, .bool true, .bool false]]
      (RetP (fun u η => ∃ v' ζ, KBytes r0 5 most rest u v' ζ ∧ η = obj b 82 [v', .bool true, .bool false] :: ζ) (fun ch η => ch = missing ∧ ∃ v', XBytes r0 most v rest v' ∧ η = [obj b 82 [v', .bool true, .bool false]])) := by
  refine Con.of (n := 13) [.pointer (some ⟨bt, 0, none⟩), .pointer (some ⟨bm, 0, none⟩)] rfl Go.Proofs.Tryz.func46 rfl rfl rfl fun g hg R hR => ?_
  have ht := ht.mono hg
  have hm := hm.mono hg
  refine S.seq (S.region rfl ?_)
  refine O.op (.p rfl) (.as rfl) ?_
  refine O.nil ?_
  refine S.seq (S.regionD (L := [0, 1, 2, 3, 4, 5, 6, 7, 8, 9, 10]) FactWire3.mixed (by kernel_rfl) ?_)
  refine .quiet (.p rfl) rfl (fun _ => .loadAt FactWire3.flat34 rfl ht rfl) ?_
  refine .quiet (.p rfl) rfl (fun _ => .nilCheck rfl) ?_
  refine .quiet (.p rfl) rfl (fun _ => .fieldAddr FactWire3.fld82x0 rfl) ?_
  refine .quiet (.p rfl) rfl (fun _ => .loadAt FactWire3.flat34 rfl ht rfl) ?_
  refine .quiet (.p rfl) rfl (fun _ => .nilCheck rfl) ?_
  refine .quiet (.p rfl) rfl (fun _ => .fieldAddr FactWire3.fld82x0 rfl) ?_
  refine .quiet (.p rfl) rfl (fun _ => .loadAt FactWire3.flat3 rfl hm rfl) ?_
  refine OD.callPS (.p rfl) (by kernel_rfl) rfl FactWire3.ok48 rfl rfl (by repeat (first | exact Sel.here | apply Sel.there)) ((count_c most ha).sub (Fr.sub_trans hs hg)) (fun ch η' w hX hW => by (obtain ⟨rfl, v', hx, rfl⟩ := hX; exact hR _ _ w ⟨rfl, v', .inl hx, rfl⟩ hW)) ?_
  rintro v10 _ ⟨hl10, hm10, v10, rfl, ha10, rfl⟩
  try simp only [List.cons_append, List.nil_append, List.append_nil]
  refine OD.callPS (.p rfl) (by kernel_rfl) rfl FactWire3.ok47 rfl rfl (by repeat (first | exact Sel.here | apply Sel.there)) ((take_c _ ha10).sub (Fr.sub_trans hs hg)) (fun ch η' w hX hW => by (obtain ⟨hb, rfl, rfl⟩ := hX; exact hR _ _ w ⟨rfl, v10, .inr ⟨hl10, hm10, by omega, ha10⟩, rfl⟩ hW)) ?_
  rintro v11 _ ⟨hb11, a11, c11, v11, rfl, ha11, ha11', rfl⟩
  try simp only [List.cons_append, List.nil_append, List.append_nil]
  refine OD.call0 (.p rfl) (by kernel_rfl) rfl FactWire3.ok36 rfl rfl ((cloneB_c (ha11.mono (Fr.sub_trans hs hg)) (by simp; omega))) ?_
  rintro v12 _ ⟨a12, c12, rfl, rfl⟩
  try simp only [List.cons_append, List.nil_append, List.append_nil]
  refine .quiet (.p rfl) rfl (fun _ => .as rfl) ?_
  refine .nil ?_
  refine S.ret Go.Proofs.Tryz.results46 rfl fun w hw => Holds.end_ hR hw ?_
  exact ⟨_, ⟨v11, _, ⟨hl10, hm10, by omega, ha11', a12, c12, rfl, rfl⟩, rfl⟩, by repeat (first | exact Picks.all | exact Picks.nil | (apply Picks.cons; focus (repeat (first | exact Sel.here | apply Sel.there))) | apply Picks.skip)⟩

theorem rBytes_c {r : Fr} {b : Nat} {v : Value} {rest : List UInt8} {made bad : Bool} (most : Int) (ha : Arr Rp.u8 r v rest) (hl : rest.length ≤ 140737488355328) :
    Con Go.Proofs.Tryz.prog 29 #[.pointer (some ⟨b, 0, none⟩), .int .i64 most] r [obj b 82 [v, .bool made, .bool bad]]
      (Ret fun u η => ∃ a c v', u = .slice a (rBytes most (made && !bad) rest).1.length c ∧ Arr Rp.u8 r v' (rBytes most (made && !bad) rest).2.1 ∧
        η = [obj b 82 [v', .bool made, .bool (bad || (rBytes most (made && !bad) rest).2.2)], OwnP Rp.u8 5 u (rBytes most (made && !bad) rest).1]) := by
  refine Con.of (n := 8) [.pointer (some ⟨b, 0, none⟩), .int .i64 most] rfl Go.Proofs.Tryz.func29 rfl rfl rfl fun g hg R hR => ?_
  refine S.seq (S.region rfl ?_)
  refine O.opE (.p rfl) (.box (cs := [_]) rfl rfl) ?_
  rintro _ _ ⟨b2, rfl, rfl⟩
  refine O.opE (.p rfl) (.box (cs := [_]) rfl rfl) ?_
  rintro _ _ ⟨b3, rfl, rfl⟩
  refine O.op (.p rfl) (.as rfl) ?_
  refine O.nil ?_
  refine S.seq (S.region rfl ?_)
  refine O.op (.p rfl) (.loadObj FactWire3.flat34 rfl (by repeat (first | exact Sel.here | apply Sel.there)) rfl) ?_
  refine O.op (.p rfl) (.mkFunc rfl rfl) ?_
  refine O.freeze fun m1 hm1 hd1 => ?_
  refine O.freeze fun m2 hm2 hd2 => ?_
  have hg2 : r.sub ((g.add m1).add m2).h := Fr.sub_trans hg (Fr.sub_trans (Fr.sub_add_left _ _) (Fr.sub_add_left _ _))
  refine O.callS (.p rfl) rfl FactWire3.ok45 rfl rfl (by repeat (first | exact Sel.here | apply Sel.there)) (triedS_c FactWire3.ok46 (K := KBytes r 5 most rest) (X := XBytes r most v rest) (fun _ _ _ h => by obtain ⟨_, _, _, _, _, _, rfl, _⟩ := h; rfl) fun _ _ => bytes1_c hg2 ha hl (obj_atR hm2 hd2) (obj_atR hm1 hd1).left) ?_
  rintro v7 _ h7
  try simp only [List.cons_append, List.nil_append, List.append_nil]
  refine O.op (.p rfl) (.as rfl) ?_
  refine O.nil ?_
  refine S.thaw (A := fun _ => True) trivial hd2 (S.drop (S.thaw (A := fun _ => True) trivial hd1 (S.drop ?_)))
  refine S.addNil (T := Rp.u8) (e := 5) ?_
  refine S.ret Go.Proofs.Tryz.results29 rfl fun w hw => Holds.end_ hR hw ?_
  rcases h7 with ⟨h1, rfl, rfl⟩ | ⟨rfl, rfl, v', ζ, ⟨h1, h3, h4, h5, a, c, rfl, rfl⟩, rfl⟩ | ⟨rfl, rfl, v', h1, rfl, rfl⟩
  · have e : rBytes most (made && !bad) rest = ([], rest, false) := by simp [rBytes, h1]
    rw [e]; simp only [Bool.or_false]
    exact ⟨_, ⟨none, 0, v, rfl, ha, rfl⟩, by repeat (first | exact Picks.all | exact Picks.nil | (apply Picks.cons; focus (repeat (first | exact Sel.here | apply Sel.there))) | apply Picks.skip)⟩
  · have e : rBytes most (true && !false) rest = ((rest.drop 8).take (ofBe rest).toNat, (rest.drop 8).drop (ofBe rest).toNat, false) := by
      simp only [rBytes, h1, h3, h4]; rfl
    rw [e]; simp only [Bool.or_false]
    exact ⟨_, ⟨a, c, v', rfl, h5, rfl⟩, by repeat (first | exact Picks.all | exact Picks.nil | (apply Picks.cons; focus (repeat (first | exact Sel.here | apply Sel.there))) | apply Picks.skip)⟩
  · obtain ⟨rest', e, hr'⟩ : ∃ rest', rBytes most (true && !false) rest = ([], rest', true) ∧ Arr Rp.u8 r v' rest' := by
      rcases h1 with (⟨h1, rfl⟩ | ⟨h1, h3, h4⟩) | ⟨h1, h3, h4, h5⟩
      · have h1 : ¬ 8 ≤ rest.length := by omega
        exact ⟨_, by simp only [rBytes, h1]; rfl, ha⟩
      · exact ⟨_, by simp only [rBytes, h1, h3]; rfl, h4⟩
      · exact ⟨_, by simp only [rBytes, h1, h3, h4]; rfl, h5⟩
    rw [e]; simp only [Bool.false_or]
    exact ⟨_, ⟨none, 0, v', rfl, hr', rfl⟩, by repeat (first | exact Picks.all | exact Picks.nil | (apply Picks.cons; focus (repeat (first | exact Sel.here | apply Sel.there))) | apply Picks.skip)⟩

end Go.Proofs.YtodkpkmhnpmmgaaGreat
