/- Texts of this proof, one behind the other. -/
import Derived.Test.YtcghiboamlaenaaDoorWire1
section
open Go Go.Sp
set_option maxRecDepth 100000
attribute [local irreducible] obj Own OwnP
namespace Go.Proofs.YtcghiboamlaenaaDoor
theorem FactWire2.flat119 : Go.Sp.flat1 Go.Proofs.Tryd.prog 119 = true := by kernel_rfl
theorem FactWire2.flat3 : Go.Sp.flat1 Go.Proofs.Tryd.prog 3 = true := by kernel_rfl
theorem FactWire2.flat4 : Go.Sp.flat1 Go.Proofs.Tryd.prog 4 = true := by kernel_rfl
theorem FactWire2.fld128x2 : fieldOff Go.Proofs.Tryd.prog 128 2 = some 2 := by kernel_rfl
theorem FactWire2.ok88 : callable Go.Proofs.Tryd.prog 88 = true := by kernel_rfl
theorem FactWire2.ok89 : callable Go.Proofs.Tryd.prog 89 = true := by kernel_rfl

theorem triedI_ret {g : Gr} {bt bx : Nat} {x : Value} {T' : TypeId} {w : World} {R : Ending → World → Prop} {η : List SProp} (hw : Holds w g (obj bx T' [x] :: η)) (hR : ∀ w, Holds w g (obj bx T' [x] :: η) → R (.returned x) w) :
    CallsD Go.Proofs.Tryd.prog 89 #[.pointer (some ⟨bt, 0, none⟩), .pointer (some ⟨bx, 0, none⟩)] .returning w (DPost g bx R) := by
  refine (callsD_rec (R := fun e w => (∃ v, e = .returned v) ∧ Holds w g (obj bx T' [x] :: η)) [.pointer (some ⟨bt, 0, none⟩), .pointer (some ⟨bx, 0, none⟩)] rfl Go.Proofs.Tryd.func89 rfl rfl rfl rfl hw ?_).mono ?_
  rotate_left
  · rintro e u' w' ⟨rfl, ⟨v, rfl⟩, h⟩
    exact ⟨⟨v, rfl⟩, rfl, T', x, η, h, hR w' h⟩
  refine S.seq (S.region rfl ?_)
  refine O.op (.p rfl) (.mv rfl) ?_
  refine O.op (.p rfl) (.neqIN Go.Proofs.Tryd.underlying20 rfl) ?_
  refine O.nil ?_
  refine S.condF rfl ?_
  refine S.skip ?_
  refine S.end0 Go.Proofs.Tryd.results89 fun w hw => ?_
  exact ⟨⟨_, rfl⟩, hw⟩
theorem triedI_pan {g : Gr} {bt bx b : Nat} {v x : Value} {made bad : Bool} {T' Tt : TypeId} {w : World} {R : Ending → World → Prop} {η : List SProp} (hw : Holds w g (obj bx T' [x] :: obj bt Tt [.pointer (some ⟨b, 0, none⟩)] :: obj b 128 [v, .bool made, .bool bad] :: η))
    (hR : ∀ w, Holds w g (obj bx T' [.int .i64 0] :: obj b 128 [v, .bool made, .bool true] :: η) → R (.returned (.int .i64 0)) w) :
    CallsD Go.Proofs.Tryd.prog 89 #[.pointer (some ⟨bt, 0, none⟩), .pointer (some ⟨bx, 0, none⟩)] (.panicking missing) w (DPost g bx R) := by
  refine (callsD_rec (R := fun e w => (∃ v, e = .returned v) ∧ Holds w g (obj bx T' [.int .i64 0] :: obj b 128 [v, .bool made, .bool true] :: η)) [.pointer (some ⟨bt, 0, none⟩), .pointer (some ⟨bx, 0, none⟩)] rfl Go.Proofs.Tryd.func89 rfl rfl rfl rfl hw ?_).mono ?_
  rotate_left
  · rintro e u' w' ⟨rfl, ⟨v, rfl⟩, h⟩
    exact ⟨⟨v, rfl⟩, rfl, T', _, _, h, hR w' h⟩
  refine S.seq (S.region rfl ?_)
  refine O.op (.p rfl) (.mv rfl) ?_
  refine O.op (.p rfl) (.neqIV Go.Proofs.Tryd.underlying20 rfl) ?_
  refine O.nil ?_
  refine S.condT rfl ?_
  refine S.seq (S.seq (S.region rfl ?_))
  refine O.op (.p rfl) (.mv rfl) ?_
  refine O.op (.p rfl) (.assertYes Go.Proofs.Tryd.underlying132 rfl) ?_
  refine O.op (.p rfl) (.mv rfl) ?_
  refine O.op (.p rfl) (.extract rfl rfl) ?_
  refine O.op (.p rfl) (.extract rfl rfl) ?_
  refine O.opE (.p rfl) (.alloc (cs := []) Go.Proofs.Tryd.zeroValue132 rfl) ?_
  rintro _ _ ⟨b3, rfl, rfl⟩
  refine O.opU rfl (.storeObj (by kernel_rfl) rfl rfl rfl rfl (by repeat (first | exact Sel.here | apply Sel.there)) (by first | (simp; done) | (simp [Value.cells]; done))) ?_
  refine O.op (.p rfl) (.as rfl) ?_
  refine O.nil ?_
  refine S.seq (S.region rfl ?_)
  refine O.op (.p rfl) (.mv rfl) ?_
  refine O.op (.p rfl) (.not rfl) ?_
  refine O.nil ?_
  refine S.condF rfl ?_
  refine S.skip (S.seq (S.region rfl ?_))
  refine O.op (.p rfl) (.loadObj FactWire2.flat119 rfl (by repeat (first | exact Sel.here | apply Sel.there)) rfl) ?_
  refine O.op (.p rfl) (.nilCheck rfl) ?_
  refine O.op (.p rfl) (.fieldObj FactWire2.fld128x2 rfl) ?_
  refine O.opU rfl (.store1 FactWire2.flat4 rfl rfl (by first | rfl | assumption) (by repeat (first | exact Sel.here | apply Sel.there)) (by first | (simp; done) | (simp [Value.cells]; done))) ?_
  refine O.nil ?_
  refine S.seq (S.region rfl ?_)
  refine O.op (.p rfl) (.as rfl) ?_
  refine O.nil ?_
  refine S.region rfl ?_
  refine O.op (.p rfl) (.mv rfl) ?_
  refine O.opU rfl (.store1 FactWire2.flat3 rfl rfl (by first | rfl | assumption) (by repeat (first | exact Sel.here | apply Sel.there)) (by first | (simp; done) | (simp [Value.cells]; done))) ?_
  refine O.nil ?_
  refine S.end0 Go.Proofs.Tryd.results89 fun w hw => ?_
  exact ⟨⟨_, rfl⟩, hw.picks (by repeat (first | exact Picks.all | exact Picks.nil | (apply Picks.cons; focus (repeat (first | exact Sel.here | apply Sel.there))) | apply Picks.skip))⟩
theorem triedI_c {r : Fr} {b f : Nat} {v : Value} {made bad : Bool} {first cap : Array Value} {K : Value → Value → List SProp → Prop} {X : Value → Prop} (hc : callable Go.Proofs.Tryd.prog f = true) (hK1 : ∀ u v' ζ, K u v' ζ → u.oneCell' = true)
    (con : made = true → bad = false → Con Go.Proofs.Tryd.prog f (first ++ #[] ++ cap) r [obj b 128 [v, .bool true, .bool false]] (RetP (fun u η => ∃ v' ζ, K u v' ζ ∧ η = obj b 128 [v', .bool true, .bool false] :: ζ) (fun ch η => ch = missing ∧ ∃ v', X v' ∧ η = [obj b 128 [v', .bool true, .bool false]]))) :
    Con Go.Proofs.Tryd.prog 83 #[.pointer (some ⟨b, 0, none⟩), .func (.func f) first cap] r [obj b 128 [v, .bool made, .bool bad]] (Ret fun u η =>
      ((made && !bad) = false ∧ u = .int .i64 0 ∧ η = [obj b 128 [v, .bool made, .bool bad]]) ∨ (made = true ∧ bad = false ∧ ∃ v' ζ, K u v' ζ ∧ η = obj b 128 [v', .bool true, .bool false] :: ζ) ∨
      (made = true ∧ bad = false ∧ ∃ v', X v' ∧ u = .int .i64 0 ∧ η = [obj b 128 [v', .bool true, .bool true]])) := by
  refine Con.of (n := 12) [.pointer (some ⟨b, 0, none⟩), .func (.func f) first cap] rfl Go.Proofs.Tryd.func83 rfl rfl rfl fun g hg R hR => ?_
  refine S.seq (S.region rfl ?_)
  refine O.opE (.p rfl) (.box (cs := [_]) rfl rfl) ?_
  rintro _ _ ⟨b2, rfl, rfl⟩
  refine O.opE (.p rfl) (.alloc (cs := [.int .i64 0]) Go.Proofs.Tryd.zeroValue3 rfl) ?_
  rintro _ _ ⟨b4, rfl, rfl⟩
  refine O.nil ?_
  refine S.seq (S.seq (S.region rfl ?_))
  refine O.op (.p rfl) (.loadObj FactWire2.flat119 rfl (by repeat (first | exact Sel.here | apply Sel.there)) rfl) ?_
  refine O.callS (.p rfl) rfl FactWire2.ok88 rfl rfl (by repeat (first | exact Sel.here | apply Sel.there)) rGood_c ?_
  rintro v6 _ ⟨rfl, rfl⟩
  try simp only [List.cons_append, List.nil_append, List.append_nil]
  refine O.op (.p rfl) ((by first | exact .notD rfl | exact .not rfl)) ?_
  refine O.nil ?_
  first | refine S.condD rfl (fun h7 => ?_) (fun h7 => ?_) | refine S.condB rfl (fun h7 => ?_) (fun h7 => ?_)
  · refine S.seq (S.region rfl ?_)
    refine O.op (.p rfl) (.loadObj FactWire2.flat3 rfl (by repeat (first | exact Sel.here | apply Sel.there)) rfl) ?_
    refine O.opU rfl (.store1 FactWire2.flat3 rfl rfl (by first | rfl | assumption) (by repeat (first | exact Sel.here | apply Sel.there)) (by first | (simp; done) | (simp [Value.cells]; done))) ?_
    refine O.nil ?_
    refine S.retCell Go.Proofs.Tryd.results83 FactWire2.flat3 rfl (by repeat (first | exact Sel.here | apply Sel.there)) fun w hw => Holds.end_ hR hw ?_
    exact ⟨_, .inl ⟨by revert h7; cases made <;> cases bad <;> simp, rfl, rfl⟩, by repeat (first | exact Picks.all | exact Picks.nil | (apply Picks.cons; focus (repeat (first | exact Sel.here | apply Sel.there))) | apply Picks.skip)⟩
  · obtain ⟨rfl, rfl⟩ : made = true ∧ bad = false := by revert h7; cases made <;> cases bad <;> simp
    refine S.skip (S.seq (S.region rfl ?_))
    refine O.op (.p rfl) (.mkFunc rfl rfl) ?_
    refine O.defer rfl rfl rfl rfl ?_
    refine O.nil ?_
    refine S.seq (S.region rfl ?_)
    refine O.op (.p rfl) (.mv rfl) ?_
    refine O.callPSD (.p rfl) rfl hc rfl rfl (by repeat (first | exact Sel.here | apply Sel.there)) ((con rfl rfl).sub hg) (fun a ch η' w hF hX hW => by (obtain ⟨rfl, v', hX', rfl⟩ := hX; exact leavesCell Go.Proofs.Tryd.results83 FactWire2.flat3 hF rfl (by simp) FactWire2.ok89 (triedI_pan (hW.picks (by repeat (first | exact Picks.all | exact Picks.nil | (apply Picks.cons; focus (repeat (first | exact Sel.here | apply Sel.there))) | apply Picks.skip))) fun w hw => Holds.end_ hR hw ⟨_, .inr (.inr ⟨rfl, rfl, v', hX', rfl, rfl⟩), by repeat (first | exact Picks.all | exact Picks.nil | (apply Picks.cons; focus (repeat (first | exact Sel.here | apply Sel.there))) | apply Picks.skip)⟩))) ?_
    rintro v11 _ ⟨v', ζ, hK, rfl⟩
    try simp only [List.cons_append, List.nil_append, List.append_nil]
    have hone := hK1 _ _ _ hK
    refine O.perm (List.Perm.cons _ List.perm_append_comm) ?_
    simp only [List.cons_append, List.nil_append]
    refine O.opU rfl (.store1 FactWire2.flat3 rfl rfl (by first | rfl | assumption) (by repeat (first | exact Sel.here | apply Sel.there)) (by first | (simp; done) | (simp [Value.cells]; done))) ?_
    refine O.nil ?_
    refine S.retL fun a w hf hd hw => ?_
    exact leavesCell Go.Proofs.Tryd.results83 FactWire2.flat3 hf rfl (by simp) FactWire2.ok89 (triedI_ret hw fun w hw => Holds.end_ hR hw ⟨_, .inr (.inl ⟨rfl, rfl, v', ζ, hK, rfl⟩), by repeat (first | exact Picks.all | exact Picks.nil | (apply Picks.cons; focus (repeat (first | exact Sel.here | apply Sel.there))) | apply Picks.skip)⟩)

end Go.Proofs.YtcghiboamlaenaaDoor
end
section
open Go Go.Sp
set_option maxRecDepth 100000
attribute [local irreducible] obj Own OwnP
namespace Go.Proofs.YtcghiboamlaenaaDoor
theorem FactWire3.fld128x0 : fieldOff Go.Proofs.Tryd.prog 128 0 = some 0 := by kernel_rfl
theorem FactWire3.ok83 : callable Go.Proofs.Tryd.prog 83 = true := by kernel_rfl
theorem FactWire3.ok84 : callable Go.Proofs.Tryd.prog 84 = true := by kernel_rfl

/-- what a reader tells, leaves, and whether it went bad -/
def rByte (good : Bool) (rest : List UInt8) : UInt8 × List UInt8 × Bool := if good then (match rest with | [] => (0, [], true) | x :: xs => (x, xs, false)) else (0, rest, false)
def rNum (good : Bool) (rest : List UInt8) : Int × List UInt8 × Bool := if good then (if 8 ≤ rest.length then (ofBe rest, rest.drop 8, false) else (0, rest, true)) else (0, rest, false)
def rCount (most : Int) (good : Bool) (rest : List UInt8) : Int × List UInt8 × Bool :=
  if good then (if 8 ≤ rest.length then (if 0 ≤ ofBe rest ∧ ofBe rest ≤ most then (ofBe rest, rest.drop 8, false) else (0, rest.drop 8, true)) else (0, rest, true)) else (0, rest, false)
def rBytes (most : Int) (good : Bool) (rest : List UInt8) : List UInt8 × List UInt8 × Bool :=
  if good then (if 8 ≤ rest.length then (if 0 ≤ ofBe rest ∧ ofBe rest ≤ most then (if (ofBe rest).toNat ≤ (rest.drop 8).length then ((rest.drop 8).take (ofBe rest).toNat, (rest.drop 8).drop (ofBe rest).toNat, false) else ([], rest.drop 8, true)) else ([], rest.drop 8, true)) else ([], rest, true)) else ([], rest, false)

def KNum (r : Fr) (rest : List UInt8) (u v' : Value) (ζ : List SProp) : Prop := 8 ≤ rest.length ∧ u = .int .i64 (ofBe rest) ∧ Arr Rp.u8 r v' (rest.drop 8) ∧ ζ = []
theorem numberR {r : Fr} {b : Nat} {v : Value} {rest : List UInt8} (ha : Arr Rp.u8 r v rest) :
    Con Go.Proofs.Tryd.prog 84 (#[.pointer (some ⟨b, 0, none⟩)] ++ #[] ++ #[]) r [obj b 128 [v, .bool true, .bool false]]
      (RetP (fun u η => ∃ v' ζ, KNum r rest u v' ζ ∧ η = obj b 128 [v', .bool true, .bool false] :: ζ) (fun ch η => ch = missing ∧ ∃ v', (rest.length < 8 ∧ v' = v) ∧ η = [obj b 128 [v', .bool true, .bool false]])) :=
  (number_c (T := 128) (cs := [.bool true, .bool false]) ha).mono fun e η h => by
    cases e with
    | returned u => obtain ⟨h1, v', h2, h3, h4⟩ := h; exact ⟨v', [], ⟨h1, h2, h3, rfl⟩, h4⟩
    | panicked ch => obtain ⟨h1, h2, h3⟩ := h; exact ⟨h2, v, ⟨h1, rfl⟩, h3⟩
    | outgrown => exact h.elim
theorem rNumber_c {r : Fr} {b : Nat} {v : Value} {rest : List UInt8} {made bad : Bool} (ha : Arr Rp.u8 r v rest) :
    Con Go.Proofs.Tryd.prog 74 #[.pointer (some ⟨b, 0, none⟩)] r [obj b 128 [v, .bool made, .bool bad]]
      (Ret fun u η => ∃ v', u = .int .i64 (rNum (made && !bad) rest).1 ∧ Arr Rp.u8 r v' (rNum (made && !bad) rest).2.1 ∧ η = [obj b 128 [v', .bool made, .bool (bad || (rNum (made && !bad) rest).2.2)]]) := by
  refine Con.of (n := 11) [.pointer (some ⟨b, 0, none⟩)] rfl Go.Proofs.Tryd.func74 rfl rfl rfl fun g hg R hR => ?_
  refine S.seq (S.region rfl ?_)
  refine O.op (.p rfl) (.as rfl) ?_
  refine O.nil ?_
  refine S.seq (S.seq (S.region rfl ?_))
  refine O.op (.p rfl) (.mv rfl) ?_
  refine O.op (.p rfl) (.eqlP Go.Proofs.Tryd.underlying119 rfl rfl) ?_
  refine O.nil ?_
  refine S.condF rfl ?_
  refine S.skip (S.seq (S.region rfl ?_))
  refine O.op (.p rfl) (.mv rfl) ?_
  refine O.op (.p rfl) (.mv rfl) ?_
  refine O.op (.p rfl) (.nilCheck rfl) ?_
  refine O.op (.p rfl) (.fieldAddr FactWire3.fld128x0 rfl) ?_
  refine O.op (.p rfl) (.mkFunc rfl rfl) ?_
  refine O.callS (.p rfl) rfl FactWire3.ok83 rfl rfl (by repeat (first | exact Sel.here | apply Sel.there)) ((triedI_c FactWire3.ok84 (K := KNum r rest) (fun _ _ _ h => by obtain ⟨_, rfl, _⟩ := h; rfl) fun _ _ => numberR ha).sub hg) ?_
  rintro v10 _ h10
  try simp only [List.cons_append, List.nil_append, List.append_nil]
  refine O.op (.p rfl) (.as rfl) ?_
  refine O.nil ?_
  refine S.ret Go.Proofs.Tryd.results74 rfl fun w hw => hR _ _ w ?_ hw
  rcases h10 with ⟨h1, rfl, rfl⟩ | ⟨rfl, rfl, v', ζ, ⟨h1, rfl, h2, rfl⟩, rfl⟩ | ⟨rfl, rfl, v', ⟨h1, rfl⟩, rfl, rfl⟩
  · exact ⟨v, by simp [rNum, h1], by simpa [rNum, h1] using ha, by simp [rNum, h1]⟩
  · exact ⟨v', by simp [rNum, h1], by simpa [rNum, h1] using h2, by simp [rNum, h1]⟩
  · have h1 : ¬ 8 ≤ rest.length := by omega
    exact ⟨_, by simp [rNum, h1], by simpa [rNum, h1] using ha, by simp [rNum, h1]⟩

def KByte (r : Fr) (rest : List UInt8) (u v' : Value) (ζ : List SProp) : Prop := ∃ x xs, rest = x :: xs ∧ u = byteV x ∧ Arr Rp.u8 r v' xs ∧ ζ = []
def KCount (r : Fr) (most : Int) (rest : List UInt8) (u v' : Value) (ζ : List SProp) : Prop := 8 ≤ rest.length ∧ (0 ≤ ofBe rest ∧ ofBe rest ≤ most) ∧ u = .int .i64 (ofBe rest) ∧ Arr Rp.u8 r v' (rest.drop 8) ∧ ζ = []
def XCount (r : Fr) (most : Int) (v : Value) (rest : List UInt8) (v' : Value) : Prop := rest.length < 8 ∧ v' = v ∨ 8 ≤ rest.length ∧ ¬(0 ≤ ofBe rest ∧ ofBe rest ≤ most) ∧ Arr Rp.u8 r v' (rest.drop 8)
def KBytes (r : Fr) (e : TypeId) (most : Int) (rest : List UInt8) (u v' : Value) (ζ : List SProp) : Prop :=
  8 ≤ rest.length ∧ (0 ≤ ofBe rest ∧ ofBe rest ≤ most) ∧ (ofBe rest).toNat ≤ (rest.drop 8).length ∧ Arr Rp.u8 r v' ((rest.drop 8).drop (ofBe rest).toNat) ∧
  ∃ a c, u = .slice a ((rest.drop 8).take (ofBe rest).toNat).length c ∧ ζ = [OwnP Rp.u8 e u ((rest.drop 8).take (ofBe rest).toNat)]
def XBytes (r : Fr) (most : Int) (v : Value) (rest : List UInt8) (v' : Value) : Prop := XCount r most v rest v' ∨ 8 ≤ rest.length ∧ (0 ≤ ofBe rest ∧ ofBe rest ≤ most) ∧ ¬(ofBe rest).toNat ≤ (rest.drop 8).length ∧ Arr Rp.u8 r v' (rest.drop 8)
end Go.Proofs.YtcghiboamlaenaaDoor
end
