import Derived.Test.YtcghiboamlaenaaDoorWire2
open Go Go.Sp
set_option maxRecDepth 100000
attribute [local irreducible] obj Own OwnP
namespace Go.Proofs.YtcghiboamlaenaaDoor
theorem FactWire3.fld128x0 : fieldOff Go.Proofs.Tryd.prog 128 0 = some 0 := by kernel_rfl
theorem FactWire3.ok83 : callable Go.Proofs.Tryd.prog 83 = true := by kernel_rfl
theorem FactWire3.ok84 : callable Go.Proofs.Tryd.prog 84 = true := by kernel_rfl

/-- what a reader tells, leaves, and whether it went bad -/
def rByte (good : Bool) (rest : List UInt8) : UInt8 × List UInt8 × Bool := if good then (match rest with | [] => (0, [], true) | x :: xs => (x, xs, false)) else (0, rest, false)
def rNum (good : Bool) (rest : List UInt8) : Int × List UInt8 × Bool := if good then (if 8 ≤ rest.length then (ofBe rest, rest.drop 8, false) else (0, rest, true)) else (0, rest, false)
def rCount (most : Int) (good : Bool) (rest : List UInt8) : Int × List UInt8 × Bool :=
  if good then (if 8 ≤ rest.length then (if 0 ≤ ofBe rest ∧ ofBe rest ≤ most then (ofBe rest, rest.drop 8, false) else (0, rest.drop 8, true)) else (0, rest, true)) else (0, rest, false)
def rBytes (most : Int) (good : Bool) (rest : List UInt8) : List UInt8 × List UInt8 × Bool :=
  if good then (if 8 ≤ rest.length then (if 0 ≤ ofBe rest ∧ ofBe rest ≤ most then (if (ofBe rest).toNat ≤ (rest.drop 8).length then ((rest.drop 8).take (ofBe rest).toNat, (rest.drop 8).drop (ofBe rest).toNat, false) else ([], rest.drop 8, true)) else ([], rest.drop 8, true)) else ([], rest, true)) else ([], rest, false)

def KNum (r : Fr) (rest : List UInt8) (u v' : Value) (ζ : List SProp) : Prop := 8 ≤ rest.length ∧ u = .int .i64 (ofBe rest) ∧ Arr Rp.u8 r v' (rest.drop 8) ∧ ζ = []
theorem numberR {r : Fr} {b : Nat} {v : Value} {rest : List UInt8} (ha : Arr Rp.u8 r v rest) :
    Con Go.Proofs.Tryd.prog 84 (#[.pointer (some ⟨b, 0, none⟩)] ++ #[] ++ #[]) r [obj b 128 [v, .bool true, .bool false]]
      (RetP (fun u η => ∃ v' ζ, KNum r rest u v' ζ ∧ η = obj b 128 [v', .bool true, .bool false] :: ζ) (fun ch η => ch = missing ∧ ∃ v', (rest.length < 8 ∧ v' = v) ∧ η = [obj b 128 [v', .bool true, .bool false]])) :=
  (number_c (T := 128) (cs := [.bool true, .bool false]) ha).mono fun e η h => by
    cases e with
    | returned u => obtain ⟨h1, v', h2, h3, h4⟩ := h; exact ⟨v', [], ⟨h1, h2, h3, rfl⟩, h4⟩
    | panicked ch => obtain ⟨h1, h2, h3⟩ := h; exact ⟨h2, v, ⟨h1, rfl⟩, h3⟩
    | outgrown => exact h.elim
theorem rNumber_c {r : Fr} {b : Nat} {v : Value} {rest : List UInt8} {made bad : Bool} (ha : Arr Rp.u8 r v rest) :
    Con Go.Proofs.Tryd.prog 74 #[.pointer (some ⟨b, 0, none⟩)] r [obj b 128 [v, .bool made, .bool bad]]
      (Ret fun u η => ∃ v', u = .int .i64 (rNum (made && !bad) rest).1 ∧ Arr Rp.u8 r v' (rNum (made && !bad) rest).2.1 ∧ η = [obj b 128 [v', .bool made, .bool (bad || (rNum (made && !bad) rest).2.2)]]) := by
  refine Con.of (n := 11) [.pointer (some ⟨b, 0, none⟩)] rfl Go.Proofs.Tryd.func74 rfl rfl rfl fun g hg R hR => ?_
  refine S.seq (S.region rfl ?_)
  refine O.op (.p rfl) (.as rfl) ?_
  refine O.nil ?_
  refine S.seq (S.seq (S.region rfl ?_))
  refine O.op (.p rfl) (.mv rfl) ?_
  refine O.op (.p rfl) (.eqlP Go.Proofs.Tryd.underlying119 rfl rfl) ?_
  refine O.nil ?_
  refine S.condF rfl ?_
  refine S.skip (S.seq (S.region rfl ?_))
  refine O.op (.p rfl) (.mv rfl) ?_
  refine O.op (.p rfl) (.mv rfl) ?_
  refine O.op (.p rfl) (.nilCheck rfl) ?_
  refine O.op (.p rfl) (.fieldAddr FactWire3.fld128x0 rfl) ?_
  refine O.op (.p rfl) (.mkFunc rfl rfl) ?_
  refine O.callS (.p rfl) rfl FactWire3.ok83 rfl rfl (by repeat (first | exact Sel.here | apply Sel.there)) ((triedI_c FactWire3.ok84 (K := KNum r rest) (fun _ _ _ h => by obtain ⟨_, rfl, _⟩ := h; rfl) fun _ _ => numberR ha).sub hg) ?_
  rintro v10 _ h10
  try simp only [List.cons_append, List.nil_append, List.append_nil]
  refine O.op (.p rfl) (.as rfl) ?_
  refine O.nil ?_
  refine S.ret Go.Proofs.Tryd.results74 rfl fun w hw => hR _ _ w ?_ hw
  rcases h10 with ⟨h1, rfl, rfl⟩ | ⟨rfl, rfl, v', ζ, ⟨h1, rfl, h2, rfl⟩, rfl⟩ | ⟨rfl, rfl, v', ⟨h1, rfl⟩, rfl, rfl⟩
  · exact ⟨v, by simp [rNum, h1], by simpa [rNum, h1] using ha, by simp [rNum, h1]⟩
  · exact ⟨v', by simp [rNum, h1], by simpa [rNum, h1] using h2, by simp [rNum, h1]⟩
  · have h1 : ¬ 8 ≤ rest.length := by omega
    exact ⟨_, by simp [rNum, h1], by simpa [rNum, h1] using ha, by simp [rNum, h1]⟩

def KByte (r : Fr) (rest : List UInt8) (u v' : Value) (ζ : List SProp) : Prop := ∃ x xs, rest = x :: xs ∧ u = byteV x ∧ Arr Rp.u8 r v' xs ∧ ζ = []
def KCount (r : Fr) (most : Int) (rest : List UInt8) (u v' : Value) (ζ : List SProp) : Prop := 8 ≤ rest.length ∧ (0 ≤ ofBe rest ∧ ofBe rest ≤ most) ∧ u = .int .i64 (ofBe rest) ∧ Arr Rp.u8 r v' (rest.drop 8) ∧ ζ = []
def XCount (r : Fr) (most : Int) (v : Value) (rest : List UInt8) (v' : Value) : Prop := rest.length < 8 ∧ v' = v ∨ 8 ≤ rest.length ∧ ¬(0 ≤ ofBe rest ∧ ofBe rest ≤ most) ∧ Arr Rp.u8 r v' (rest.drop 8)
def KBytes (r : Fr) (e : TypeId) (most : Int) (rest : List UInt8) (u v' : Value) (ζ : List SProp) : Prop :=
  8 ≤ rest.length ∧ (0 ≤ ofBe rest ∧ ofBe rest ≤ most) ∧ (ofBe rest).toNat ≤ (rest.drop 8).length ∧ Arr Rp.u8 r v' ((rest.drop 8).drop (ofBe rest).toNat) ∧
  ∃ a c, u = .slice a ((rest.drop 8).take (ofBe rest).toNat).length c ∧ ζ = [OwnP Rp.u8 e u ((rest.drop 8).take (ofBe rest).toNat)]
def XBytes (r : Fr) (most : Int) (v : Value) (rest : List UInt8) (v' : Value) : Prop := XCount r most v rest v' ∨ 8 ≤ rest.length ∧ (0 ≤ ofBe rest ∧ ofBe rest ≤ most) ∧ ¬(ofBe rest).toNat ≤ (rest.drop 8).length ∧ Arr Rp.u8 r v' (rest.drop 8)
end Go.Proofs.YtcghiboamlaenaaDoor
