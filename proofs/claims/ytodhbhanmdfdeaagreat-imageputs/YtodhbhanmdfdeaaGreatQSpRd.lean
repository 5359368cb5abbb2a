/- Texts of this proof. -/
import Derived.Test.YtodhbhanmdfdeaaGreatQSpLent
import Derived.Test.YtodhbhanmdfdeaaGreatQSpAuto
namespace Go.Sp
def ofBe (xs : List UInt8) : Int := s64 (beVal (xs.take 8))
def rByte (good : Bool) (rest : List UInt8) : UInt8 × List UInt8 × Bool := if good then (match rest with | [] => (0, [], true) | x :: xs => (x, xs, false)) else (0, rest, false)
def rBytes (most : Int) (good : Bool) (rest : List UInt8) : List UInt8 × List UInt8 × Bool :=
 if good then (if 8 ≤ rest.length then (if 0 ≤ ofBe rest ∧ ofBe rest ≤ most then (if (ofBe rest).toNat ≤ (rest.drop 8).length then ((rest.drop 8).take (ofBe rest).toNat, (rest.drop 8).drop (ofBe rest).toNat, false) else ([], rest.drop 8, true)) else ([], rest.drop 8, true)) else ([], rest, true)) else ([], rest, false)
structure RS where
 good : Bool
 rest : List UInt8
namespace RS
def of {α : Type} (s : RS) (x : α × List UInt8 × Bool) : α × RS := (x.1, ⟨s.good && !x.2.2, x.2.1⟩)
def byte (s : RS) : UInt8 × RS := s.of (rByte s.good s.rest)
def bytes (most : Int) (s : RS) : List UInt8 × RS := s.of (rBytes most s.good s.rest)
def done (s : RS) : Bool := s.good && decide (s.rest.length = 0)
end RS
def byteP : Nat → RS → List UInt8 × RS
 | 0, s => ([], s)
 | n + 1, s => ((byteP n s).1 ++ [(byteP n s).2.byte.1], (byteP n s).2.byte.2)
@[simp] theorem byteP_length (n : Nat) (s : RS) : (byteP n s).1.length = n := by induction n <;> simp [byteP, *]
section
variable {P : Program} {f : FuncId} {args : Array Value} {r : Fr} {T b : Nat} {s : RS} {Q : Value → RS → List SProp → Prop} {w : World} {g : Gr} {η : List SProp}
end
end Go.Sp
