import Derived.Test.YthaebmfgelaleaaSpGp
import Derived.Laws.Strings2
/- Pieces of strings. -/
namespace Go.Sp
section
variable {ro : Option Nat} {P : Program} {fn : Func} {n : Nat} {R : Ending → World → Prop} {k : List Item} {σ : List (Nat × Value)} {D : List Deferred} {g : Gr} {η : List SProp} {ops : Array Oper} {i d : Nat} {l : List Nat} {t : TypeId} {x : Operand}
theorem str_extract (xs : List UInt8) (a b : Nat) : (str xs).extract a b = str ((xs.take b).drop a) := by
  have := ByteArray.extract_mk xs a b
  unfold str; rw [this, List.drop_take]
theorem str_does {xs : List UInt8} {lo hi : Option Operand} {a b : Nat} {kl kh : IntKind} (ht : P.underlying t = some .string) (hx : ev σ x = some (.string (str xs)))
    (hlo : ∀ y, lo = some y → ev σ y = some (.int kl (a : Int))) (hlo' : lo = none → a = 0) (hhi : ∀ y, hi = some y → ev σ y = some (.int kh (b : Int))) (hhi' : hi = none → b = xs.length)
    (hab : a ≤ b) (hb : b ≤ xs.length) : ∀ η, Does P (.slice t x lo hi none) σ g η (.string (str ((xs.take b).drop a))) η := fun η => .run fun o ρ w ho hk => by
  have hsz := str_size xs
  have e1 : (a : Int) ≤ (b : Int) := by omega
  have hex := str_extract xs a b
  cases lo with
  | none =>
    have := hlo' rfl; subst this
    cases hi with
    | none => have := hhi' rfl; subst this; simp [execOp, ho, hk x _ hx, Instr.sliceAt, run_underlying ht, Instr.slice, Instr.sliceBounds, hsz, hex]
    | some y =>
      simp [execOp, ho, hk x _ hx, hk y _ (hhi y rfl), Instr.sliceAt, run_underlying ht, Instr.slice, Instr.sliceBounds, Instr.sliceBound, asIntOf, hsz, hb, hex]
  | some z =>
    cases hi with
    | none => have := hhi' rfl; subst this; simp [execOp, ho, hk x _ hx, hk z _ (hlo z rfl), Instr.sliceAt, run_underlying ht, Instr.slice, Instr.sliceBounds, Instr.sliceBound, asIntOf, hsz, hab, hex]
    | some y =>
      simp [execOp, ho, hk x _ hx, hk z _ (hlo z rfl), hk y _ (hhi y rfl), Instr.sliceAt, run_underlying ht, Instr.slice, Instr.sliceBounds, Instr.sliceBound, asIntOf, hsz, hab, hb, hex]
theorem O.strTo {xs : List UInt8} {kb : IntKind} {zb : Int} {b : Nat} {y : Operand} (ho : Fires ops i n σ d (.slice t x none (some y) none)) (ht : P.underlying t = some .string) (hx : ev σ x = some (.string (str xs))) (hy : ev σ y = some (.int kb zb)) (hz : zb = (b : Int)) (hb : b ≤ xs.length)
    (h : O ro P fn n R ops l k ((d, .string (str (xs.take b))) :: σ) D g η) : O ro P fn n R ops (i :: l) k σ D g η := by
  subst hz
  have := str_does (P := P) (σ := σ) (g := g) (kl := .i64) (kh := kb) (a := 0) (b := b) ht hx (lo := none) (hi := some y) (fun _ h => nomatch h) (fun _ => rfl) (fun _ h => by cases h; exact hy) (fun h => nomatch h) (Nat.zero_le _) hb η
  exact O.op ho this h
theorem O.strFrom {xs : List UInt8} {ka : IntKind} {za : Int} {a : Nat} {y : Operand} (ho : Fires ops i n σ d (.slice t x (some y) none none)) (ht : P.underlying t = some .string) (hx : ev σ x = some (.string (str xs))) (hy : ev σ y = some (.int ka za)) (hz : za = (a : Int)) (ha : a ≤ xs.length)
    (h : O ro P fn n R ops l k ((d, .string (str (xs.drop a))) :: σ) D g η) : O ro P fn n R ops (i :: l) k σ D g η := by
  subst hz
  have := str_does (P := P) (σ := σ) (g := g) (kl := ka) (kh := .i64) (a := a) (b := xs.length) ht hx (lo := some y) (hi := none) (fun _ h => by cases h; exact hy) (fun h => nomatch h) (fun _ h => nomatch h) (fun _ => rfl) ha (Nat.le_refl _) η
  rw [List.take_length] at this
  exact O.op ho this h
end
/-- a byte from any number's low bits -/
theorem byte_of (z : Int) (h : 0 ≤ z ∧ z < 256) : ∃ c : UInt8, z = (c.toNat : Int) := ⟨UInt8.ofNat z.toNat, by rw [UInt8.toNat_ofNat']; omega⟩
theorem wrap_byte (z : Int) : ∃ c : UInt8, IntKind.u8.wrap z = (c.toNat : Int) := byte_of _ (by rw [wrap_u8_eq]; omega)
theorem bits_byte (op : BinOp) (a b : Int) : ∃ c : UInt8, bitsOf op .u8 a b = (c.toNat : Int) := by
  unfold bitsOf
  cases op <;> first | exact wrap_byte _ | exact byte_of 0 (by decide)
end Go.Sp
