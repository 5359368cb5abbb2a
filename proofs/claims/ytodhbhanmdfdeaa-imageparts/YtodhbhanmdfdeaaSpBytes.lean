import Derived.Test.YtodhbhanmdfdeaaSpOwn
namespace Go.Sp
/-! numbers as bytes -/
/-- a number as one of 64 bits -/
def u64 (n : Int) : Nat := (n % 18446744073709551616).toNat
/-- its byte of weight 256^i -/
def beAt (n : Int) (i : Nat) : UInt8 := UInt8.ofNat (u64 n / 256 ^ i)
def be (n : Int) : List UInt8 := [beAt n 7, beAt n 6, beAt n 5, beAt n 4, beAt n 3, beAt n 2, beAt n 1, beAt n 0]
@[simp] theorem be_length (n : Int) : (be n).length = 8 := rfl
theorem be_get (n : Int) (i : Nat) (h : i < 8) : (be n)[7 - i]? = some (beAt n i) := by
  match i, h with
  | 0, _ | 1, _ | 2, _ | 3, _ | 4, _ | 5, _ | 6, _ | 7, _ => rfl
theorem u64_lt (n : Int) : u64 n < 18446744073709551616 := by unfold u64; omega
theorem wrap_u64_eq (n : Int) : IntKind.u64.wrap n = (u64 n : Int) := by
  have : IntKind.u64.wrap n = n % 18446744073709551616 := by simp [IntKind.wrap, IntKind.bits, IntKind.signed]
  rw [this]; unfold u64; omega
theorem wrap_u8_eq (n : Int) : IntKind.u8.wrap n = n % 256 := by simp [IntKind.wrap, IntKind.bits, IntKind.signed]
/-- the byte that a shift leaves -/
theorem shift_byte (n : Int) (i : Nat) (h : i < 8) (z : Int) (hz : z = 8 * (i : Int)) : IntKind.u8.wrap ((IntKind.u64.wrap n).fdiv (2 ^ min z.toNat IntKind.u64.bits)) = ((beAt n i).toNat : Int) := by
  subst hz
  have e1 : min (8 * (i : Int)).toNat IntKind.u64.bits = 8 * i := by simp [IntKind.bits]; omega
  rw [e1, wrap_u64_eq, wrap_u8_eq]
  have e2 : ((2 : Int) ^ (8 * i)) = ((256 ^ i : Nat) : Int) := by
    rw [Int.pow_mul, Int.natCast_pow]; rfl
  rw [e2]
  have e3 : ((u64 n : Nat) : Int).fdiv ((256 ^ i : Nat) : Int) = ((u64 n / 256 ^ i : Nat) : Int) := by
    rw [Int.fdiv_eq_ediv_of_nonneg _ (Int.natCast_nonneg _)]; rfl
  rw [e3]
  unfold beAt
  have : (UInt8.ofNat (u64 n / 256 ^ i)).toNat = u64 n / 256 ^ i % 256 := by simp
  rw [this]; omega
/-- bytes read as one number, the first of the most weight -/
def beVal (xs : List UInt8) : Nat := xs.foldl (fun n c => n * 256 + c.toNat) 0
theorem beVal_snoc (xs : List UInt8) (c : UInt8) : beVal (xs ++ [c]) = beVal xs * 256 + c.toNat := by simp [beVal]
theorem pow256_succ (n : Nat) : 256 ^ (n + 1) = 256 ^ n * 256 := Nat.pow_succ ..
theorem beVal_take (xs : List UInt8) (i : Nat) (h : i < xs.length) : beVal (xs.take (i + 1)) = beVal (xs.take i) * 256 + xs[i].toNat := by
  rw [List.take_succ_eq_append_getElem h, beVal_snoc]
theorem beVal_lt (xs : List UInt8) (i : Nat) : beVal (xs.take i) < 256 ^ i := by
  induction i with
  | zero => simp [beVal]
  | succ i ih =>
    by_cases h : i < xs.length
    · rw [beVal_take xs i h, pow256_succ]
      have := xs[i].toNat_lt
      omega
    · have e : xs.take (i + 1) = xs.take i := by rw [List.take_of_length_le (by omega), List.take_of_length_le (by omega)]
      rw [e, pow256_succ]; omega
theorem beVal_lt7 (xs : List UInt8) (i : Nat) (hi : i < 8) : beVal (xs.take i) < 72057594037927936 :=
  Nat.lt_of_lt_of_le (beVal_lt xs i) (Nat.le_trans (Nat.pow_le_pow_right (by decide) (show i ≤ 7 by omega)) (by decide))
/-- a byte put behind -/
theorem or_byte (n : Nat) (c : UInt8) (hn : n < 72057594037927936) :
    bitsOf .or .u64 (IntKind.u64.wrap ((n : Int) * 2 ^ min (8 : Int).toNat IntKind.u64.bits)) (IntKind.u64.wrap (c.toNat : Int)) = ((n * 256 + c.toNat : Nat) : Int) := by
  have hc := c.toNat_lt
  have e0 : ((n : Int) * 2 ^ min (8 : Int).toNat IntKind.u64.bits) = ((n * 256 : Nat) : Int) := by simp [IntKind.bits]
  have w : ∀ k : Nat, k < 18446744073709551616 → IntKind.u64.wrap (k : Int) = k := fun k h => by rw [wrap_u64_eq]; unfold u64; omega
  rw [e0, w _ (by omega), w _ (by omega)]
  have e1 : (n * 256) ||| c.toNat = n * 256 + c.toNat := by
    have := Nat.shiftLeft_add_eq_or_of_lt (b := c.toNat) (i := 8) (by omega) n
    rw [Nat.shiftLeft_eq] at this; exact this.symm
  have e2 : ∀ k : Nat, k < 18446744073709551616 → (BitVec.ofInt IntKind.u64.bits (k : Int)).toNat = k := fun k h => by rw [BitVec.toNat_ofInt]; simp only [IntKind.bits]; omega
  simp only [bitsOf, BitVec.toNat_or]
  rw [e2 _ (by omega), e2 _ (by omega), e1, w _ (by omega)]
/-- 64 bits as a number with a sign -/
def s64 (n : Nat) : Int := if n < 9223372036854775808 then n else n - 18446744073709551616
theorem wrap_i64_eq (n : Nat) (h : n < 18446744073709551616) : IntKind.i64.wrap (n : Int) = s64 n := by
  rw [IntKind.wrap_i64]; unfold s64; split <;> omega
theorem s64_in (n : Nat) (h : n < 18446744073709551616) : InI64 (s64 n) := by unfold s64 InI64; split <;> omega
theorem beVal_be (n : Int) : beVal (be n) = u64 n := by
  have h := u64_lt n
  simp only [beVal, be, List.foldl_cons, List.foldl_nil, beAt, UInt8.toNat_ofNat']
  generalize u64 n = k at h ⊢
  simp only [show (256:Nat)^7 = 72057594037927936 from rfl, show (256:Nat)^6 = 281474976710656 from rfl, show (256:Nat)^5 = 1099511627776 from rfl, show (256:Nat)^4 = 4294967296 from rfl, show (256:Nat)^3 = 16777216 from rfl, show (256:Nat)^2 = 65536 from rfl, show (256:Nat)^1 = 256 from rfl, show (256:Nat)^0 = 1 from rfl]
  omega
theorem s64_be (n : Int) (h : InI64 n) : s64 (beVal (be n)) = n := by
  rw [beVal_be]; unfold s64 u64; unfold InI64 at h; split <;> omega
/-- bytes, and how many they are ahead -/
def bytesOf (xs : List UInt8) : List UInt8 := be xs.length ++ xs
@[simp] theorem bytesOf_length (xs : List UInt8) : (bytesOf xs).length = 8 + xs.length := by simp [bytesOf]
end Go.Sp
