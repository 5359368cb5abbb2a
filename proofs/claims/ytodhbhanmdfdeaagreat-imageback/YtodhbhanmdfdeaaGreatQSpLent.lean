/- Texts of this proof, one behind the other. -/
import Derived.Test.YtodhbhanmdfdeaaGreatQSpOwn3
import Derived.RangeFuncRecord
import Derived.Test.YtodhbhanmdfdeaaGreatQSpOwn
import Derived.Lib.ConvBytes
import Derived.Test.YtodhbhanmdfdeaaGreatQSpOpen
import Derived.Laws.Strings2
section
/- Texts of this proof, one behind the other. -/
section
/- Texts of this proof, one behind the other. -/
section
/- Texts of this proof. -/
namespace Go.Sp
section ycon
variable {P : Program} {l : Nat} {args : Array Value} {r : Fr} {η : List SProp} {Post : Ending → List SProp → Prop}
end ycon
section
variable {ro : Option Nat} {P : Program} {fn : Func} {n : Nat} {R : Ending → World → Prop} {k : List Item} {σ : List (Nat × Value)} {D : List Deferred} {g : Gr} {η ζ θ : List SProp}
 {ops : Array Oper} {i d l : Nat} {ls : List Nat} {f : FuncId} {x y : Operand} {xs : Array Operand} {ts : Array TypeId} {vals : List Value} {K : Value → List SProp → Prop}
def under : List Nat → List Value → List (Nat × Value) → List (Nat × Value)
 | p :: ps, v :: vs, σ => under ps vs ((p, v) :: σ)
 | _, _, σ => σ
theorem S.objIs {todo : List Item} {b : Nat} {T : TypeId} {cs cs' : List Value} (s : Sel η (obj b T cs) ζ) (e : cs = cs') (h : S ro P fn n R todo σ D g (obj b T cs' :: ζ)) : S ro P fn n R todo σ D g η := S.sel s (e ▸ h)
end
end Go.Sp
end
section
/- Texts of this proof. -/
namespace Go.Sp
def qval (σ : List (Nat × Value)) : Op → Option Value
 | .move x => ev σ x
 | .assign x => ev σ x
 | .extract x j => match ev σ x with | some (.tuple vs) => vs[j]? | _ => none
 | .pick c x y => match ev σ c with | some (.bool true) => ev σ x | some (.bool false) => ev σ y | _ => none
 | _ => none
theorem qval_does {P : Program} {σ : List (Nat × Value)} {op : Op} {v : Value} (h : qval σ op = some v) : isAlloc op = false ∧ ∀ g η, Does P op σ g η v η := by
 unfold qval at h
 split at h
 ·exact ⟨rfl, fun g η => .mv h⟩
 ·exact ⟨rfl, fun g η => .as h⟩
 ·split at h
  ·rename_i e; exact ⟨rfl, fun g η => .extract e h⟩
  ·cases h
 ·split at h
  ·rename_i e; exact ⟨rfl, fun g η => .pickT e h⟩
  ·rename_i e; exact ⟨rfl, fun g η => .pickF e h⟩
  ·cases h
 ·cases h
def qfire (ops : Array Oper) (n i : Nat) (σ : List (Nat × Value)) : Option (Nat × Value) :=
 match opAt ops i n with
 | some (d, op) => match qval σ op with | some v => some (d, v) | none => none
 | none => match opAtG ops i n with
  | some (d, op, t, b) => match look σ t with
   | some u => match notB b u with
    | true => (match isAlloc op with | false => some (d, undef) | true => none)
    | false => match qval σ op with | some v => some (d, v) | none => none
   | none => none
  | none => none
theorem qfire_spec {ops : Array Oper} {n i d : Nat} {σ : List (Nat × Value)} {v : Value} (h : qfire ops n i σ = some (d, v)) :
  (∃ op, Fires ops i n σ d op ∧ qval σ op = some v) ∨ (∃ op t b u, opAtG ops i n = some (d, op, t, b) ∧ look σ t = some u ∧ notB b u = true ∧ isAlloc op = false ∧ v = undef) := by
 unfold qfire at h
 split at h
 ·rename_i e
  split at h
  ·rename_i e2; cases h; exact .inl ⟨_, .p e, e2⟩
  ·cases h
 ·split at h
  ·rename_i t b e
   split at h
   ·rename_i u e2
    split at h
    ·rename_i e3
     split at h
     ·rename_i e5; cases h; exact .inr ⟨_, _, _, _, e, e2, e3, e5, rfl⟩
     ·cases h
    ·rename_i e3
     split at h
     ·rename_i e4
      cases h
      have hu : u = .bool b := by
       cases u <;> simp [notB] at e3
       rw [e3]
      subst hu
      exact .inl ⟨_, .g e e2, e4⟩
     ·cases h
   ·cases h
  ·cases h
def qrun (ops : Array Oper) (n : Nat) : Nat → List Nat → List (Nat × Value) → Option (List Nat × List (Nat × Value))
 | 0, l, σ => some (l, σ)
 | k + 1, i :: l, σ => match qfire ops n i σ with | some (d, v) => qrun ops n k l ((d, v) :: σ) | none => none
 | _ + 1, [], _ => none
section
variable {ro : Option Nat} {P : Program} {fn : Func} {n : Nat} {R : Ending → World → Prop} {k : List Item} {D : List Deferred} {g : Gr} {η : List SProp} {ops : Array Oper}
theorem O.q : ∀ (m : Nat) {l l' : List Nat} {σ σ' : List (Nat × Value)}, qrun ops n m l σ = some (l', σ') → O ro P fn n R ops l' k σ' D g η → O ro P fn n R ops l k σ D g η
 | 0, _, _, _, _, h, hn => by cases h; exact hn
 | m + 1, [], _, _, _, h, _ => by cases h
 | m + 1, i :: l, _, σ, _, h, hn => by
  simp only [qrun] at h
  split at h
  ·rename_i d v e
   have r := O.q m h hn
   rcases qfire_spec e with ⟨op, h1, h2⟩ | ⟨op, t, b, u, h1, h2, h3, h4, rfl⟩
   ·exact O.op h1 ((qval_does h2).2 g η) r
   ·exact O.opN h1 h2 h3 r
  ·cases h
theorem OD.q : ∀ (m : Nat) {l l' : List Nat} {σ σ' : List (Nat × Value)}, qrun ops n m l σ = some (l', σ') → OD P fn n R ops k D g l' σ' η → OD P fn n R ops k D g l σ η
 | 0, _, _, _, _, h, hn => by cases h; exact hn
 | m + 1, [], _, _, _, h, _ => by cases h
 | m + 1, i :: l, _, σ, _, h, hn => by
  simp only [qrun] at h
  split at h
  ·rename_i d v e
   have r := OD.q m h hn
   rcases qfire_spec e with ⟨op, h1, h2⟩ | ⟨op, t, b, u, h1, h2, h3, h4, rfl⟩
   ·exact ODx.quiet h1 (qval_does (P := P) h2).1 (fun η => (qval_does h2).2 g η) r
   ·exact ODx.no h1 h4 h2 h3 r
  ·cases h
end
end Go.Sp
end
end
section
/- Texts of this proof, one behind the other. -/
section
/- Texts of this proof, one behind the other. -/
section
/- Texts of this proof, one behind the other. -/
section
/- Texts of this proof. -/
namespace Go.Sp
section
variable {P : Program} {σ : List (Nat × Value)} {g : Gr} {η ζ θ : List SProp}
def Two {α : Type} (T : Rp α) (e : TypeId) (v : Value) (xs : List α) (u : Value) (ys : List α) : SProp := fun h =>
 (∃ a c, v = .slice a xs.length c ∧ u = .slice a (xs.length + ys.length) c ∧ OwnP T e u (xs ++ ys) h) ∨ Sat [OwnP T e u (xs ++ ys), OwnP T e v xs] h
end
end Go.Sp
end
section
/- Texts of this proof. -/
namespace Go.Sp
theorem EachP.len {β α : Type} {A : β → α → SProp} : ∀ {bs : List β} {as : List α} {h : Fr}, EachP A bs as h → bs.length = as.length
 | [], [], _, _ => rfl
 | [], _ :: _, _, h => h.elim
 | _ :: _, [], _, h => h.elim
 | _ :: _, _ :: _, _, h => by
  have h' : Sat [_, EachP _ _ _] _ := h
  obtain ⟨_, _, _, _, _, _, _, _, _, _, _, q, _⟩ := h'
  simp [EachP.len q]
theorem Sat.join2 {A B C : SProp} {θ : List SProp} (hs : ∀ m, Sat [A, B] m → C m) : ∀ {m : Fr}, Sat (A :: B :: θ) m → Sat (C :: θ) m := by
 rintro m ⟨h1, h2, d, s1, s2, x, k1, k2, kd, t1, t2, y, z⟩
 refine ⟨h1.add k1, k2, Fr.disj_add (Fr.disj_sub d (Fr.sub_refl _) t2) kd, Fr.add_sub s1 (Fr.sub_trans t1 s2), Fr.sub_trans t2 s2, hs _ ?_, z⟩
 have d2 : h1.disj k1 := Fr.disj_sub d (Fr.sub_refl _) t1
 exact ⟨h1, k1, d2, Fr.sub_add_left _ _, Fr.sub_add_right d2, x, k1, Fr.emp, Fr.disj_symm (Fr.emp_disj _), Fr.sub_refl _, Fr.emp_sub _, y, trivial⟩
section
variable {ro : Option Nat} {P : Program} {fn : Func} {n : Nat} {R : Ending → World → Prop} {k : List Item} {σ : List (Nat × Value)} {D : List Deferred} {g : Gr} {η ζ θ : List SProp} {ops : Array Oper} {L : List Nat} {β α : Type} {A : β → α → SProp} {todo : List Item}
theorem S.conv {B C : SProp} (s : Sel η B ζ) (hc : ∀ m, B m → ∃ h : Fr, h.sub m ∧ C h) (h : S ro P fn n R todo σ D g (C :: ζ)) : S ro P fn n R todo σ D g η :=
 S.sel s (S.imp' (η := B :: ζ) (ζ := C :: ζ) (fun _ ⟨_, h2, d, s1, s2, x, y⟩ => let ⟨h3, u, z⟩ := hc _ x; ⟨h3, h2, Fr.disj_sub d u (Fr.sub_refl _), Fr.sub_trans u s1, s2, z, y⟩) h)
theorem S.factS {B : SProp} {p : Prop} (s : Sel η B ζ) (hs : ∀ m, B m → p) (h : p → S ro P fn n R todo σ D g η) : S ro P fn n R todo σ D g η :=
 fun a w hf hd hw => by
  obtain ⟨_, _, _, _, _, _, _, _, _, _, _, _, hB, _⟩ := hw.sel s
  exact h (hs _ hB) a w hf hd hw
end
end Go.Sp
end
end
section
/- Texts of this proof. -/
namespace Go.Sp
def u64 (n : Int) : Nat := (n % 18446744073709551616).toNat
def beAt (n : Int) (i : Nat) : UInt8 := UInt8.ofNat (u64 n / 256 ^ i)
def be (n : Int) : List UInt8 := [beAt n 7, beAt n 6, beAt n 5, beAt n 4, beAt n 3, beAt n 2, beAt n 1, beAt n 0]
@[simp] theorem be_length (n : Int) : (be n).length = 8 := rfl
theorem u64_lt (n : Int) : u64 n < 18446744073709551616 := by unfold u64; omega
theorem wrap_u64_eq (n : Int) : IntKind.u64.wrap n = (u64 n : Int) := by
 have : IntKind.u64.wrap n = n % 18446744073709551616 := by simp [IntKind.wrap, IntKind.bits, IntKind.signed]
 rw [this]; unfold u64; omega
theorem wrap_u8_eq (n : Int) : IntKind.u8.wrap n = n % 256 := by simp [IntKind.wrap, IntKind.bits, IntKind.signed]
theorem shift_byte (n : Int) (i : Nat) (h : i < 8) (z : Int) (hz : z = 8 * (i : Int)) : IntKind.u8.wrap ((IntKind.u64.wrap n).fdiv (2 ^ min z.toNat IntKind.u64.bits)) = ((beAt n i).toNat : Int) := by
 subst hz
 have e1 : min (8 * (i : Int)).toNat IntKind.u64.bits = 8 * i := by simp [IntKind.bits]; omega
 rw [e1, wrap_u64_eq, wrap_u8_eq]
 have e2 : ((2 : Int) ^ (8 * i)) = ((256 ^ i : Nat) : Int) := by
  rw [Int.pow_mul, Int.natCast_pow]; rfl
 rw [e2]
 have e3 : ((u64 n : Nat) : Int).fdiv ((256 ^ i : Nat) : Int) = ((u64 n / 256 ^ i : Nat) : Int) := by
  rw [Int.fdiv_eq_ediv_of_nonneg _ (Int.natCast_nonneg _)]; rfl
 rw [e3]
 unfold beAt
 have : (UInt8.ofNat (u64 n / 256 ^ i)).toNat = u64 n / 256 ^ i % 256 := by simp
 rw [this]; omega
def beVal (xs : List UInt8) : Nat := xs.foldl (fun n c => n * 256 + c.toNat) 0
theorem beVal_snoc (xs : List UInt8) (c : UInt8) : beVal (xs ++ [c]) = beVal xs * 256 + c.toNat := by simp [beVal]
theorem pow256_succ (n : Nat) : 256 ^ (n + 1) = 256 ^ n * 256 := Nat.pow_succ ..
theorem beVal_take (xs : List UInt8) (i : Nat) (h : i < xs.length) : beVal (xs.take (i + 1)) = beVal (xs.take i) * 256 + xs[i].toNat := by
 rw [List.take_succ_eq_append_getElem h, beVal_snoc]
theorem beVal_lt (xs : List UInt8) (i : Nat) : beVal (xs.take i) < 256 ^ i := by
 induction i with
 | zero => simp [beVal]
 | succ i ih =>
  by_cases h : i < xs.length
  ·rw [beVal_take xs i h, pow256_succ]
   have := xs[i].toNat_lt
   omega
  ·have e : xs.take (i + 1) = xs.take i := by rw [List.take_of_length_le (by omega), List.take_of_length_le (by omega)]
   rw [e, pow256_succ]; omega
theorem beVal_lt7 (xs : List UInt8) (i : Nat) (hi : i < 8) : beVal (xs.take i) < 72057594037927936 :=
 Nat.lt_of_lt_of_le (beVal_lt xs i) (Nat.le_trans (Nat.pow_le_pow_right (by decide) (show i ≤ 7 by omega)) (by decide))
theorem or_byte (n : Nat) (c : UInt8) (hn : n < 72057594037927936) :
  bitsOf .or .u64 (IntKind.u64.wrap ((n : Int) * 2 ^ min (8 : Int).toNat IntKind.u64.bits)) (IntKind.u64.wrap (c.toNat : Int)) = ((n * 256 + c.toNat : Nat) : Int) := by
 have hc := c.toNat_lt
 have e0 : ((n : Int) * 2 ^ min (8 : Int).toNat IntKind.u64.bits) = ((n * 256 : Nat) : Int) := by simp [IntKind.bits]
 have w : ∀ k : Nat, k < 18446744073709551616 → IntKind.u64.wrap (k : Int) = k := fun k h => by rw [wrap_u64_eq]; unfold u64; omega
 rw [e0, w _ (by omega), w _ (by omega)]
 have e1 : (n * 256) ||| c.toNat = n * 256 + c.toNat := by
  have := Nat.shiftLeft_add_eq_or_of_lt (b := c.toNat) (i := 8) (by omega) n
  rw [Nat.shiftLeft_eq] at this; exact this.symm
 have e2 : ∀ k : Nat, k < 18446744073709551616 → (BitVec.ofInt IntKind.u64.bits (k : Int)).toNat = k := fun k h => by rw [BitVec.toNat_ofInt]; simp only [IntKind.bits]; omega
 simp only [bitsOf, BitVec.toNat_or]
 rw [e2 _ (by omega), e2 _ (by omega), e1, w _ (by omega)]
def s64 (n : Nat) : Int := if n < 9223372036854775808 then n else n - 18446744073709551616
theorem wrap_i64_eq (n : Nat) (h : n < 18446744073709551616) : IntKind.i64.wrap (n : Int) = s64 n := by
 rw [IntKind.wrap_i64]; unfold s64; split <;> omega
theorem s64_in (n : Nat) (h : n < 18446744073709551616) : InI64 (s64 n) := by unfold s64 InI64; split <;> omega
theorem beVal_be (n : Int) : beVal (be n) = u64 n := by
 have h := u64_lt n
 simp only [beVal, be, List.foldl_cons, List.foldl_nil, beAt, UInt8.toNat_ofNat']
 generalize u64 n = k at h ⊢
 simp only [show (256:Nat)^7 = 72057594037927936 from rfl, show (256:Nat)^6 = 281474976710656 from rfl, show (256:Nat)^5 = 1099511627776 from rfl, show (256:Nat)^4 = 4294967296 from rfl, show (256:Nat)^3 = 16777216 from rfl, show (256:Nat)^2 = 65536 from rfl, show (256:Nat)^1 = 256 from rfl, show (256:Nat)^0 = 1 from rfl]
 omega
theorem s64_be (n : Int) (h : InI64 n) : s64 (beVal (be n)) = n := by
 rw [beVal_be]; unfold s64 u64; unfold InI64 at h; split <;> omega
def bytesOf (xs : List UInt8) : List UInt8 := be xs.length ++ xs
@[simp] theorem bytesOf_length (xs : List UInt8) : (bytesOf xs).length = 8 + xs.length := by simp [bytesOf]
end Go.Sp
end
end
section
/- Texts of this proof. -/
namespace Go.Sp
section
variable {ro : Option Nat} {P : Program} {fn : Func} {n : Nat} {R : Ending → World → Prop} {k : List Item} {σ : List (Nat × Value)} {D : List Deferred} {g : Gr} {η ζ θ : List SProp} {ops : Array Oper} {L l : List Nat} {i d : Nat} {t e : TypeId} {x y z : Operand} {α : Type} {T : Rp α}
theorem Sel.app {η ζ θ : List SProp} {A : SProp} (s : Sel η A ζ) : Sel (η ++ θ) A (ζ ++ θ) := by
 induction s with
 | here => exact .here
 | there _ ih => exact .there ih
theorem ODg.litP {fl : Bool} {by_ len : Nat} {z : List Value} {parts : Array (Nat × Operand)} {vs : List Value} {ys : List α} (ho : Fires ops i n σ d (.buildSlice t len parts)) (hd : hdOk fl ops i l = true) (ht : P.underlying t = some (.slice e)) (he : elemIs P e T.k by_ z) (hk : 0 < T.k)
  (hp : partsOf σ parts.toList 0 = some vs) (hlen : parts.toList.length = len) (hvs : All2 (T.rel Fr.emp) (vs.map (·.cells.toList)) ys) (h24 : len * T.k ≤ 16777216)
  (h : ∀ a c, OD P fn n R ops k D g l ((d, .slice a len c) :: σ) (OwnP T e (.slice a len c) ys :: η)) : ODx P fn n R ops k D g fl (i :: l) σ η :=
 ODg.loudE (K := fun v η' => ∃ a c, v = .slice a len c ∧ η' = OwnP T e v ys :: η) ho rfl hd (fun _ => (DoesE.litP ht he hk hp hlen hvs h24).imp fun _ _ ⟨a, c, h1, h2⟩ => ⟨_, ⟨a, c, h1, rfl⟩, h2⟩)
  fun _ _ ⟨a, c, h1, h2⟩ => by subst h1; subst h2; exact h a c
theorem OD.litP {by_ len : Nat} {z : List Value} {parts : Array (Nat × Operand)} {vs : List Value} {ys : List α} (ho : Fires ops i n σ d (.buildSlice t len parts)) (hd : descOk ops [i] l = true) (ht : P.underlying t = some (.slice e)) (he : elemIs P e T.k by_ z) (hk : 0 < T.k) (hp : partsOf σ parts.toList 0 = some vs) (hlen : parts.toList.length = len) (hvs : All2 (T.rel Fr.emp) (vs.map (·.cells.toList)) ys) (h24 : len * T.k ≤ 16777216) (h : ∀ a c, OD P fn n R ops k D g l ((d, .slice a len c) :: σ) (OwnP T e (.slice a len c) ys :: η)) : OD P fn n R ops k D g (i :: l) σ η := ODg.litP (fl := false) ho (by simpa [hdOk] using hd) ht he hk hp hlen hvs h24 h
theorem ODt.litP {by_ len : Nat} {z : List Value} {parts : Array (Nat × Operand)} {vs : List Value} {ys : List α} (ho : Fires ops i n σ d (.buildSlice t len parts)) (_ : true = true) (ht : P.underlying t = some (.slice e)) (he : elemIs P e T.k by_ z) (hk : 0 < T.k) (hp : partsOf σ parts.toList 0 = some vs) (hlen : parts.toList.length = len) (hvs : All2 (T.rel Fr.emp) (vs.map (·.cells.toList)) ys) (h24 : len * T.k ≤ 16777216) (h : ∀ a c, OD P fn n R ops k D g l ((d, .slice a len c) :: σ) (OwnP T e (.slice a len c) ys :: η)) : ODx P fn n R ops k D g true (i :: l) σ η := ODg.litP (fl := true) ho rfl ht he hk hp hlen hvs h24 h
theorem ODg.appendO {fl : Bool} {by_ : Nat} {z : List Value} {v u : Value} {xs ys : List α} (ho : Fires ops i n σ d (.call ⟨.builtin .append, #[x, y], #[t, t]⟩)) (hd : hdOk fl ops i l = true) (ht : P.underlying t = some (.slice e)) (he : elemIs P e T.k by_ z) (hk : 0 < T.k) (hx : ev σ x = some v) (hy : ev σ y = some u)
  (hl : Sel η (OwnP T e u ys) θ) (hs : Sel θ (OwnP T e v xs) ζ) (hb : (xs.length + ys.length) * by_ ≤ 140737488355328) (h63 : xs.length + ys.length ≤ 9223372036854775807)
  (h : ∀ a c, OD P fn n R ops k D g l ((d, .slice a (xs.length + ys.length) c) :: σ) (OwnP T e (.slice a (xs.length + ys.length) c) (xs ++ ys) :: ζ)) : ODx P fn n R ops k D g fl (i :: l) σ η :=
 ODg.loudE (K := fun v' η' => ∃ a c, v' = .slice a (xs.length + ys.length) c ∧ η' = OwnP T e v' (xs ++ ys) :: ζ) ho rfl hd (fun _ => (DoesE.appendO ht he hk hx hy hl.app hs.app hb h63).imp fun _ _ ⟨a, c, h1, h2⟩ => ⟨_, ⟨a, c, h1, rfl⟩, h2⟩)
  fun _ _ ⟨a, c, h1, h2⟩ => by subst h1; subst h2; exact h a c
theorem OD.appendO {by_ : Nat} {z : List Value} {v u : Value} {xs ys : List α} (ho : Fires ops i n σ d (.call ⟨.builtin .append, #[x, y], #[t, t]⟩)) (hd : descOk ops [i] l = true) (ht : P.underlying t = some (.slice e)) (he : elemIs P e T.k by_ z) (hk : 0 < T.k) (hx : ev σ x = some v) (hy : ev σ y = some u) (hl : Sel η (OwnP T e u ys) θ) (hs : Sel θ (OwnP T e v xs) ζ) (hb : (xs.length + ys.length) * by_ ≤ 140737488355328) (h63 : xs.length + ys.length ≤ 9223372036854775807) (h : ∀ a c, OD P fn n R ops k D g l ((d, .slice a (xs.length + ys.length) c) :: σ) (OwnP T e (.slice a (xs.length + ys.length) c) (xs ++ ys) :: ζ)) : OD P fn n R ops k D g (i :: l) σ η := ODg.appendO (fl := false) ho (by simpa [hdOk] using hd) ht he hk hx hy hl hs hb h63 h
theorem OD.slot {v v' : Value} (q : Nat) (hl : look σ q = some v) (h0 : v = v') (h : OD P fn n R ops k D g L ((q, v') :: σ) η) : OD P fn n R ops k D g L σ η := OD.weaken h (Sub.consE hl h0 Sub.refl)
end
end Go.Sp
end
end
end
section
/- Texts of this proof, one behind the other. -/
section
/- Texts of this proof. -/
namespace Go.Sp
structure Gp (α : Type) where
 rp : Rp α
 own : List Value → α → SProp
 rel : ∀ {cs : List Value} {a : α} {m : Fr}, own cs a m → rp.rel m cs a
theorem All2.len2 {α β : Type} {R : β → α → Prop} : ∀ {bs : List β} {as : List α}, All2 R bs as → bs.length = as.length
 | [], [], _ => rfl
 | [], _ :: _, h => h.elim
 | _ :: _, [], h => h.elim
 | _ :: _, _ :: _, h => congrArg Nat.succ (All2.len2 h.2)
theorem all2_cells {k : Nat} {h : Fr} : ∀ {cs : List (List Value)} {ds : List (List Value)}, All2 ((Rp.cells k).rel h) cs ds → cs = ds
 | [], [], _ => rfl
 | [], _ :: _, h => h.elim
 | _ :: _, [], h => h.elim
 | _ :: _, _ :: _, h => by rw [h.1.1, all2_cells h.2]
theorem Arr.ofCells {α : Type} {T : Rp α} {k : Nat} {h : Fr} {v : Value} {css : List (List Value)} {xs : List α} (h1 : Arr (Rp.cells k) h v css) (h2 : All2 (T.rel h) css xs) (hk : k = T.k) : Arr T h v xs := by
 obtain ⟨ds, p, q⟩ := h1
 obtain rfl := all2_cells p
 subst hk
 exact ⟨ds, h2, by rw [← h2.len2]; exact q⟩
def ListP {α : Type} (G : Gp α) (e : TypeId) (v : Value) (xs : List α) : SProp := fun m => ∃ css, Sat [OwnP (Rp.cells G.rp.k) e v css, EachP G.own css xs] m
theorem ListP.arr {α : Type} {G : Gp α} {e : TypeId} {v : Value} {xs : List α} {m : Fr} : ListP G e v xs m → Arr G.rp m v xs := by
 rintro ⟨css, h1, h2, _, s1, s2, ⟨ds, p, q⟩, h3, _, _, t, _, y, _⟩
 have hd := all2_cells p
 have hy := EachP.all2 (R := fun cs a => G.rp.rel m cs a) (k := m) (fun b a m' z s => G.rp.mono s (G.rel z)) y (Fr.sub_trans t s2)
 refine ⟨css, hy, ?_⟩
 rw [← hy.len2]
 subst hd
 exact (q.sl).mono s1
def Gp.pure {α : Type} (T : Rp α) : Gp α := { rp := T, own := fun cs a _ => T.rel Fr.emp cs a, rel := fun h => T.mono (Fr.emp_sub _) h }
def Gp.row {α : Type} (T : Rp α) (e : TypeId) : Gp (List α) := { rp := Rp.slice T, own := fun cs xs m => ∃ v, cs = [v] ∧ OwnP T e v xs m, rel := fun ⟨v, h, x⟩ => ⟨v, h, x.arr⟩ }
def Gp.list {α : Type} (G : Gp α) (e : TypeId) : Gp (List α) := { rp := Rp.slice G.rp, own := fun cs xs m => ∃ v, cs = [v] ∧ ListP G e v xs m, rel := fun ⟨v, h, x⟩ => ⟨v, h, x.arr⟩ }
def Gp.prod {α β : Type} (A : Gp α) (B : Gp β) : Gp (α × β) :=
 {rp := Rp.prod A.rp B.rp, own := fun cs x m => ∃ c d, cs = c ++ d ∧ Sat [A.own c x.1, B.own d x.2] m
  rel := fun ⟨c, d, h, z⟩ => by
   obtain ⟨h1, h2, _, s1, s2, p, q⟩ := Sat.two.1 z
   obtain ⟨h3, t, u⟩ := q
   exact ⟨c, d, h, A.rp.mono s1 (A.rel p), B.rp.mono (Fr.sub_trans t s2) (B.rel u)⟩ }
def Gp.unit : Gp Unit := { rp := Rp.unit, own := fun cs _ _ => cs = [], rel := fun h => h }
theorem Gp.own_pure_prod {α β : Type} {T : Rp α} {B : Gp β} {c d : List Value} {x : α} {y : β} {m : Fr} (h : T.rel Fr.emp c x) (h2 : B.own d y m) : (Gp.prod (Gp.pure T) B).own (c ++ d) (x, y) m :=
 ⟨c, d, rfl, Fr.emp, m, Fr.emp_disj _, Fr.emp_sub _, Fr.sub_refl _, h, m, Fr.emp, Fr.disj_symm (Fr.emp_disj _), Fr.sub_refl _, Fr.emp_sub _, h2, trivial⟩
section
variable {ro : Option Nat} {P : Program} {fn : Func} {n : Nat} {R : Ending → World → Prop} {k : List Item} {σ : List (Nat × Value)} {D : List Deferred} {g : Gr} {η ζ θ : List SProp} {ops : Array Oper} {L : List Nat} {todo : List Item}
 {α : Type} {G : Gp α} {e : TypeId} {v : Value} {xs : List α}
theorem sat_listNil {m : Fr} (h : Sat η m) : Sat (ListP G e (.slice none 0 0) [] :: η) m := by
 refine ⟨Fr.emp, m, Fr.emp_disj _, Fr.emp_sub _, Fr.sub_refl _, ⟨[], Fr.emp, Fr.emp, Fr.emp_disj _, Fr.emp_sub _, Fr.emp_sub _, ?_, Fr.emp, Fr.emp, Fr.emp_disj _, Fr.emp_sub _, Fr.emp_sub _, trivial, trivial⟩, h⟩
 exact ownP_nil _
theorem S.listNil (G : Gp α) (e : TypeId) (h : S ro P fn n R todo σ D g (ListP G e (.slice none 0 0) [] :: η)) : S ro P fn n R todo σ D g η := S.imp' (fun _ => sat_listNil) h
theorem S.listOpen {k' : Nat} (hk : G.rp.k = k') (s : Sel η (ListP G e v xs) ζ) (h : ∀ css, css.length = xs.length → S ro P fn n R todo σ D g (OwnP (Rp.cells k') e v css :: EachP G.own css xs :: ζ)) : S ro P fn n R todo σ D g η := by
 subst hk
 exact S.sel s (S.exi (A := fun css m => Sat [OwnP (Rp.cells G.rp.k) e v css, EachP G.own css xs] m) fun css =>
  S.entail (fun _ x => x) (S.factS (B := EachP G.own css xs) (.there .here) (p := css.length = xs.length) (fun _ x => x.len) fun hl => h css hl))
theorem sat_list {k' : Nat} (hk : G.rp.k = k') {css : List (List Value)} (s1 : Sel η (OwnP (Rp.cells k') e v css) ζ) (s2 : Sel ζ (EachP G.own css xs) θ) {m : Fr} (h : Sat η m) : Sat (ListP G e v xs :: θ) m := by
 subst hk
 exact Sat.join2 (A := OwnP (Rp.cells G.rp.k) e v css) (B := EachP G.own css xs) (fun _ x => ⟨css, x⟩) (Sat.cons_imp (fun _ y => y) (fun _ y => Sat.perm s2.perm y) (Sat.perm s1.perm h))
theorem S.listShut {k' : Nat} (hk : G.rp.k = k') {css : List (List Value)} (s1 : Sel η (OwnP (Rp.cells k') e v css) ζ) (s2 : Sel ζ (EachP G.own css xs) θ) (h : S ro P fn n R todo σ D g (ListP G e v xs :: θ)) : S ro P fn n R todo σ D g η :=
 S.imp' (fun _ => sat_list hk s1 s2) h
theorem S.listPut {k' : Nat} (hk : G.rp.k = k') {css : List (List Value)} {cs : List Value} {a : α} {η₁ η₂ : List SProp} (s1 : Sel η (OwnP (Rp.cells k') e v (css ++ [cs])) ζ) (s2 : Sel ζ (EachP G.own css xs) η₁) (s3 : Sel η₁ (G.own cs a) η₂) (h : S ro P fn n R todo σ D g (ListP G e v (xs ++ [a]) :: η₂)) : S ro P fn n R todo σ D g η :=
 S.sel s1 (S.each (.there s2) (.there s3) (S.listShut hk (.there .here) .here h))
theorem S.frzG {T : Rp α} (hT : G.rp = T) (s : Sel η (ListP G e v xs) ζ) (h : ∀ g' : Gr, g.h.sub g'.h → (∀ w ζ, Holds w g' ζ → Holds w g ζ) → Arr T g'.h v xs → S ro P fn n R todo σ D g' ζ) : S ro P fn n R todo σ D g η :=
 S.frz s fun g' h1 h2 ⟨_, h3, h4⟩ => h g' h1 h2 (hT ▸ h3.arr.mono h4)
end
theorem Con.post {P : Program} {f : FuncId} {args : Array Value} {r : Fr} {η : List SProp} {Post Post' : Ending → List SProp → Prop} (h : Con P f args r η Post) (hp : ∀ e η', Post e η' → ∀ w g, Holds w g η' → ∃ η'', Post' e η'' ∧ Holds w g η'') : Con P f args r η Post' :=
 fun g hr w hw => (h g hr w hw).mono fun e w' ⟨η', x, y⟩ => hp e η' x w' g y
theorem Ret.imp {K K' : Value → List SProp → Prop} (h : ∀ v η, K v η → K' v η) : ∀ e η, Ret K e η → Ret K' e η
 | .returned v, η, x => h v η x
 | .panicked _, _, x => x.elim
 | .outgrown, _, x => x.elim
theorem Holds.exi {w : World} {g : Gr} {ζ : List SProp} {α : Type} {A : α → SProp} (h : Holds w g ((fun m => ∃ x, A x m) :: ζ)) : ∃ x, Holds w g (A x :: ζ) := by
 obtain ⟨p, q, rr, k, d, s1, s2, k1, k2, kd, t1, t2, ⟨x, hx⟩, y⟩ := h
 exact ⟨x, p, q, rr, k, d, s1, s2, k1, k2, kd, t1, t2, hx, y⟩
end Go.Sp
end
section
/- Texts of this proof, one behind the other. -/
section
/- Texts of this proof. -/
namespace Go.Sp
section marks
variable {α : Type} (f : Int → Int → α)
def mkL (k n : Nat) : List α := (List.range n).map fun (i : Nat) => f (k : Int) (i : Int)
@[simp] theorem mkL_length (k n : Nat) : (mkL f k n).length = n := by simp [mkL]
def mkX (k n i : Nat) : List α := (List.range i).map fun (q : Nat) => f (k : Int) ((n : Int) + (q : Int))
@[simp] theorem mkX_length (k n i : Nat) : (mkX f k n i).length = i := by simp [mkX]
def mkM (j n i : Nat) : List α := (List.range i).map fun (q : Nat) => f ((j : Int) + (n : Int)) (q : Int)
@[simp] theorem mkM_length (j n i : Nat) : (mkM f j n i).length = i := by simp [mkM]
def mkAll (ns : List Nat) (k : Nat) : List (List α) := (List.range k).map fun j => mkL f j (ns[j]?.getD 0)
@[simp] theorem mkAll_length (ns : List Nat) (k : Nat) : (mkAll f ns k).length = k := by simp [mkAll]
end marks
section
variable {ro : Option Nat} {P : Program} {fn : Func} {n : Nat} {R : Ending → World → Prop} {todo : List Item} {σ : List (Nat × Value)} {D : List Deferred} {g : Gr} {η ζ θ ξ : List SProp} {α : Type} {T : Rp α} {K : Nat} {e : TypeId} {v u : Value} {xs ys : List α}
end
end Go.Sp
end
section
/- Texts of this proof. -/
namespace Go.Sp
theorem Rp.rel.mono {α : Type} {T : Rp α} {h k : Fr} {cs : List Value} {x : α} (r : T.rel h cs x) (s : h.sub k) : T.rel k cs x := T.mono s r
def mks {α : Type} (f : Int → α) (n : Nat) : List α := (List.range n).map fun (i : Nat) => f (i : Int)
@[simp] theorem mks_length {α : Type} (f : Int → α) (n : Nat) : (mks f n).length = n := by simp [mks]
end Go.Sp
end
end
end
