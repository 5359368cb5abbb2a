/- Texts of this proof, one behind the other. -/
import Derived.Test.YtodhbhanmdfdeaaGreatQSpAuto
import Derived.Test.YtodhbhanmdfdeaaGreatQSpSib
import Derived.Test.YtodhbhanmdfdeaaGreatQSpImg
section
/- Texts of this proof, one behind the other. -/
section
/- Texts of this proof. -/
namespace Go.Sp
variable {K : Type} [DecidableEq K] {enc : K → Value}
abbrev KEnt (K : Type) := K × Value × Nat
section
variable {ro : Option Nat} {P : Program} {fn : Func} {n : Nat} {R : Ending → World → Prop} {k : List Item} {σ : List (Nat × Value)} {D : List Deferred} {g : Gr} {η ζ θ : List SProp} {ops : Array Oper} {i d : Nat} {ls : List Nat}
 {t tk te : TypeId} {x y z : Operand} {b c : Nat} {l : List (KEnt K)} {key : K} {w : World}
omit [DecidableEq K] in
omit [DecidableEq K] in
omit [DecidableEq K] in
omit [DecidableEq K] in
omit [DecidableEq K] in
omit [DecidableEq K] in
omit [DecidableEq K] in
omit [DecidableEq K] in
end
def enc2 (a : Int × Int) : Value := .agg #[.int .i64 a.1, .int .i64 a.2]
theorem run_part_int {P : Program} {ti : TypeId} (hi : P.underlying ti = some (.int .i64)) (cs : Array Value) (off : Nat) (v : Value) (hv : cs[off]? = some v) (w : World) : (part ti cs off).run P w = .ok v w := by
 simp [part, isAgg, run_underlying hi, hv]
theorem enc2_at (a : Int × Int) : (#[Value.int .i64 a.1, .int .i64 a.2] : Array Value)[0]? = some (.int .i64 a.1) ∧ (#[Value.int .i64 a.1, .int .i64 a.2] : Array Value)[1]? = some (.int .i64 a.2) := ⟨rfl, rfl⟩
omit [DecidableEq K] in
omit [DecidableEq K] in
section
variable {ro : Option Nat} {P : Program} {fn : Func} {n : Nat} {R : Ending → World → Prop} {k : List Item} {σ : List (Nat × Value)} {D : List Deferred} {g : Gr} {η ζ θ : List SProp} {ops : Array Oper} {i d : Nat} {ls : List Nat}
 {t tk te : TypeId} {x y z : Operand} {b c c' : Nat} {l : List (KEnt K)} {key : K} {w : World} {v zv : Value}
end
end Go.Sp
end
section
/- Texts of this proof. -/
namespace Go.Sp
theorem run_equalDot {P : Program} {t ti : TypeId} {f0 f1 : Field} (ht : P.underlying t = some (.struct #[f0, f1])) (hi : P.underlying ti = some (.int .i64)) (h0 : f0.type = ti) (h1 : f1.type = ti) (o0 : f0.offset = 0) (o1 : f1.offset = 1) (n0 : f0.name ≠ "_") (n1 : f1.name ≠ "_") (hh : P.stoodInHeld t = false)
  (a b : Int × Int) (w : World) : (Op.equal t (enc2 a) (enc2 b)).run P w = .ok (decide (a = b)) w := by
 have hpa0 := fun w => run_part_int hi _ 0 _ (enc2_at a).1 w
 have hpa1 := fun w => run_part_int hi _ 1 _ (enc2_at a).2 w
 have hpb0 := fun w => run_part_int hi _ 0 _ (enc2_at b).1 w
 have hpb1 := fun w => run_part_int hi _ 1 _ (enc2_at b).2 w
 have heq : ∀ (x y : Int) (w : World), (Op.equalIn 9999 ti (.int .i64 x) (.int .i64 y)).run P w = .ok (x == y) w := fun x y w => by
  show (Op.equalIn (9998 + 1) ti (.int .i64 x) (.int .i64 y)).run P w = _
  unfold Op.equalIn
  simp [run_underlying hi]
 show (Op.equalIn (9999 + 1) t (enc2 a) (enc2 b)).run P w = _
 unfold Op.equalIn enc2
 simp only [Sem.run_bind, run_underlying ht, Result.andThen]
 obtain ⟨a1, a2⟩ := a
 obtain ⟨b1, b2⟩ := b
 simp only at hpa0 hpa1 hpb0 hpb1
 by_cases c1 : a1 = b1
 ·by_cases c2 : a2 = b2
  ·subst c1; subst c2
   simp [hh, h0, h1, o0, o1, n0, n1, hpa0, hpa1, heq]
  ·subst c1
   have : (a2 == b2) = false := by simpa using c2
   simp [hh, h0, h1, o0, o1, n0, n1, hpa0, hpa1, hpb0, hpb1, heq, c2]
 ·have : (a1 == b1) = false := by simpa using c1
  simp [hh, h0, h1, o0, o1, n0, n1, hpa0, hpb0, heq, c1]
section
variable {P : Program} {σ : List (Nat × Value)} {g : Gr} {η : List SProp} {t ti u : TypeId} {x y : Operand} {a b c d : Int} {f0 f1 : Field}
theorem Does.eqlDot (ht : P.underlying t = some (.struct #[f0, f1])) (hi : P.underlying ti = some (.int .i64)) (h0 : f0.type = ti) (h1 : f1.type = ti) (o0 : f0.offset = 0) (o1 : f1.offset = 1) (n0 : f0.name ≠ "_") (n1 : f1.name ≠ "_") (hh : P.stoodInHeld t = false) (hgd : P.eqGuardType P.depth t = false)
  (hx : ev σ x = some (.agg #[.int .i64 a, .int .i64 b])) (hy : ev σ y = some (.agg #[.int .i64 c, .int .i64 d])) : Does P (.binOp .eql t x y u) σ g η (.bool (decide ((a, b) = (c, d)))) η := .run fun o ρ w ho hk => by
 have h := run_equalDot ht hi h0 h1 o0 o1 n0 n1 hh (a, b) (c, d) w
 simp only [enc2] at h
 simp [execOp, ho, hk x _ hx, hk y _ hy, eqGuard, Go.binOp, h, hgd]
theorem Does.neqDot (ht : P.underlying t = some (.struct #[f0, f1])) (hi : P.underlying ti = some (.int .i64)) (h0 : f0.type = ti) (h1 : f1.type = ti) (o0 : f0.offset = 0) (o1 : f1.offset = 1) (n0 : f0.name ≠ "_") (n1 : f1.name ≠ "_") (hh : P.stoodInHeld t = false) (hgd : P.eqGuardType P.depth t = false)
  (hx : ev σ x = some (.agg #[.int .i64 a, .int .i64 b])) (hy : ev σ y = some (.agg #[.int .i64 c, .int .i64 d])) : Does P (.binOp .neq t x y u) σ g η (.bool (decide ((a, b) ≠ (c, d)))) η := .run fun o ρ w ho hk => by
 have h := run_equalDot ht hi h0 h1 o0 o1 n0 n1 hh (a, b) (c, d) w
 simp only [enc2] at h
 simp [execOp, ho, hk x _ hx, hk y _ hy, eqGuard, Go.binOp, h, hgd]
end
theorem take_same {α : Type} {xs ys : List α} {i : Nat} (hi : i < xs.length) (hi2 : i < ys.length) (h : xs.take i = ys.take i) (e : xs[i] = ys[i]) : xs.take (i + 1) = ys.take (i + 1) := by
 rw [List.take_succ_eq_append_getElem hi, List.take_succ_eq_append_getElem hi2, h, e]
theorem not_same {α : Type} {xs ys : List α} {i : Nat} (hi : i < xs.length) (hi2 : i < ys.length) (e : ¬ xs[i] = ys[i]) : ¬ xs = ys := fun h => e (by subst h; rfl)
theorem str_eqL {a b : List UInt8} (h : (str a).toList = (str b).toList) : a = b := by simpa using h
set_option synthInstance.maxSize 2000
set_option synthInstance.maxHeartbeats 400000
instance decDot : DecidableEq DotT := inferInstance
instance decRec : DecidableEq RecT := inferInstance
instance decLeaf : DecidableEq LeafT := inferInstance
instance decStub : DecidableEq StubT := inferInstance
instance decNode : DecidableEq NodeT := inferInstance
instance decPrf : DecidableEq PrfT := inferInstance
instance decRoot : DecidableEq RootT := inferInstance
instance decEvd : DecidableEq EvdT := inferInstance
instance decHeld : DecidableEq HeldT := inferInstance
end Go.Sp
end
end
section
/- Texts of this proof. -/
namespace Go.Sp
theorem over_dot {x y : RecT} (h : over y x = true) : cmpR x y ≠ 0 := fun e => by
 rw [cmpR_eq] at e
 unfold over at h
 simp only [Bool.and_eq_true] at h
 have h1 := (shaped_iff.1 h.2.1).2.2.2.2.1
 have h2 := h.2.2.2
 rw [e, h1] at h2
 cases h2
theorem over_self (x : RecT) : over x x = false := by
 cases h : over x x with
 | false => rfl
 | true => exact absurd (cmpR_eq.2 rfl) (over_dot h)
theorem underR_eq (l : List RecT) (x : RecT) : underR l x = l.any fun y => over y x := by
 unfold underR
 congr 1
 funext y
 cases h : over y x with
 | false => simp
 | true => simp [over_dot h]
theorem SRight_iff {l : List RecT} : SRight l ↔ oneK l = true ∧ ∀ j (h : j < l.length), (∀ h0 : 0 < j, cmpR l[j-1] l[j] < 0) ∧ ∀ k (hk : k < l.length), over l[j] l[k] = false := by
 unfold SRight
 refine and_congr_right fun _ => ⟨fun q j h => ⟨(q j h).1, fun k hk => ?_⟩, fun q j h => ⟨(q j h).1, ?_⟩⟩
 ·have h1 := (q k hk).2
  rw [underR_eq, List.any_eq_false] at h1
  simpa using h1 l[j] (List.getElem_mem h)
 ·rw [underR_eq, List.any_eq_false]
  intro y hy
  obtain ⟨i, hi, rfl⟩ := List.mem_iff_getElem.1 hy
  simp [(q i hi).2 j h]
theorem oneK_step {l : List RecT} {i : Nat} (h : i < l.length) (o : oneK (l.take i) = true) : oneK (l.take (i + 1)) = true ↔ recOk l[i] = true ∧ l[i].1 = (l[0]'(by omega)).1 := by
 rw [List.take_succ_eq_append_getElem h, oneK_snoc o]
 refine and_congr_right fun _ => ⟨fun q => ?_, fun q h0 => ?_⟩
 ·by_cases h0 : i = 0
  ·subst h0; rfl
  ·have := q (by rw [List.length_take]; omega)
   rw [List.getElem_take] at this
   exact this
 ·rw [List.getElem_take]; exact q
theorem oneK_none {l : List RecT} {i : Nat} (h : oneK (l.take i) = false) : oneK l = false := by
 cases e : oneK l with
 | false => rfl
 | true => rw [oneK_take i e] at h; cases h
theorem lt_at : ∀ {xs ys : List UInt8} {i : Nat} (hi : i < xs.length) (hi2 : i < ys.length), xs.take i = ys.take i → xs[i] ≠ ys[i] → (xs < ys ↔ xs[i].toNat < ys[i].toNat)
 | a :: xs, b :: ys, 0, _, _, _, hne => by
  simp only [List.getElem_cons_zero] at hne ⊢
  rw [List.cons_lt_cons_iff, ← UInt8.lt_iff_toNat_lt]
  exact ⟨fun h => h.elim id fun q => absurd q.1 hne, .inl⟩
 | a :: xs, b :: ys, i + 1, hi, hi2, h, hne => by
  simp only [List.take_succ_cons, List.cons.injEq] at h
  obtain ⟨rfl, h⟩ := h
  rw [List.cons_lt_cons_iff]
  have ih := lt_at (Nat.lt_of_succ_lt_succ hi) (Nat.lt_of_succ_lt_succ hi2) h (by simpa using hne)
  simp only [List.getElem_cons_succ]
  rw [← ih]
  exact ⟨fun q => q.elim (fun q => absurd q (UInt8.lt_irrefl a)) fun q => q.2, fun q => .inr ⟨by trivial, q⟩⟩
theorem lt_step {n k : Nat} {P : ∀ j, j < n → Prop} (h : ∀ j (hj : j < n), j < k → P j hj) (hk : ∀ hk : k < n, P k hk) : ∀ j (hj : j < n), j < k + 1 → P j hj := fun j hj q => by
 rcases Nat.lt_or_ge j k with q1 | q1
 ·exact h j hj q1
 ·have : j = k := by omega
  subst this; exact hk hj
end Go.Sp
end
