/- Texts of this proof, one behind the other. -/
import Derived.Test.YtodhbhanmdfdeaaGreatQSpTwo
import Derived.Test.YtodhbhanmdfdeaaGreatQSpOwn
import Derived.Lib.ConvBytes
import Derived.Test.YtodhbhanmdfdeaaGreatQSpOpen
import Derived.Laws.Strings2
section
/- Texts of this proof, one behind the other. -/
section
/- Texts of this proof, one behind the other. -/
section
/- Texts of this proof. -/
namespace Go.Sp
theorem EachP.len {β α : Type} {A : β → α → SProp} : ∀ {bs : List β} {as : List α} {h : Fr}, EachP A bs as h → bs.length = as.length
 | [], [], _, _ => rfl
 | [], _ :: _, _, h => h.elim
 | _ :: _, [], _, h => h.elim
 | _ :: _, _ :: _, _, h => by
  have h' : Sat [_, EachP _ _ _] _ := h
  obtain ⟨_, _, _, _, _, _, _, _, _, _, _, q, _⟩ := h'
  simp [EachP.len q]
theorem EachP.at {β α : Type} {A : β → α → SProp} : ∀ {bs : List β} {as : List α} (k : Nat) (hb : k < bs.length) (ha : k < as.length) {h : Fr}, EachP A bs as h → Sat [A bs[k] as[k], EachP A (bs.eraseIdx k) (as.eraseIdx k)] h
 | _ :: _, _ :: _, 0, _, _, _, h => h
 | b :: bs, a :: as, k + 1, hb, ha, m, h => by
  have h' : Sat [A b a, EachP A bs as] m := h
  obtain ⟨k1, k2, kd, t1, t2, p, k3, k4, kd', u1, u2, q, _⟩ := h'
  obtain ⟨n1, n2, nd, v1, v2, x, n3, n4, nd', w1, w2, y, _⟩ := EachP.at k (by simpa using hb) (by simpa using ha) q
  refine ⟨n1, k1.add n2, ?_, Fr.sub_trans v1 (Fr.sub_trans u1 t2), Fr.add_sub t1 (Fr.sub_trans v2 (Fr.sub_trans u1 t2)), x, k1.add n2, Fr.emp, Fr.disj_symm (Fr.emp_disj _), Fr.sub_refl _, Fr.emp_sub _, ?_, trivial⟩
  ·exact Fr.disj_add_right (Fr.disj_symm (Fr.disj_sub kd (Fr.sub_refl _) (Fr.sub_trans v1 u1))) nd
  ·show Sat [A b a, EachP A (bs.eraseIdx k) (as.eraseIdx k)] _
   have d : k1.disj n2 := Fr.disj_sub kd (Fr.sub_refl _) (Fr.sub_trans v2 u1)
   exact ⟨k1, n2, d, Fr.sub_add_left _ _, Fr.sub_add_right d, p, n3, Fr.emp, Fr.disj_symm (Fr.emp_disj _), w1, Fr.emp_sub _, y, trivial⟩
theorem EachP.put {β α : Type} {A : β → α → SProp} {a' : α} : ∀ {bs : List β} {as : List α} (k : Nat) (hb : k < bs.length) (_ : k < as.length) {h : Fr}, Sat [A bs[k] a', EachP A (bs.eraseIdx k) (as.eraseIdx k)] h → EachP A bs (as.set k a') h
 | _ :: _, _ :: _, 0, _, _, _, h => h
 | b :: bs, a :: as, k + 1, hb, ha, m, h => by
  obtain ⟨n1, n2, nd, v1, v2, x, n3, n4, nd', w1, w2, y, _⟩ := h
  have y' : Sat [A b a, EachP A (bs.eraseIdx k) (as.eraseIdx k)] n3 := y
  obtain ⟨k1, k2, kd, t1, t2, p, k3, k4, kd', u1, u2, q, _⟩ := y'
  show Sat [A b a, EachP A bs (as.set k a')] m
  have d1 : k1.disj n1 := Fr.disj_symm (Fr.disj_sub nd (Fr.sub_refl _) (Fr.sub_trans t1 w1))
  have d2 : n1.disj k3 := Fr.disj_sub nd (Fr.sub_refl _) (Fr.sub_trans u1 (Fr.sub_trans t2 w1))
  refine ⟨k1, n1.add k3, Fr.disj_add_right d1 (Fr.disj_sub kd (Fr.sub_refl _) u1), Fr.sub_trans t1 (Fr.sub_trans w1 v2), Fr.add_sub v1 (Fr.sub_trans u1 (Fr.sub_trans t2 (Fr.sub_trans w1 v2))), p, n1.add k3, Fr.emp, Fr.disj_symm (Fr.emp_disj _), Fr.sub_refl _, Fr.emp_sub _, ?_, trivial⟩
  exact EachP.put k (by simpa using hb) (by simpa using ha) ⟨n1, k3, d2, Fr.sub_add_left _ _, Fr.sub_add_right d2, x, k3, Fr.emp, Fr.disj_symm (Fr.emp_disj _), Fr.sub_refl _, Fr.emp_sub _, q, trivial⟩
theorem Sat.two_append {A B : SProp} {θ : List SProp} {m h1 h2 : Fr} (x : Sat [A, B] h1) (y : Sat θ h2) (d : h1.disj h2) (s1 : h1.sub m) (s2 : h2.sub m) : Sat (A :: B :: θ) m :=
 Sat.mono (Fr.add_sub s1 s2) (Sat.append (η := [A, B]) (ζ := θ) d x y)
theorem Sat.join2 {A B C : SProp} {θ : List SProp} (hs : ∀ m, Sat [A, B] m → C m) : ∀ {m : Fr}, Sat (A :: B :: θ) m → Sat (C :: θ) m := by
 rintro m ⟨h1, h2, d, s1, s2, x, k1, k2, kd, t1, t2, y, z⟩
 refine ⟨h1.add k1, k2, Fr.disj_add (Fr.disj_sub d (Fr.sub_refl _) t2) kd, Fr.add_sub s1 (Fr.sub_trans t1 s2), Fr.sub_trans t2 s2, hs _ ?_, z⟩
 have d2 : h1.disj k1 := Fr.disj_sub d (Fr.sub_refl _) t1
 exact ⟨h1, k1, d2, Fr.sub_add_left _ _, Fr.sub_add_right d2, x, k1, Fr.emp, Fr.disj_symm (Fr.emp_disj _), Fr.sub_refl _, Fr.emp_sub _, y, trivial⟩
theorem Sat.part2 {A B C : SProp} {θ : List SProp} (hs : ∀ m, C m → Sat [A, B] m) : ∀ {m : Fr}, Sat (C :: θ) m → Sat (A :: B :: θ) m := by
 rintro m ⟨h1, h2, d, s1, s2, x, y⟩
 exact Sat.two_append (hs _ x) y d s1 s2
section
variable {ro : Option Nat} {P : Program} {fn : Func} {n : Nat} {R : Ending → World → Prop} {k : List Item} {σ : List (Nat × Value)} {D : List Deferred} {g : Gr} {η ζ θ : List SProp} {ops : Array Oper} {L : List Nat} {β α : Type} {A : β → α → SProp} {todo : List Item}
theorem S.eachAt {bs : List β} {as : List α} (j : Nat) (hb : j < bs.length) (ha : j < as.length) (s : Sel η (EachP A bs as) ζ) (h : S ro P fn n R todo σ D g (A bs[j] as[j] :: EachP A (bs.eraseIdx j) (as.eraseIdx j) :: ζ)) : S ro P fn n R todo σ D g η :=
 S.sel s (S.imp' (η := EachP A bs as :: ζ) (fun _ => Sat.part2 fun _ x => EachP.at j hb ha x) h)
theorem S.eachPut {bs : List β} {as : List α} {a' : α} (j : Nat) (hb : j < bs.length) (ha : j < as.length) (s1 : Sel η (A bs[j] a') ζ) (s2 : Sel ζ (EachP A (bs.eraseIdx j) (as.eraseIdx j)) θ) (h : S ro P fn n R todo σ D g (EachP A bs (as.set j a') :: θ)) : S ro P fn n R todo σ D g η :=
 S.sel s1 (S.imp' (η := A bs[j] a' :: ζ) (fun _ x => Sat.join2 (fun _ y => EachP.put j hb ha y) (Sat.cons_imp (fun _ y => y) (fun _ y => Sat.perm s2.perm y) x)) h)
theorem S.eachPop {b : β} {a : α} {bs : List β} {as : List α} (s : Sel η (EachP A (b :: bs) (a :: as)) ζ) (h : S ro P fn n R todo σ D g (A b a :: EachP A bs as :: ζ)) : S ro P fn n R todo σ D g η :=
 S.sel s (S.imp' (η := EachP A (b :: bs) (a :: as) :: ζ) (fun _ => Sat.part2 fun _ x => x) h)
theorem S.conv {B C : SProp} (s : Sel η B ζ) (hc : ∀ m, B m → ∃ h : Fr, h.sub m ∧ C h) (h : S ro P fn n R todo σ D g (C :: ζ)) : S ro P fn n R todo σ D g η :=
 S.sel s (S.imp' (η := B :: ζ) (ζ := C :: ζ) (fun _ ⟨_, h2, d, s1, s2, x, y⟩ => let ⟨h3, u, z⟩ := hc _ x; ⟨h3, h2, Fr.disj_sub d u (Fr.sub_refl _), Fr.sub_trans u s1, s2, z, y⟩) h)
theorem S.twoStart {T : Rp α} {e : TypeId} {v : Value} {xs : List α} (s : Sel η (OwnP T e v xs) ζ) (h : S ro P fn n R todo σ D g (Two T e v xs v [] :: ζ)) : S ro P fn n R todo σ D g η := S.conv s (fun m x => ⟨m, Fr.sub_refl _, Two.start x⟩) h
theorem S.factS {B : SProp} {p : Prop} (s : Sel η B ζ) (hs : ∀ m, B m → p) (h : p → S ro P fn n R todo σ D g η) : S ro P fn n R todo σ D g η :=
 fun a w hf hd hw => by
  obtain ⟨_, _, _, _, _, _, _, _, _, _, _, _, hB, _⟩ := hw.sel s
  exact h (hs _ hB) a w hf hd hw
end
end Go.Sp
end
section
/- Texts of this proof. -/
namespace Go.Sp
def u64 (n : Int) : Nat := (n % 18446744073709551616).toNat
def beAt (n : Int) (i : Nat) : UInt8 := UInt8.ofNat (u64 n / 256 ^ i)
def be (n : Int) : List UInt8 := [beAt n 7, beAt n 6, beAt n 5, beAt n 4, beAt n 3, beAt n 2, beAt n 1, beAt n 0]
@[simp] theorem be_length (n : Int) : (be n).length = 8 := rfl
theorem u64_lt (n : Int) : u64 n < 18446744073709551616 := by unfold u64; omega
theorem wrap_u64_eq (n : Int) : IntKind.u64.wrap n = (u64 n : Int) := by
 have : IntKind.u64.wrap n = n % 18446744073709551616 := by simp [IntKind.wrap, IntKind.bits, IntKind.signed]
 rw [this]; unfold u64; omega
theorem wrap_u8_eq (n : Int) : IntKind.u8.wrap n = n % 256 := by simp [IntKind.wrap, IntKind.bits, IntKind.signed]
theorem shift_byte (n : Int) (i : Nat) (h : i < 8) (z : Int) (hz : z = 8 * (i : Int)) : IntKind.u8.wrap ((IntKind.u64.wrap n).fdiv (2 ^ min z.toNat IntKind.u64.bits)) = ((beAt n i).toNat : Int) := by
 subst hz
 have e1 : min (8 * (i : Int)).toNat IntKind.u64.bits = 8 * i := by simp [IntKind.bits]; omega
 rw [e1, wrap_u64_eq, wrap_u8_eq]
 have e2 : ((2 : Int) ^ (8 * i)) = ((256 ^ i : Nat) : Int) := by
  rw [Int.pow_mul, Int.natCast_pow]; rfl
 rw [e2]
 have e3 : ((u64 n : Nat) : Int).fdiv ((256 ^ i : Nat) : Int) = ((u64 n / 256 ^ i : Nat) : Int) := by
  rw [Int.fdiv_eq_ediv_of_nonneg _ (Int.natCast_nonneg _)]; rfl
 rw [e3]
 unfold beAt
 have : (UInt8.ofNat (u64 n / 256 ^ i)).toNat = u64 n / 256 ^ i % 256 := by simp
 rw [this]; omega
def beVal (xs : List UInt8) : Nat := xs.foldl (fun n c => n * 256 + c.toNat) 0
def s64 (n : Nat) : Int := if n < 9223372036854775808 then n else n - 18446744073709551616
theorem beVal_be (n : Int) : beVal (be n) = u64 n := by
 have h := u64_lt n
 simp only [beVal, be, List.foldl_cons, List.foldl_nil, beAt, UInt8.toNat_ofNat']
 generalize u64 n = k at h ⊢
 simp only [show (256:Nat)^7 = 72057594037927936 from rfl, show (256:Nat)^6 = 281474976710656 from rfl, show (256:Nat)^5 = 1099511627776 from rfl, show (256:Nat)^4 = 4294967296 from rfl, show (256:Nat)^3 = 16777216 from rfl, show (256:Nat)^2 = 65536 from rfl, show (256:Nat)^1 = 256 from rfl, show (256:Nat)^0 = 1 from rfl]
 omega
theorem s64_be (n : Int) (h : InI64 n) : s64 (beVal (be n)) = n := by
 rw [beVal_be]; unfold s64 u64; unfold InI64 at h; split <;> omega
def bytesOf (xs : List UInt8) : List UInt8 := be xs.length ++ xs
@[simp] theorem bytesOf_length (xs : List UInt8) : (bytesOf xs).length = 8 + xs.length := by simp [bytesOf]
end Go.Sp
end
end
section
/- Texts of this proof. -/
namespace Go.Sp
section
variable {ro : Option Nat} {P : Program} {fn : Func} {n : Nat} {R : Ending → World → Prop} {k : List Item} {σ : List (Nat × Value)} {D : List Deferred} {g : Gr} {η ζ θ : List SProp} {ops : Array Oper} {L l : List Nat} {i d : Nat} {t e : TypeId} {x y z : Operand} {α : Type} {T : Rp α}
theorem S.unroll {c : Code} (h : S ro P fn n R (.code c :: .inLoop c :: k) σ D g η) : S ro P fn n R (.code (.loop c) :: k) σ D g η :=
 S.loop (fun _ : Unit => True) (fun _ => σ) (fun _ => η) (fun _ => 0) () trivial Sub.refl rfl fun _ _ _ => h
theorem Arr.cut {h : Fr} {a : Option Addr} {c m : Nat} {xs ys : List α} (hm : m = xs.length) (x : Arr T h (.slice a (xs.length + ys.length) c) (xs ++ ys)) : Arr T h (.slice a m c) xs := by
 subst hm
 obtain ⟨css, ha, a', cap, hv, h1, h2, h3, h4⟩ := x
 injection hv with e1 e2 e3; subst e1 e3
 have hl : css.length = xs.length + ys.length := by rw [ha.length]; simp
 have ht := ha.take xs.length
 rw [List.take_left' rfl] at ht
 have he : (css.take xs.length).flatten = css.flatten.take (xs.length * T.k) := (ha.flat_take _).symm
 refine ⟨css.take xs.length, ht, a, c, rfl, by rw [List.length_append] at h1; omega, ⟨h2.1, h2.2⟩, ?_, ?_⟩
 ·rw [he, List.length_take, h3, List.length_append]; exact Nat.min_eq_left (Nat.mul_le_mul_right _ (by omega))
 ·intro j hj
  have hj' : j < css.flatten.length := by rw [he, List.length_take] at hj; omega
  obtain ⟨p, hp, hc⟩ := h4 j hj'
  refine ⟨p, hp, ?_⟩
  rw [hc]; simp [he]
theorem Does.sliceTo0 {kb : IntKind} {a : Option Addr} {m c q : Nat} {zb : Int} (ht : P.underlying t = some (.slice e)) (he : (P.info? e).map (·.size) = some T.k) (hx : ev σ x = some (.slice a m c)) (hy : ev σ y = some (.int kb zb)) (hz : zb = (q : Int)) (hq : q ≤ c) :
  Does P (.slice t x none (some y) none) σ g η (.slice a q c) η :=
 fun o ρ w ho hk hw => ⟨w, by
  subst hz
  cases a <;> simp [execOp, ho, hk x _ hx, hk y _ hy, Instr.sliceAt, run_underlying ht, Instr.slice, Instr.sliceBounds, Instr.sliceBound, asIntOf, hq, run_sizeOf he, Addr.add], hw⟩
theorem O.slice0 {kb : IntKind} {a : Option Addr} {m c q : Nat} {zb : Int} (T : Rp α) (ho : Fires ops i n σ d (.slice t x none (some y) none)) (ht : P.underlying t = some (.slice e)) (he : (P.info? e).map (·.size) = some T.k) (hx : ev σ x = some (.slice a m c)) (hy : ev σ y = some (.int kb zb)) (hz : zb = (q : Int)) (hq : q ≤ c)
  (h : O ro P fn n R ops l k ((d, .slice a q c) :: σ) D g η) : O ro P fn n R ops (i :: l) k σ D g η := O.op ho (Does.sliceTo0 (T := T) ht he hx hy hz hq) h
theorem Arr.room {h : Fr} {a : Option Addr} {c m : Nat} {xs : List α} (x : Arr T h (.slice a m c) xs) : m = xs.length ∧ m ≤ c := by
 obtain ⟨_, _, a', cap, hv, h1, _⟩ := x
 cases hv; exact ⟨rfl, h1⟩
theorem OwnP.room {h : Fr} {a : Option Addr} {c m : Nat} {xs : List α} (x : OwnP T e (.slice a m c) xs h) : m = xs.length ∧ m ≤ c := x.arr.room
theorem Sel.app {η ζ θ : List SProp} {A : SProp} (s : Sel η A ζ) : Sel (η ++ θ) A (ζ ++ θ) := by
 induction s with
 | here => exact .here
 | there _ ih => exact .there ih
theorem ODg.litP {fl : Bool} {by_ len : Nat} {z : List Value} {parts : Array (Nat × Operand)} {vs : List Value} {ys : List α} (ho : Fires ops i n σ d (.buildSlice t len parts)) (hd : hdOk fl ops i l = true) (ht : P.underlying t = some (.slice e)) (he : elemIs P e T.k by_ z) (hk : 0 < T.k)
  (hp : partsOf σ parts.toList 0 = some vs) (hlen : parts.toList.length = len) (hvs : All2 (T.rel Fr.emp) (vs.map (·.cells.toList)) ys) (h24 : len * T.k ≤ 16777216)
  (h : ∀ a c, OD P fn n R ops k D g l ((d, .slice a len c) :: σ) (OwnP T e (.slice a len c) ys :: η)) : ODx P fn n R ops k D g fl (i :: l) σ η :=
 ODg.loudE (K := fun v η' => ∃ a c, v = .slice a len c ∧ η' = OwnP T e v ys :: η) ho rfl hd (fun _ => (DoesE.litP ht he hk hp hlen hvs h24).imp fun _ _ ⟨a, c, h1, h2⟩ => ⟨_, ⟨a, c, h1, rfl⟩, h2⟩)
  fun _ _ ⟨a, c, h1, h2⟩ => by subst h1; subst h2; exact h a c
theorem OD.litP {by_ len : Nat} {z : List Value} {parts : Array (Nat × Operand)} {vs : List Value} {ys : List α} (ho : Fires ops i n σ d (.buildSlice t len parts)) (hd : descOk ops [i] l = true) (ht : P.underlying t = some (.slice e)) (he : elemIs P e T.k by_ z) (hk : 0 < T.k) (hp : partsOf σ parts.toList 0 = some vs) (hlen : parts.toList.length = len) (hvs : All2 (T.rel Fr.emp) (vs.map (·.cells.toList)) ys) (h24 : len * T.k ≤ 16777216) (h : ∀ a c, OD P fn n R ops k D g l ((d, .slice a len c) :: σ) (OwnP T e (.slice a len c) ys :: η)) : OD P fn n R ops k D g (i :: l) σ η := ODg.litP (fl := false) ho (by simpa [hdOk] using hd) ht he hk hp hlen hvs h24 h
theorem ODt.litP {by_ len : Nat} {z : List Value} {parts : Array (Nat × Operand)} {vs : List Value} {ys : List α} (ho : Fires ops i n σ d (.buildSlice t len parts)) (_ : true = true) (ht : P.underlying t = some (.slice e)) (he : elemIs P e T.k by_ z) (hk : 0 < T.k) (hp : partsOf σ parts.toList 0 = some vs) (hlen : parts.toList.length = len) (hvs : All2 (T.rel Fr.emp) (vs.map (·.cells.toList)) ys) (h24 : len * T.k ≤ 16777216) (h : ∀ a c, OD P fn n R ops k D g l ((d, .slice a len c) :: σ) (OwnP T e (.slice a len c) ys :: η)) : ODx P fn n R ops k D g true (i :: l) σ η := ODg.litP (fl := true) ho rfl ht he hk hp hlen hvs h24 h
theorem ODg.appendO {fl : Bool} {by_ : Nat} {z : List Value} {v u : Value} {xs ys : List α} (ho : Fires ops i n σ d (.call ⟨.builtin .append, #[x, y], #[t, t]⟩)) (hd : hdOk fl ops i l = true) (ht : P.underlying t = some (.slice e)) (he : elemIs P e T.k by_ z) (hk : 0 < T.k) (hx : ev σ x = some v) (hy : ev σ y = some u)
  (hl : Sel η (OwnP T e u ys) θ) (hs : Sel θ (OwnP T e v xs) ζ) (hb : (xs.length + ys.length) * by_ ≤ 140737488355328) (h63 : xs.length + ys.length ≤ 9223372036854775807)
  (h : ∀ a c, OD P fn n R ops k D g l ((d, .slice a (xs.length + ys.length) c) :: σ) (OwnP T e (.slice a (xs.length + ys.length) c) (xs ++ ys) :: ζ)) : ODx P fn n R ops k D g fl (i :: l) σ η :=
 ODg.loudE (K := fun v' η' => ∃ a c, v' = .slice a (xs.length + ys.length) c ∧ η' = OwnP T e v' (xs ++ ys) :: ζ) ho rfl hd (fun _ => (DoesE.appendO ht he hk hx hy hl.app hs.app hb h63).imp fun _ _ ⟨a, c, h1, h2⟩ => ⟨_, ⟨a, c, h1, rfl⟩, h2⟩)
  fun _ _ ⟨a, c, h1, h2⟩ => by subst h1; subst h2; exact h a c
theorem OD.appendO {by_ : Nat} {z : List Value} {v u : Value} {xs ys : List α} (ho : Fires ops i n σ d (.call ⟨.builtin .append, #[x, y], #[t, t]⟩)) (hd : descOk ops [i] l = true) (ht : P.underlying t = some (.slice e)) (he : elemIs P e T.k by_ z) (hk : 0 < T.k) (hx : ev σ x = some v) (hy : ev σ y = some u) (hl : Sel η (OwnP T e u ys) θ) (hs : Sel θ (OwnP T e v xs) ζ) (hb : (xs.length + ys.length) * by_ ≤ 140737488355328) (h63 : xs.length + ys.length ≤ 9223372036854775807) (h : ∀ a c, OD P fn n R ops k D g l ((d, .slice a (xs.length + ys.length) c) :: σ) (OwnP T e (.slice a (xs.length + ys.length) c) (xs ++ ys) :: ζ)) : OD P fn n R ops k D g (i :: l) σ η := ODg.appendO (fl := false) ho (by simpa [hdOk] using hd) ht he hk hx hy hl hs hb h63 h
theorem ODg.appendP {fl : Bool} {by_ : Nat} {z : List Value} {v u : Value} {xs ys : List α} (ho : Fires ops i n σ d (.call ⟨.builtin .append, #[x, y], #[t, t]⟩)) (hd : hdOk fl ops i l = true) (hT : T.Pure) (ht : P.underlying t = some (.slice e)) (he : elemIs P e T.k by_ z) (hk : 0 < T.k) (hx : ev σ x = some v) (hy : ev σ y = some u)
  (hs : Sel η (OwnP T e v xs) ζ) (hu : Arr T g.h u ys) (hb : (xs.length + ys.length) * by_ ≤ 140737488355328) (h63 : xs.length + ys.length ≤ 9223372036854775807)
  (h : ∀ a c, OD P fn n R ops k D g l ((d, .slice a (xs.length + ys.length) c) :: σ) (OwnP T e (.slice a (xs.length + ys.length) c) (xs ++ ys) :: ζ)) : ODx P fn n R ops k D g fl (i :: l) σ η :=
 ODg.loudE (K := fun v' η' => ∃ a c, v' = .slice a (xs.length + ys.length) c ∧ η' = OwnP T e v' (xs ++ ys) :: ζ) ho rfl hd (fun _ => (DoesE.appendP hT ht he hk hx hy hs.app hu hb h63).imp fun _ _ ⟨a, c, h1, h2⟩ => ⟨_, ⟨a, c, h1, rfl⟩, h2⟩)
  fun _ _ ⟨a, c, h1, h2⟩ => by subst h1; subst h2; exact h a c
theorem OD.appendP {by_ : Nat} {z : List Value} {v u : Value} {xs ys : List α} (ho : Fires ops i n σ d (.call ⟨.builtin .append, #[x, y], #[t, t]⟩)) (hd : descOk ops [i] l = true) (hT : T.Pure) (ht : P.underlying t = some (.slice e)) (he : elemIs P e T.k by_ z) (hk : 0 < T.k) (hx : ev σ x = some v) (hy : ev σ y = some u) (hs : Sel η (OwnP T e v xs) ζ) (hu : Arr T g.h u ys) (hb : (xs.length + ys.length) * by_ ≤ 140737488355328) (h63 : xs.length + ys.length ≤ 9223372036854775807) (h : ∀ a c, OD P fn n R ops k D g l ((d, .slice a (xs.length + ys.length) c) :: σ) (OwnP T e (.slice a (xs.length + ys.length) c) (xs ++ ys) :: ζ)) : OD P fn n R ops k D g (i :: l) σ η := ODg.appendP (fl := false) ho (by simpa [hdOk] using hd) hT ht he hk hx hy hs hu hb h63 h
theorem ODg.idxOwn {v : Value} {xs : List α} {j : Nat} {kd : IntKind} (ho : Fires ops i n σ d (.indexAddr t x y)) {fl : Bool} (hd : hdOk fl ops i l = true) (ht : P.underlying t = some (.slice e)) (he : (P.info? e).map (·.size) = some T.k) (hx : ev σ x = some v) {zi : Int} (hy : ev σ y = some (.int kd zi)) (hzi : zi = (j : Int))
  (hs : Sel η (OwnP T e v xs) ζ) (hj : j < xs.length) (h : ∀ p, PtrIn v T.k j p → OD P fn n R ops k D g l ((d, .pointer (some p)) :: σ) η) : ODx P fn n R ops k D g fl (i :: l) σ η :=
 ODx.perm hs.perm (ODg.loudE (η := OwnP T e v xs :: ζ) (K := fun u η' => ∃ p, u = .pointer (some p) ∧ PtrIn v T.k j p ∧ η' = OwnP T e v xs :: ζ) ho rfl hd
  (fun _ => (DoesE.idxOwn ht he hx hy hzi Sel.here hj).imp fun _ _ ⟨p, a, b, c⟩ => ⟨_, ⟨p, a, b, rfl⟩, c⟩) fun _ _ ⟨p, a, b, c⟩ => by subst a; subst c; exact ODx.perm hs.perm.symm (h p b))
theorem OD.idxOwn {v : Value} {xs : List α} {j : Nat} {kd : IntKind} (ho : Fires ops i n σ d (.indexAddr t x y)) (hd : descOk ops [i] l = true) (ht : P.underlying t = some (.slice e)) (he : (P.info? e).map (·.size) = some T.k) (hx : ev σ x = some v) {zi : Int} (hy : ev σ y = some (.int kd zi)) (hzi : zi = (j : Int)) (hs : Sel η (OwnP T e v xs) ζ) (hj : j < xs.length) (h : ∀ p, PtrIn v T.k j p → OD P fn n R ops k D g l ((d, .pointer (some p)) :: σ) η) : OD P fn n R ops k D g (i :: l) σ η := ODg.idxOwn (fl := false) ho (by simpa [hdOk] using hd) ht he hx hy hzi hs hj h
theorem ODg.storeOwn {v u : Value} {xs : List α} {j q : Nat} {p : Addr} {a : α} (ho : opAtU ops q = some (.store t x y)) {fl : Bool} (hd : hdOk fl ops q l = true) (hsz : (P.info? t).map (·.size) = some T.k) (hx : ev σ x = some (.pointer (some p))) (hp : PtrIn v T.k j p) (hy : ev σ y = some u)
  (hs : Sel η (OwnP T e v xs) ζ) (hj : j < xs.length) (hu : T.rel Fr.emp u.cells.toList a) (h : OD P fn n R ops k D g l σ (OwnP T e v (xs.set j a) :: ζ)) : ODx P fn n R ops k D g fl (q :: l) σ η :=
 ODx.perm hs.perm (ODg.loudU (η := OwnP T e v xs :: ζ) (η' := OwnP T e v (xs.set j a) :: ζ) ho rfl hd (fun _ => .storeOwn hsz hx hp hy Sel.here hj hu) h)
theorem OD.storeOwn {v u : Value} {xs : List α} {j q : Nat} {p : Addr} {a : α} (ho : opAtU ops q = some (.store t x y)) (hd : descOk ops [q] l = true) (hsz : (P.info? t).map (·.size) = some T.k) (hx : ev σ x = some (.pointer (some p))) (hp : PtrIn v T.k j p) (hy : ev σ y = some u) (hs : Sel η (OwnP T e v xs) ζ) (hj : j < xs.length) (hu : T.rel Fr.emp u.cells.toList a) (h : OD P fn n R ops k D g l σ (OwnP T e v (xs.set j a) :: ζ)) : OD P fn n R ops k D g (q :: l) σ η := ODg.storeOwn (fl := false) ho (by simpa [hdOk] using hd) hsz hx hp hy hs hj hu h
theorem S.frzT {todo : List Item} {B : SProp} (s : Sel η B ζ) (h : ∀ g' : Gr, g.h.sub g'.h → (∃ m : Fr, B m ∧ m.sub g'.h) →
   (∀ {todo : List Item} {σ : List (Nat × Value)} {θ : List SProp}, S ro P fn n R todo σ D g (B :: θ) → S ro P fn n R todo σ D g' θ) → S ro P fn n R todo σ D g' ζ) : S ro P fn n R todo σ D g η :=
 S.sel s (S.freeze fun m hm hd => h (g.add m) (Fr.sub_add_left _ _) ⟨m, hm, Fr.sub_add_right hd⟩ fun x => S.thaw hm hd x)
theorem OD.slot {v v' : Value} (q : Nat) (hl : look σ q = some v) (h0 : v = v') (h : OD P fn n R ops k D g L ((q, v') :: σ) η) : OD P fn n R ops k D g L σ η := OD.weaken h (Sub.consE hl h0 Sub.refl)
end
theorem u8_inj {a b : UInt8} (h : (a.toNat : Int) = b.toNat) : a = b := UInt8.toNat_inj.mp (by omega)
theorem u8_toNat {a b : UInt8} (h : a = b) : (a.toNat : Int) = b.toNat := by rw [h]
end Go.Sp
end
end
section
/- Texts of this proof, one behind the other. -/
section
/- Texts of this proof, one behind the other. -/
section
/- Texts of this proof. -/
namespace Go.Sp
structure Gp (α : Type) where
 rp : Rp α
 own : List Value → α → SProp
 rel : ∀ {cs : List Value} {a : α} {m : Fr}, own cs a m → rp.rel m cs a
theorem All2.len2 {α β : Type} {R : β → α → Prop} : ∀ {bs : List β} {as : List α}, All2 R bs as → bs.length = as.length
 | [], [], _ => rfl
 | [], _ :: _, h => h.elim
 | _ :: _, [], h => h.elim
 | _ :: _, _ :: _, h => congrArg Nat.succ (All2.len2 h.2)
theorem all2_cells {k : Nat} {h : Fr} : ∀ {cs : List (List Value)} {ds : List (List Value)}, All2 ((Rp.cells k).rel h) cs ds → cs = ds
 | [], [], _ => rfl
 | [], _ :: _, h => h.elim
 | _ :: _, [], h => h.elim
 | _ :: _, _ :: _, h => by rw [h.1.1, all2_cells h.2]
theorem Arr.ofCells {α : Type} {T : Rp α} {k : Nat} {h : Fr} {v : Value} {css : List (List Value)} {xs : List α} (h1 : Arr (Rp.cells k) h v css) (h2 : All2 (T.rel h) css xs) (hk : k = T.k) : Arr T h v xs := by
 obtain ⟨ds, p, q⟩ := h1
 obtain rfl := all2_cells p
 subst hk
 exact ⟨ds, h2, by rw [← h2.len2]; exact q⟩
section
variable {ro : Option Nat} {P : Program} {fn : Func} {n : Nat} {R : Ending → World → Prop} {k : List Item} {σ : List (Nat × Value)} {D : List Deferred} {g : Gr} {η ζ θ : List SProp} {ops : Array Oper} {L : List Nat} {todo : List Item}
 {α : Type} {G : Gp α} {e : TypeId} {v : Value} {xs : List α}
end
theorem Con.post {P : Program} {f : FuncId} {args : Array Value} {r : Fr} {η : List SProp} {Post Post' : Ending → List SProp → Prop} (h : Con P f args r η Post) (hp : ∀ e η', Post e η' → ∀ w g, Holds w g η' → ∃ η'', Post' e η'' ∧ Holds w g η'') : Con P f args r η Post' :=
 fun g hr w hw => (h g hr w hw).mono fun e w' ⟨η', x, y⟩ => hp e η' x w' g y
end Go.Sp
end
section
/- Texts of this proof. -/
namespace Go.Sp
def RdW {α : Type} (T : Rp α) (cs : List Value) (a : α) : SProp := fun m => T.rel m cs a
section marks
variable {α : Type} (f : Int → Int → α)
def mkL (k n : Nat) : List α := (List.range n).map fun (i : Nat) => f (k : Int) (i : Int)
@[simp] theorem mkL_length (k n : Nat) : (mkL f k n).length = n := by simp [mkL]
def mkX (k n i : Nat) : List α := (List.range i).map fun (q : Nat) => f (k : Int) ((n : Int) + (q : Int))
@[simp] theorem mkX_length (k n i : Nat) : (mkX f k n i).length = i := by simp [mkX]
def mkM (j n i : Nat) : List α := (List.range i).map fun (q : Nat) => f ((j : Int) + (n : Int)) (q : Int)
@[simp] theorem mkM_length (j n i : Nat) : (mkM f j n i).length = i := by simp [mkM]
def mkAll (ns : List Nat) (k : Nat) : List (List α) := (List.range k).map fun j => mkL f j (ns[j]?.getD 0)
@[simp] theorem mkAll_length (ns : List Nat) (k : Nat) : (mkAll f ns k).length = k := by simp [mkAll]
end marks
section
variable {ro : Option Nat} {P : Program} {fn : Func} {n : Nat} {R : Ending → World → Prop} {todo : List Item} {σ : List (Nat × Value)} {D : List Deferred} {g : Gr} {η ζ θ ξ : List SProp} {α : Type} {T : Rp α} {K : Nat} {e : TypeId} {v u : Value} {xs ys : List α}
end
end Go.Sp
end
end
section
/- Texts of this proof. -/
namespace Go.Sp
theorem Rp.rel.mono {α : Type} {T : Rp α} {h k : Fr} {cs : List Value} {x : α} (r : T.rel h cs x) (s : h.sub k) : T.rel k cs x := T.mono s r
def mks {α : Type} (f : Int → α) (n : Nat) : List α := (List.range n).map fun (i : Nat) => f (i : Int)
@[simp] theorem mks_length {α : Type} (f : Int → α) (n : Nat) : (mks f n).length = n := by simp [mks]
theorem mks_succ {α : Type} (f : Int → α) (n : Nat) : mks f n ++ [f (n : Int)] = mks f (n + 1) := by simp [mks, List.range_succ]
theorem mks_get {α : Type} (f : Int → α) (n i : Nat) (h : i < (mks f n).length) : (mks f n)[i] = f (i : Int) := by simp [mks]
structure Lp (α : Type) where
 rp : Rp α
 own : List Value → α → SProp
 rd : Fr → List Value → α → Prop
 read : ∀ {cs : List Value} {a : α} {m : Fr}, own cs a m → rd m cs a
 mono : ∀ {h k : Fr} {cs : List Value} {a : α}, h.sub k → rd h cs a → rd k cs a
 rel : ∀ {h : Fr} {cs : List Value} {a : α}, rd h cs a → rp.rel h cs a
def Lp.pure {α : Type} (T : Rp α) : Lp α := { rp := T, own := fun cs a _ => T.rel Fr.emp cs a, rd := fun _ cs a => T.rel Fr.emp cs a, read := fun h => h, mono := fun _ h => h, rel := fun h => T.mono (Fr.emp_sub _) h }
def Lp.unit : Lp Unit := { rp := Rp.unit, own := fun cs _ _ => cs = [], rd := fun _ cs _ => cs = [], read := fun h => h, mono := fun _ h => h, rel := fun h => h }
def Lp.prod {α β : Type} (A : Lp α) (B : Lp β) : Lp (α × β) :=
 {rp := Rp.prod A.rp B.rp, own := fun cs x m => ∃ c d, cs = c ++ d ∧ Sat [A.own c x.1, B.own d x.2] m
  rd := fun h cs x => ∃ c d, cs = c ++ d ∧ A.rd h c x.1 ∧ B.rd h d x.2
  read := fun ⟨c, d, h, z⟩ => by
   obtain ⟨h1, h2, _, s1, s2, p, q⟩ := Sat.two.1 z
   obtain ⟨h3, t, u⟩ := q
   exact ⟨c, d, h, A.mono s1 (A.read p), B.mono (Fr.sub_trans t s2) (B.read u)⟩
  mono := fun s ⟨c, d, h, x, y⟩ => ⟨c, d, h, A.mono s x, B.mono s y⟩
  rel := fun ⟨c, d, h, x, y⟩ => ⟨c, d, h, A.rel x, B.rel y⟩ }
def LentQ {α : Type} (T : Rp α) (e : TypeId) (f : Int → α) (v : Value) (xs : List α) : SProp := fun h => ∃ a c, xs.length + 12 ≤ c ∧ v = .slice a xs.length c ∧ OwnP T e (.slice a (xs.length + 12) c) (xs ++ mks f 12) h
def LentQA {α : Type} (T : Rp α) (f : Int → α) (h : Fr) (v : Value) (xs : List α) : Prop := ∃ a c, xs.length + 12 ≤ c ∧ v = .slice a xs.length c ∧ Arr T h (.slice a (xs.length + 12) c) (xs ++ mks f 12)
theorem LentQ.read {α : Type} {T : Rp α} {e : TypeId} {f : Int → α} {v : Value} {xs : List α} {h : Fr} : LentQ T e f v xs h → LentQA T f h v xs
 | ⟨a, c, h1, h2, h3⟩ => ⟨a, c, h1, h2, h3.arr⟩
theorem LentQA.mono {α : Type} {T : Rp α} {f : Int → α} {v : Value} {xs : List α} {h k : Fr} (s : h.sub k) : LentQA T f h v xs → LentQA T f k v xs
 | ⟨a, c, h1, h2, h3⟩ => ⟨a, c, h1, h2, h3.mono s⟩
theorem LentQA.arr {α : Type} {T : Rp α} {f : Int → α} {v : Value} {xs : List α} {h : Fr} : LentQA T f h v xs → Arr T h v xs
 | ⟨a, c, h1, h2, h3⟩ => by subst h2; exact Arr.cut (ys := mks f 12) rfl (by simpa using h3)
def Lp.flat {α : Type} (T : Rp α) (e : TypeId) (f : Int → α) : Lp (List α) :=
 {rp := Rp.slice T, own := fun cs xs m => ∃ v, cs = [v] ∧ LentQ T e f v xs m, rd := fun h cs xs => ∃ v, cs = [v] ∧ LentQA T f h v xs
  read := fun ⟨v, h, x⟩ => ⟨v, h, x.read⟩, mono := fun s ⟨v, h, x⟩ => ⟨v, h, x.mono s⟩, rel := fun ⟨v, h, x⟩ => ⟨v, h, x.arr⟩ }
def LentL {α : Type} (L : Lp α) (e : TypeId) (f : Int → α) (v : Value) (xs : List α) : SProp := fun m => ∃ a c css dss, v = .slice a xs.length c ∧ xs.length + 12 ≤ c ∧ css.length = xs.length ∧ dss.length = 12 ∧
 Sat [OwnP (Rp.cells L.rp.k) e (.slice a (xs.length + 12) c) (css ++ dss), EachP L.own css xs, EachP (RdW L.rp) dss (mks f 12)] m
def LentLA {α : Type} (L : Lp α) (f : Int → α) (h : Fr) (v : Value) (xs : List α) : Prop := ∃ a c css dss, v = .slice a xs.length c ∧ xs.length + 12 ≤ c ∧ Arr (Rp.cells L.rp.k) h (.slice a (xs.length + 12) c) (css ++ dss) ∧ All2 (L.rd h) css xs ∧ All2 (L.rp.rel h) dss (mks f 12)
theorem LentL.read {α : Type} {L : Lp α} {e : TypeId} {f : Int → α} {v : Value} {xs : List α} {m : Fr} : LentL L e f v xs m → LentLA L f m v xs
 | ⟨a, c, css, dss, h1, h2, h3, h4, x⟩ => by
  obtain ⟨m1, k1, _, s1, t1, y1, m2, k2, _, s2, t2, y2, m3, k3, _, s3, _, y3, _⟩ := x
  exact ⟨a, c, css, dss, h1, h2, y1.arr.mono s1, EachP.all2 (fun _ _ _ z q => L.mono q (L.read z)) y2 (Fr.sub_trans s2 t1),
   EachP.all2 (fun _ _ _ z q => L.rp.mono q z) y3 (Fr.sub_trans s3 (Fr.sub_trans t2 t1))⟩
theorem LentLA.mono {α : Type} {L : Lp α} {f : Int → α} {v : Value} {xs : List α} {h k : Fr} (s : h.sub k) : LentLA L f h v xs → LentLA L f k v xs
 | ⟨a, c, css, dss, h1, h2, h3, h4, h5⟩ => ⟨a, c, css, dss, h1, h2, h3.mono s, h4.imp fun _ _ => L.mono s, h5.imp fun _ _ => L.rp.mono s⟩
theorem LentLA.arr {α : Type} {L : Lp α} {f : Int → α} {v : Value} {xs : List α} {h : Fr} : LentLA L f h v xs → Arr L.rp h v xs
 | ⟨a, c, css, dss, h1, h2, h3, h4, h5⟩ => by
  subst h1
  have hl := h4.len2
  have hd := h5.len2.trans (mks_length f 12)
  exact Arr.ofCells (css := css) (k := L.rp.k) (Arr.cut (ys := dss) hl.symm (by rw [hl, hd]; exact h3)) (h4.imp fun _ _ => L.rel) rfl
def Lp.list {α : Type} (L : Lp α) (e : TypeId) (f : Int → α) : Lp (List α) :=
 {rp := Rp.slice L.rp, own := fun cs xs m => ∃ v, cs = [v] ∧ LentL L e f v xs m, rd := fun h cs xs => ∃ v, cs = [v] ∧ LentLA L f h v xs
  read := fun ⟨v, h, x⟩ => ⟨v, h, x.read⟩, mono := fun s ⟨v, h, x⟩ => ⟨v, h, x.mono s⟩, rel := fun ⟨v, h, x⟩ => ⟨v, h, x.arr⟩ }
theorem Lp.own_pure_prod {α β : Type} {T : Rp α} {B : Lp β} {c d : List Value} {x : α} {y : β} {m : Fr} (h : T.rel Fr.emp c x) (h2 : B.own d y m) : (Lp.prod (Lp.pure T) B).own (c ++ d) (x, y) m :=
 ⟨c, d, rfl, Fr.emp, m, Fr.emp_disj _, Fr.emp_sub _, Fr.sub_refl _, h, m, Fr.emp, Fr.disj_symm (Fr.emp_disj _), Fr.sub_refl _, Fr.emp_sub _, h2, trivial⟩
theorem sat_first {A : SProp} {ws : List SProp} {C : SProp} {m : Fr} (h : Sat (A :: ws) m) (hC : ∀ k, Sat ws k → C k) : Sat [A, C] m := by
 obtain ⟨h1, h2, d, s1, s2, x, y⟩ := h
 exact ⟨h1, h2, d, s1, s2, x, h2, Fr.emp, Fr.disj_symm (Fr.emp_disj _), Fr.sub_refl _, Fr.emp_sub _, hC _ y, trivial⟩
theorem Lp.own2 {α β : Type} {A : Lp α} {B : Lp β} {c d : List Value} {x : α × β × Unit} {m : Fr} (h : Sat [A.own c x.1, B.own d x.2.1] m) : (Lp.prod A (Lp.prod B Lp.unit)).own (c ++ d) x m :=
 ⟨c, d, rfl, sat_first h fun _ hk => ⟨d, [], (List.append_nil d).symm, sat_first hk fun _ _ => rfl⟩⟩
theorem Lp.rd2 {α β : Type} {A : Lp α} {B : Lp β} {cs : List Value} {x : α × β × Unit} {h : Fr} (r : (Lp.prod A (Lp.prod B Lp.unit)).rd h cs x) : ∃ c d, cs = c ++ d ∧ A.rd h c x.1 ∧ B.rd h d x.2.1 := by
 obtain ⟨c, d, rfl, h1, c2, d2, rfl, h2, rfl⟩ := r
 exact ⟨c, c2, by rw [List.append_nil], h1, h2⟩
theorem EachP.pureR {α : Type} {T : Rp α} : ∀ {bs : List (List Value)} {as : List α} {m : Fr}, All2 (T.rel Fr.emp) bs as → EachP (RdW T) bs as m
 | [], [], _, _ => trivial
 | _ :: _, _ :: _, m, ⟨h, t⟩ => ⟨Fr.emp, m, Fr.emp_disj _, Fr.emp_sub _, Fr.sub_refl _, h, m, Fr.emp, Fr.disj_symm (Fr.emp_disj _), Fr.sub_refl _, Fr.emp_sub _, EachP.pureR t, trivial⟩
theorem sat_snoc2 {A B C : SProp} {m : Fr} (h : Sat [A, B] m) (hC : C Fr.emp) : Sat [A, B, C] m := by
 obtain ⟨h1, h2, d, s1, s2, x, h3, h4, d2, t1, t2, y, _⟩ := h
 exact ⟨h1, h2, d, s1, s2, x, h3, Fr.emp, Fr.disj_symm (Fr.emp_disj _), t1, Fr.emp_sub _, y, Fr.emp, Fr.emp, Fr.emp_disj _, Fr.sub_refl _, Fr.sub_refl _, hC, trivial⟩
theorem LentL.fold {α : Type} {L : Lp α} {e : TypeId} {f : Int → α} {a : Option Addr} {c : Nat} {xs : List α} {css dss : List (List Value)} {m : Fr} (hr : xs.length + 12 ≤ c) (hc : css.length = xs.length) (hd : All2 (L.rp.rel Fr.emp) dss (mks f 12))
  (h : Sat [OwnP (Rp.cells L.rp.k) e (.slice a (xs.length + 12) c) (css ++ dss), EachP L.own css xs] m) : LentL L e f (.slice a xs.length c) xs m :=
 ⟨a, c, css, dss, rfl, hr, hc, hd.len2.trans (mks_length f 12), sat_snoc2 h (EachP.pureR hd)⟩
theorem All2.at2 {α β : Type} {R : α → β → Prop} : ∀ {xs : List α} {ys : List β} (_ : All2 R xs ys) (i : Nat) (hx : i < xs.length) (hy : i < ys.length), R xs[i] ys[i]
 | _ :: _, _ :: _, ⟨h, _⟩, 0, _, _ => h
 | _ :: _, _ :: _, ⟨_, t⟩, i + 1, hx, hy => All2.at2 t i (Nat.lt_of_succ_lt_succ hx) (Nat.lt_of_succ_lt_succ hy)
end Go.Sp
end
end
