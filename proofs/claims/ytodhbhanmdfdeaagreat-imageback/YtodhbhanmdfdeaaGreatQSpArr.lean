/- Texts of this proof. -/
import Derived.Test.YtodhbhanmdfdeaaGreatQSpDraw
namespace Go.Sp
def All2 {α β : Type} (R : β → α → Prop) : List β → List α → Prop
 | [], [] => True
 | b :: bs, a :: as => R b a ∧ All2 R bs as
 | _, _ => False
theorem All2.imp {α β : Type} {R S : β → α → Prop} (h : ∀ b a, R b a → S b a) : ∀ {bs : List β} {as : List α}, All2 R bs as → All2 S bs as
 | [], [], _ => trivial
 | _ :: _, _ :: _, ⟨x, y⟩ => ⟨h _ _ x, All2.imp h y⟩
theorem All2.length {α β : Type} {R : β → α → Prop} : ∀ {bs : List β} {as : List α}, All2 R bs as → bs.length = as.length
 | [], [], _ => rfl
 | _ :: _, _ :: _, ⟨_, y⟩ => by simp [All2.length y]
theorem All2.get {α β : Type} {R : β → α → Prop} : ∀ {bs : List β} {as : List α} (_ : All2 R bs as) (i : Nat) (hb : i < bs.length) (ha : i < as.length), R bs[i] as[i]
 | _ :: _, _ :: _, ⟨x, _⟩, 0, _, _ => x
 | _ :: _, _ :: _, ⟨_, y⟩, i + 1, hb, ha => All2.get y i (by simpa using hb) (by simpa using ha)
theorem All2.append {α β : Type} {R : β → α → Prop} : ∀ {bs cs : List β} {as ds : List α}, All2 R bs as → All2 R cs ds → All2 R (bs ++ cs) (as ++ ds)
 | [], _, [], _, _, h => h
 | _ :: _, _, _ :: _, _, ⟨x, y⟩, h => ⟨x, All2.append y h⟩
theorem All2.drop {α β : Type} {R : β → α → Prop} : ∀ {bs : List β} {as : List α} (n : Nat), All2 R bs as → All2 R (bs.drop n) (as.drop n)
 | _, _, 0, h => h
 | [], [], _ + 1, _ => trivial
 | _ :: _, _ :: _, n + 1, ⟨_, y⟩ => All2.drop n y
theorem All2.take {α β : Type} {R : β → α → Prop} : ∀ {bs : List β} {as : List α} (n : Nat), All2 R bs as → All2 R (bs.take n) (as.take n)
 | _, _, 0, _ => trivial
 | [], [], _ + 1, _ => trivial
 | _ :: _, _ :: _, n + 1, ⟨x, y⟩ => ⟨x, All2.take n y⟩
structure Rp (α : Type) where
 k : Nat
 rel : Fr → List Value → α → Prop
 len : ∀ {h : Fr} {cs : List Value} {a : α}, rel h cs a → cs.length = k
 mono : ∀ {h h' : Fr} {cs : List Value} {a : α}, h.sub h' → rel h cs a → rel h' cs a
 one : ∀ {h : Fr} {cs : List Value} {a : α}, rel h cs a → ∀ c ∈ cs, c.oneCell' = true
def Arr {α : Type} (T : Rp α) (h : Fr) (v : Value) (xs : List α) : Prop := ∃ css : List (List Value), All2 (T.rel h) css xs ∧ Sl h v T.k xs.length css.flatten
section
variable {α : Type} {T : Rp α} {h : Fr} {v : Value} {xs : List α}
theorem Arr.mono {h' : Fr} (s : h.sub h') : Arr T h v xs → Arr T h' v xs
 | ⟨css, a, b⟩ => ⟨css, a.imp fun _ _ => T.mono s, b.mono s⟩
theorem Arr.shape : Arr T h v xs → ∃ a c, v = .slice a xs.length c
 | ⟨_, _, a, c, hv, _⟩ => ⟨a, c, hv⟩
theorem Arr.bound : Arr T h v xs → xs.length ≤ 9223372036854775807
 | ⟨_, _, b⟩ => b.bound
theorem All2.flat_take {css : List (List Value)} (ha : All2 (T.rel h) css xs) (i : Nat) : css.flatten.take (i * T.k) = (css.take i).flatten := by
 induction i generalizing css xs with
 | zero => simp
 | succ i ih =>
  cases css with
  | nil => simp
  | cons c css =>
   cases xs with
   | nil => exact ha.elim
   | cons x xs =>
    have hc : c.length = T.k := T.len ha.1
    simp only [List.flatten_cons, List.take_succ_cons]
    rw [Nat.succ_mul, List.take_append, List.take_of_length_le (by omega), show i * T.k + T.k - c.length = i * T.k from by omega, ih ha.2]
theorem All2.flat_drop {css : List (List Value)} (ha : All2 (T.rel h) css xs) (i : Nat) : css.flatten.drop (i * T.k) = (css.drop i).flatten := by
 induction i generalizing css xs with
 | zero => simp
 | succ i ih =>
  cases css with
  | nil => simp
  | cons c css =>
   cases xs with
   | nil => exact ha.elim
   | cons x xs =>
    have hc : c.length = T.k := T.len ha.1
    simp only [List.flatten_cons, List.drop_succ_cons]
    rw [Nat.succ_mul, List.drop_append, List.drop_eq_nil_of_le (by omega), List.nil_append, show i * T.k + T.k - c.length = i * T.k from by omega, ih ha.2]
theorem All2.flat_get {css : List (List Value)} (ha : All2 (T.rel h) css xs) (i : Nat) (hi : i < css.length) : (css.flatten.drop (i * T.k)).take T.k = css[i] := by
 rw [ha.flat_drop, List.drop_eq_getElem_cons hi, List.flatten_cons, List.take_append]
 have hc : css[i].length = T.k := T.len (ha.get i hi (by rw [← ha.length]; exact hi))
 rw [List.take_of_length_le (by omega), hc]; simp
end
section
variable {ro : Option Nat} {P : Program} {σ : List (Nat × Value)} {g : Gr} {η ζ : List SProp} {fn : Func} {n : Nat} {R : Ending → World → Prop} {K : List Item} {D : List Deferred} {ops : Array Oper} {i d : Nat} {l : List Nat}
 {t e : TypeId} {x y : Operand} {v : Value} {kd : IntKind} {j : Nat}
theorem idx_does {α : Type} {T : Rp α} {xs : List α} (ht : P.underlying t = some (.slice e)) (he : (P.info? e).map (·.size) = some T.k) (hx : ev σ x = some v) {zi : Int} (hy : ev σ y = some (.int kd zi)) (hzi : zi = (j : Int))
  (hs : Arr T g.h v xs) (hk0 : 0 < T.k) (hm : j < xs.length) : ∃ p cs, (∀ η, Does P (.indexAddr t x y) σ g η (.pointer (some p)) η) ∧ At g.h p cs ∧ T.rel g.h cs xs[j] := by
 subst hzi
 obtain ⟨css, ha, hsl⟩ := hs
 obtain ⟨a, cap, rfl, h1, h2, h3, h4⟩ := hsl
 cases a with
 | none =>
  have : 0 < css.flatten.length := by rw [h3]; exact Nat.mul_pos (by omega) hk0
  obtain ⟨p, hp, _⟩ := h4 0 this
  cases hp
 | some a =>
  have hj : j < css.length := by rw [ha.length]; exact hm
  refine ⟨a.add (j * T.k), css[j], fun η => .run fun o ρ w ho hk => ?_, ?_, ha.get j hj hm⟩
  ·have hij : (j : Int) < (xs.length : Int) := by omega
   simp [execOp, ho, hk x _ hx, hk y _ hy, Instr.indexAt, asIntOf, run_underlying ht, hm, run_sizeOf he]
  ·rw [← ha.flat_get j hj]
   intro q hq
   rw [Addr.add_add]
   have hq' : j * T.k + q < css.flatten.length := by simp only [List.length_take, List.length_drop] at hq; omega
   obtain ⟨p, hp, hc⟩ := h4 _ hq'
   cases hp
   rw [hc]; simp
theorem O.idx' {α : Type} {T : Rp α} {xs : List α} (ho : Fires ops i n σ d (.indexAddr t x y)) (ht : P.underlying t = some (.slice e)) (he : (P.info? e).map (·.size) = some T.k) (hx : ev σ x = some v)
  {zi : Int} (hy : ev σ y = some (.int kd zi)) (hzi : zi = (j : Int)) (hs : Arr T g.h v xs) (hk0 : 0 < T.k) (hm : j < xs.length)
  (h : ∀ p cs, At g.h p cs → T.rel g.h cs xs[j] → O ro P fn n R ops l K ((d, .pointer (some p)) :: σ) D g η) : O ro P fn n R ops (i :: l) K σ D g η := by
 obtain ⟨p, cs, h1, h2, h3⟩ := idx_does ht he hx hy hzi hs hk0 hm
 exact O.op ho (h1 η) (h p cs h2 h3)
theorem OD.idx' {α : Type} {T : Rp α} {xs : List α} (ho : Fires ops i n σ d (.indexAddr t x y)) (ht : P.underlying t = some (.slice e)) (he : (P.info? e).map (·.size) = some T.k) (hx : ev σ x = some v)
  {zi : Int} (hy : ev σ y = some (.int kd zi)) (hzi : zi = (j : Int)) (hs : Arr T g.h v xs) (hk0 : 0 < T.k) (hm : j < xs.length)
  (h : ∀ p cs, At g.h p cs → T.rel g.h cs xs[j] → OD P fn n R ops K D g l ((d, .pointer (some p)) :: σ) η) : OD P fn n R ops K D g (i :: l) σ η := by
 obtain ⟨p, cs, h1, h2, h3⟩ := idx_does ht he hx hy hzi hs hk0 hm
 exact .quiet ho rfl h1 (h p cs h2 h3)
theorem slice_does {α : Type} {T : Rp α} {xs : List α} {r : Fr} {lo hi : Option Operand} {a b : Nat} {kl kh : IntKind} (ht : P.underlying t = some (.slice e)) (he : (P.info? e).map (·.size) = some T.k) (hx : ev σ x = some v)
  (hlo : ∀ y, lo = some y → ev σ y = some (.int kl (a : Int))) (hlo' : lo = none → a = 0) (hhi : ∀ y, hi = some y → ev σ y = some (.int kh (b : Int))) (hhi' : hi = none → b = xs.length)
  (hs : Arr T r v xs) (hab : a ≤ b) (hb : b ≤ xs.length) : ∃ u, (∀ η, Does P (.slice t x lo hi none) σ g η u η) ∧ Arr T r u ((xs.take b).drop a) := by
 obtain ⟨css, ha, hsl⟩ := hs
 obtain ⟨ad, cap, rfl, h1, h2, h3, h4⟩ := hsl
 refine ⟨.slice (if cap = a then ad else ad.map (·.add (a * T.k))) (b - a) (cap - a), fun η => .run fun o ρ w ho hk => ?_, (css.take b).drop a, (ha.take b).drop a, ?_⟩
 ·have e1 : (a : Int) ≤ (b : Int) := by omega
  have e2 : (b : Int) ≤ (cap : Int) := by omega
  have hl0 : lo = none → a = 0 := hlo'
  cases lo with
  | none =>
   have := hlo' rfl; subst this
   cases hi with
   | none => have := hhi' rfl; subst this; simp [execOp, ho, hk x _ hx, Instr.sliceAt, run_underlying ht, Instr.slice, Instr.sliceBounds, run_sizeOf he]
   | some y =>
    have hb' : b ≤ cap := by omega
    simp [execOp, ho, hk x _ hx, hk y _ (hhi y rfl), Instr.sliceAt, run_underlying ht, Instr.slice, Instr.sliceBounds, Instr.sliceBound, asIntOf, hb', run_sizeOf he]
  | some z =>
   cases hi with
   | none => have := hhi' rfl; subst this; simp [execOp, ho, hk x _ hx, hk z _ (hlo z rfl), Instr.sliceAt, run_underlying ht, Instr.slice, Instr.sliceBounds, Instr.sliceBound, asIntOf, hab, run_sizeOf he]
   | some y =>
    have hb' : b ≤ cap := by omega
    simp [execOp, ho, hk x _ hx, hk z _ (hlo z rfl), hk y _ (hhi y rfl), Instr.sliceAt, run_underlying ht, Instr.slice, Instr.sliceBounds, Instr.sliceBound, asIntOf, hab, hb', run_sizeOf he]
 ·have hlen : ((xs.take b).drop a).length = b - a := by simp; omega
  have hcs : ((css.take b).drop a).flatten = (css.flatten.take (b * T.k)).drop (a * T.k) := by
   rw [ha.flat_take b, (ha.take b).flat_drop a]
  refine ⟨_, cap - a, by rw [hlen], by omega, ⟨by omega, fun h => ?_⟩, ?_, ?_⟩
  ·cases ad with
   | none => have := h2.2 rfl; omega
   | some ad => simp only [Option.map_some] at h; split at h <;> cases h
  ·rw [hcs, hlen, List.length_drop, List.length_take, h3, Nat.sub_mul, Nat.min_eq_left (Nat.mul_le_mul_right _ hb)]
  ·intro q hq
   rw [hcs] at hq
   have hq2 : a * T.k + q < css.flatten.length := by simp only [List.length_take, List.length_drop] at hq; omega
   obtain ⟨p, rfl, hc⟩ := h4 _ hq2
   have hne : cap ≠ a := by
    rintro rfl
    have : css.flatten.length ≤ cap * T.k := by rw [h3]; exact Nat.mul_le_mul_right _ (by omega)
    omega
   refine ⟨p.add (a * T.k), by simp [hne], ?_⟩
   rw [Addr.add_add, hc]
   simp [hcs]
end
section
variable {ro : Option Nat} {P : Program} {σ : List (Nat × Value)} {g : Gr} {η ζ : List SProp} {fn : Func} {n : Nat} {R : Ending → World → Prop} {K : List Item} {D : List Deferred} {ops : Array Oper} {i d : Nat} {l : List Nat}
 {t e : TypeId} {x y z : Operand} {v : Value} {ka kb : IntKind} {za zb : Int} {a b : Nat} {α : Type} {T : Rp α} {xs : List α} {r : Fr}
theorem O.sliceTo (ho : Fires ops i n σ d (.slice t x none (some y) none)) (ht : P.underlying t = some (.slice e)) (he : (P.info? e).map (·.size) = some T.k) (hx : ev σ x = some v) (hy : ev σ y = some (.int kb zb)) (hs : Arr T r v xs) (hz : zb = (b : Int)) (hb : b ≤ xs.length)
  (h : ∀ u, Arr T r u (xs.take b) → O ro P fn n R ops l K ((d, u) :: σ) D g η) : O ro P fn n R ops (i :: l) K σ D g η := by
 subst hz
 obtain ⟨u, h1, h2⟩ := slice_does (g := g) (a := 0) (b := b) (kl := .i64) ht he hx (lo := none) (hi := some y) (fun _ h => nomatch h) (fun _ => rfl) (fun _ h => by cases h; exact hy) (fun h => nomatch h) hs (Nat.zero_le _) hb
 exact O.op ho (h1 η) (h u h2)
theorem O.sliceFrom (ho : Fires ops i n σ d (.slice t x (some y) none none)) (ht : P.underlying t = some (.slice e)) (he : (P.info? e).map (·.size) = some T.k) (hx : ev σ x = some v) (hy : ev σ y = some (.int ka za)) (hs : Arr T r v xs) (hz : za = (a : Int)) (ha : a ≤ xs.length)
  (h : ∀ u, Arr T r u (xs.drop a) → O ro P fn n R ops l K ((d, u) :: σ) D g η) : O ro P fn n R ops (i :: l) K σ D g η := by
 subst hz
 obtain ⟨u, h1, h2⟩ := slice_does (g := g) (a := a) (b := xs.length) (kh := .i64) ht he hx (lo := some y) (hi := none) (fun _ h => by cases h; exact hy) (fun h => nomatch h) (fun _ h => nomatch h) (fun _ => rfl) hs ha (Nat.le_refl _)
 exact O.op ho (h1 η) (h u (by rw [List.take_length] at h2; exact h2))
theorem O.sliceMid (ho : Fires ops i n σ d (.slice t x (some y) (some z) none)) (ht : P.underlying t = some (.slice e)) (he : (P.info? e).map (·.size) = some T.k) (hx : ev σ x = some v) (hy : ev σ y = some (.int ka za)) (hz : ev σ z = some (.int kb zb)) (hs : Arr T r v xs) (h1 : za = (a : Int)) (h2 : zb = (b : Int)) (hab : a ≤ b) (hb : b ≤ xs.length)
  (h : ∀ u, Arr T r u ((xs.take b).drop a) → O ro P fn n R ops l K ((d, u) :: σ) D g η) : O ro P fn n R ops (i :: l) K σ D g η := by
 subst h1; subst h2
 obtain ⟨u, h1, h2⟩ := slice_does (g := g) (a := a) (b := b) ht he hx (lo := some y) (hi := some z) (fun _ h => by cases h; exact hy) (fun h => nomatch h) (fun _ h => by cases h; exact hz) (fun h => nomatch h) hs hab hb
 exact O.op ho (h1 η) (h u h2)
end
def byteV (b : UInt8) : Value := .int .u8 b.toNat
def str (xs : List UInt8) : ByteArray := ⟨xs.toArray⟩
@[simp] theorem str_toList (xs : List UInt8) : (str xs).toList = xs := by rw [ByteArray.toList_eq]; rfl
@[simp] theorem str_size (xs : List UInt8) : (str xs).size = xs.length := by simp [str, ByteArray.size]
def Rp.u8 : Rp UInt8 := { k := 1, rel := fun _ cs b => cs = [byteV b], len := fun h => by rw [h]; rfl, mono := fun _ h => h, one := fun h c hc => by subst h; simp at hc; subst hc; rfl }
def InI64 (z : Int) : Prop := -9223372036854775808 ≤ z ∧ z ≤ 9223372036854775807
def Rp.i64 : Rp Int := { k := 1, rel := fun _ cs z => cs = [.int .i64 z] ∧ InI64 z, len := fun h => by rw [h.1]; rfl, mono := fun _ h => h, one := fun h c hc => by rw [h.1] at hc; simp at hc; subst hc; rfl }
def Rp.bool : Rp Bool := { k := 1, rel := fun _ cs b => cs = [.bool b], len := fun h => by rw [h]; rfl, mono := fun _ h => h, one := fun h c hc => by subst h; simp at hc; subst hc; rfl }
def Rp.str : Rp (List UInt8) := { k := 1, rel := fun _ cs s => cs = [.string (Go.Sp.str s)] ∧ s.length ≤ 9223372036854775807, len := fun h => by rw [h.1]; rfl, mono := fun _ h => h, one := fun h c hc => by rw [h.1] at hc; simp at hc; subst hc; rfl }
def Rp.slice {α : Type} (T : Rp α) : Rp (List α) := { k := 1, rel := fun h cs xs => ∃ v, cs = [v] ∧ Arr T h v xs, len := fun ⟨_, h, _⟩ => by rw [h]; rfl, mono := fun s ⟨v, h, a⟩ => ⟨v, h, a.mono s⟩, one := fun ⟨v, h, a⟩ c hc => by subst h; simp at hc; subst hc; obtain ⟨_, _, rfl⟩ := a.shape; rfl }
def Rp.val : Rp Value := { k := 1, rel := fun _ cs v => cs = [v] ∧ v.oneCell' = true, len := fun h => by rw [h.1]; rfl, mono := fun _ h => h, one := fun h c hc => by rw [h.1] at hc; simp at hc; subst hc; exact h.2 }
def Rp.cells (k : Nat) : Rp (List Value) := { k := k, rel := fun _ cs c => cs = c ∧ c.length = k ∧ ∀ v ∈ c, v.oneCell' = true, len := fun h => by rw [h.1]; exact h.2.1, mono := fun _ h => h, one := fun h c hc => by rw [h.1] at hc; exact h.2.2 c hc }
theorem Arr.rows {α : Type} {T : Rp α} {h : Fr} {v : Value} {vs : List Value} {xss : List (List α)} (hv : Arr Rp.val h v vs) (ha : All2 (Arr T h) vs xss) : Arr (Rp.slice T) h v xss := by
 obtain ⟨css, h1, h2⟩ := hv
 refine ⟨css, ?_, by rw [← ha.length]; exact h2⟩
 clear h2
 induction css generalizing vs xss with
 | nil => cases vs with
  | nil => cases xss with
   | nil => trivial
   | cons _ _ => exact ha.elim
  | cons _ _ => exact h1.elim
 | cons c css ih => cases vs with
  | nil => exact h1.elim
  | cons v vs => cases xss with
   | nil => exact ha.elim
   | cons x xss => exact ⟨⟨v, h1.1.1, ha.1⟩, ih ha.2 h1.2⟩
theorem Arr.nil {α : Type} {T : Rp α} {h : Fr} : Arr T h (.slice none 0 0) ([] : List α) := ⟨[], trivial, none, 0, rfl, Nat.le_refl _, ⟨by omega, fun _ => rfl⟩, by simp, fun j hj => by simp at hj⟩
theorem Arr.nil_of {α : Type} {T : Rp α} {h : Fr} {m c : Nat} {xs : List α} (hk : 0 < T.k) : Arr T h (.slice none m c) xs → xs = [] ∧ m = 0 ∧ c = 0
 | ⟨css, h1, a, c', h2, _, hc, h5, h6⟩ => by
  cases h2
  refine ⟨?_, ?_, hc.2 rfl⟩
  rotate_left
  ·have := hc.2 rfl; omega
  cases xs with
  | nil => rfl
  | cons x xs =>
   have : 0 < css.flatten.length := by rw [h5]; exact Nat.mul_pos (by simp) hk
   obtain ⟨p, hp, _⟩ := h6 0 this
   cases hp
end Go.Sp
