/-
  Rules for what the kit's functions do: a string's bytes, a longer or shorter piece of one slice, the lesser of two numbers.
-/
import Derived.Test.YtodhbhanmdfdeaaSpEach
import Derived.Test.YtodhbhanmdfdeaaSpOwn3
import Derived.Test.YtodhbhanmdfdeaaSpBytes
import Derived.Lib.ConvBytes
namespace Go.Sp
section
variable {ro : Option Nat} {P : Program} {fn : Func} {n : Nat} {R : Ending → World → Prop} {k : List Item} {σ : List (Nat × Value)} {D : List Deferred} {g : Gr} {η ζ θ : List SProp} {ops : Array Oper} {L l : List Nat} {i d : Nat} {t e : TypeId} {x y z : Operand} {α : Type} {T : Rp α}
/-- once around -/
theorem S.unroll {c : Code} (h : S ro P fn n R (.code c :: .inLoop c :: k) σ D g η) : S ro P fn n R (.code (.loop c) :: k) σ D g η :=
  S.loop (fun _ : Unit => True) (fun _ => σ) (fun _ => η) (fun _ => 0) () trivial Sub.refl rfl fun _ _ _ => h
/-- a string's bytes -/
theorem DoesE.strBytes {t2 : TypeId} {xs : List UInt8} (ht : P.underlying t = some .string) (ht2 : P.underlying t2 = some (.slice e)) (he : P.underlying e = some (.int .u8)) (hx : ev σ x = some (.string (str xs))) (hl : xs.length ≤ 9223372036854775807) :
    DoesE P (.convert t t2 x) σ g η fun u η' => ∃ a c, u = .slice a xs.length c ∧ η' = (fun m => Arr Rp.u8 m u xs) :: η :=
  fun o ρ w ho hk hw => by
    have hr := Lib.run_convert_string_bytes (P := P) w t t2 e (str xs) ht ht2 he
    have ho' : (execOp ρ o).run P w = .ok (.value (.slice (some ⟨w.heap.size, 0, none⟩) (str xs).size (grownCap w (str xs).size 0 e))) (Lib.bytesWorld w e (str xs)) := by
      simp [execOp, ho, hk x _ hx, hr]
    have hge := grownCap_ge w (str xs).size 0 e
    have hcm := grownCap_le_maxLen w (str xs).size 0 e (by simpa [maxLen] using hl)
    rw [str_size] at hge hcm
    have hh : Holds (Lib.bytesWorld w e (str xs)) g (blk w.heap.size (.cells (Lib.bytesCells w e (str xs)) e ((Lib.bytesCells w e (str xs)).size, (Lib.bytesCells w e (str xs)).size + 1)) :: η) := by
      have h1 : Holds (w.drew.alloc (.cells (Lib.bytesCells w e (str xs)) e)) g (blk w.heap.size (.cells (Lib.bytesCells w e (str xs)) e) :: η) := (hw.drewN (w.drawn + 1) (Nat.le_add_right _ _)).alloc _
      refine h1.setBlock (Lib.bytesWorld_at_new w e (str xs)) ?_ rfl rfl rfl
      intro i hi
      have : w.heap.size ≠ i := fun h => hi h.symm
      simp [Lib.bytesWorld, World.freeze, Array.getElem?_modify, this]
    have hsz : (Lib.bytesCells w e (str xs)).size = grownCap w xs.length 0 e := by
      simp only [Lib.bytesCells, Array.size_append, Array.size_map, Array.size_replicate, str_size]
      simp [str]; omega
    refine ⟨_, _, _, ⟨some ⟨w.heap.size, 0, none⟩, grownCap w xs.length 0 e, by rw [str_size], rfl⟩, ho', hh.imp fun _ => Sat.cons_imp (fun m q => ⟨xs.map (fun b => [byteV b]), all2_map (fun _ => rfl) xs |>.imp fun _ _ => Rp.u8.mono (Fr.emp_sub m), ?_⟩) fun _ q => q⟩
    rw [str_size]
    refine blk_sl q hge (by simpa [maxLen] using hcm) (by rw [hsz]; simp [Rp.u8]) ?_
    have e1 : (xs.map (fun b => [byteV b])).flatten = xs.map byteV := by
      clear hx hl hr ho' hge hcm hh hsz q
      induction xs with
      | nil => rfl
      | cons a xs ih => simp [ih]
    rw [e1]
    simp only [Lib.bytesCells, Rp.u8, Nat.mul_one]
    simp [str, byteV]
/-- a slice that reads, cut, or grown into its room: over the same block -/
theorem Arr.cut {h : Fr} {a : Option Addr} {c m : Nat} {xs ys : List α} (hm : m = xs.length) (x : Arr T h (.slice a (xs.length + ys.length) c) (xs ++ ys)) : Arr T h (.slice a m c) xs := by
  subst hm
  obtain ⟨css, ha, a', cap, hv, h1, h2, h3, h4⟩ := x
  injection hv with e1 e2 e3; subst e1 e3
  have hl : css.length = xs.length + ys.length := by rw [ha.length]; simp
  have ht := ha.take xs.length
  rw [List.take_left' rfl] at ht
  have he : (css.take xs.length).flatten = css.flatten.take (xs.length * T.k) := (ha.flat_take _).symm
  refine ⟨css.take xs.length, ht, a, c, rfl, by rw [List.length_append] at h1; omega, ⟨h2.1, h2.2⟩, ?_, ?_⟩
  · rw [he, List.length_take, h3, List.length_append]; exact Nat.min_eq_left (Nat.mul_le_mul_right _ (by omega))
  · intro j hj
    have hj' : j < css.flatten.length := by rw [he, List.length_take] at hj; omega
    obtain ⟨p, hp, hc⟩ := h4 j hj'
    refine ⟨p, hp, ?_⟩
    rw [hc]; simp [he]
theorem Does.sliceTo0 {kb : IntKind} {a : Option Addr} {m c q : Nat} {zb : Int} (ht : P.underlying t = some (.slice e)) (he : (P.info? e).map (·.size) = some T.k) (hx : ev σ x = some (.slice a m c)) (hy : ev σ y = some (.int kb zb)) (hz : zb = (q : Int)) (hq : q ≤ c) :
    Does P (.slice t x none (some y) none) σ g η (.slice a q c) η :=
  fun o ρ w ho hk hw => ⟨w, by
    subst hz
    cases a <;> simp [execOp, ho, hk x _ hx, hk y _ hy, Instr.sliceAt, run_underlying ht, Instr.slice, Instr.sliceBounds, Instr.sliceBound, asIntOf, hq, run_sizeOf he, Addr.add], hw⟩
theorem O.slice0 {kb : IntKind} {a : Option Addr} {m c q : Nat} {zb : Int} (T : Rp α) (ho : Fires ops i n σ d (.slice t x none (some y) none)) (ht : P.underlying t = some (.slice e)) (he : (P.info? e).map (·.size) = some T.k) (hx : ev σ x = some (.slice a m c)) (hy : ev σ y = some (.int kb zb)) (hz : zb = (q : Int)) (hq : q ≤ c)
    (h : O ro P fn n R ops l k ((d, .slice a q c) :: σ) D g η) : O ro P fn n R ops (i :: l) k σ D g η := O.op ho (Does.sliceTo0 (T := T) ht he hx hy hz hq) h
/-- how much room is known -/
theorem Arr.room {h : Fr} {a : Option Addr} {c m : Nat} {xs : List α} (x : Arr T h (.slice a m c) xs) : m = xs.length ∧ m ≤ c := by
  obtain ⟨_, _, a', cap, hv, h1, _⟩ := x
  cases hv; exact ⟨rfl, h1⟩
theorem OwnP.room {h : Fr} {a : Option Addr} {c m : Nat} {xs : List α} (x : OwnP T e (.slice a m c) xs h) : m = xs.length ∧ m ≤ c := x.arr.room
/-- the lesser one -/
theorem Does.min2 {kd : IntKind} {a b : Int} (hx : ev σ x = some (.int kd a)) (hy : ev σ y = some (.int kd b)) :
    Does P (.call ⟨.builtin .min, #[x, y], #[t, t]⟩) σ g η (.int kd (if b < a then b else a)) η :=
  fun o ρ w ho hk hw => ⟨w, by
    simp [execOp, ho, hk x _ hx, hk y _ hy, resolve, invoke, builtin, Builtin.min_, Builtin.min2], hw⟩
theorem Sel.app {η ζ θ : List SProp} {A : SProp} (s : Sel η A ζ) : Sel (η ++ θ) A (ζ ++ θ) := by
  induction s with
  | here => exact .here
  | there _ ih => exact .there ih
theorem ODg.litP {fl : Bool} {by_ len : Nat} {z : List Value} {parts : Array (Nat × Operand)} {vs : List Value} {ys : List α} (ho : Fires ops i n σ d (.buildSlice t len parts)) (hd : hdOk fl ops i l = true) (ht : P.underlying t = some (.slice e)) (he : elemIs P e T.k by_ z) (hk : 0 < T.k)
    (hp : partsOf σ parts.toList 0 = some vs) (hlen : parts.toList.length = len) (hvs : All2 (T.rel Fr.emp) (vs.map (·.cells.toList)) ys) (h24 : len * T.k ≤ 16777216)
    (h : ∀ a c, OD P fn n R ops k D g l ((d, .slice a len c) :: σ) (OwnP T e (.slice a len c) ys :: η)) : ODx P fn n R ops k D g fl (i :: l) σ η :=
  ODg.loudE (K := fun v η' => ∃ a c, v = .slice a len c ∧ η' = OwnP T e v ys :: η) ho rfl hd (fun _ => (DoesE.litP ht he hk hp hlen hvs h24).imp fun _ _ ⟨a, c, h1, h2⟩ => ⟨_, ⟨a, c, h1, rfl⟩, h2⟩)
    fun _ _ ⟨a, c, h1, h2⟩ => by subst h1; subst h2; exact h a c
theorem OD.litP {by_ len : Nat} {z : List Value} {parts : Array (Nat × Operand)} {vs : List Value} {ys : List α} (ho : Fires ops i n σ d (.buildSlice t len parts)) (hd : descOk ops [i] l = true) (ht : P.underlying t = some (.slice e)) (he : elemIs P e T.k by_ z) (hk : 0 < T.k) (hp : partsOf σ parts.toList 0 = some vs) (hlen : parts.toList.length = len) (hvs : All2 (T.rel Fr.emp) (vs.map (·.cells.toList)) ys) (h24 : len * T.k ≤ 16777216) (h : ∀ a c, OD P fn n R ops k D g l ((d, .slice a len c) :: σ) (OwnP T e (.slice a len c) ys :: η)) : OD P fn n R ops k D g (i :: l) σ η := ODg.litP (fl := false) ho (by simpa [hdOk] using hd) ht he hk hp hlen hvs h24 h
theorem ODt.litP {by_ len : Nat} {z : List Value} {parts : Array (Nat × Operand)} {vs : List Value} {ys : List α} (ho : Fires ops i n σ d (.buildSlice t len parts)) (_ : true = true) (ht : P.underlying t = some (.slice e)) (he : elemIs P e T.k by_ z) (hk : 0 < T.k) (hp : partsOf σ parts.toList 0 = some vs) (hlen : parts.toList.length = len) (hvs : All2 (T.rel Fr.emp) (vs.map (·.cells.toList)) ys) (h24 : len * T.k ≤ 16777216) (h : ∀ a c, OD P fn n R ops k D g l ((d, .slice a len c) :: σ) (OwnP T e (.slice a len c) ys :: η)) : ODx P fn n R ops k D g true (i :: l) σ η := ODg.litP (fl := true) ho rfl ht he hk hp hlen hvs h24 h
theorem ODg.appendO {fl : Bool} {by_ : Nat} {z : List Value} {v u : Value} {xs ys : List α} (ho : Fires ops i n σ d (.call ⟨.builtin .append, #[x, y], #[t, t]⟩)) (hd : hdOk fl ops i l = true) (ht : P.underlying t = some (.slice e)) (he : elemIs P e T.k by_ z) (hk : 0 < T.k) (hx : ev σ x = some v) (hy : ev σ y = some u)
    (hl : Sel η (OwnP T e u ys) θ) (hs : Sel θ (OwnP T e v xs) ζ) (hb : (xs.length + ys.length) * by_ ≤ 140737488355328) (h63 : xs.length + ys.length ≤ 9223372036854775807)
    (h : ∀ a c, OD P fn n R ops k D g l ((d, .slice a (xs.length + ys.length) c) :: σ) (OwnP T e (.slice a (xs.length + ys.length) c) (xs ++ ys) :: ζ)) : ODx P fn n R ops k D g fl (i :: l) σ η :=
  ODg.loudE (K := fun v' η' => ∃ a c, v' = .slice a (xs.length + ys.length) c ∧ η' = OwnP T e v' (xs ++ ys) :: ζ) ho rfl hd (fun _ => (DoesE.appendO ht he hk hx hy hl.app hs.app hb h63).imp fun _ _ ⟨a, c, h1, h2⟩ => ⟨_, ⟨a, c, h1, rfl⟩, h2⟩)
    fun _ _ ⟨a, c, h1, h2⟩ => by subst h1; subst h2; exact h a c
theorem OD.appendO {by_ : Nat} {z : List Value} {v u : Value} {xs ys : List α} (ho : Fires ops i n σ d (.call ⟨.builtin .append, #[x, y], #[t, t]⟩)) (hd : descOk ops [i] l = true) (ht : P.underlying t = some (.slice e)) (he : elemIs P e T.k by_ z) (hk : 0 < T.k) (hx : ev σ x = some v) (hy : ev σ y = some u) (hl : Sel η (OwnP T e u ys) θ) (hs : Sel θ (OwnP T e v xs) ζ) (hb : (xs.length + ys.length) * by_ ≤ 140737488355328) (h63 : xs.length + ys.length ≤ 9223372036854775807) (h : ∀ a c, OD P fn n R ops k D g l ((d, .slice a (xs.length + ys.length) c) :: σ) (OwnP T e (.slice a (xs.length + ys.length) c) (xs ++ ys) :: ζ)) : OD P fn n R ops k D g (i :: l) σ η := ODg.appendO (fl := false) ho (by simpa [hdOk] using hd) ht he hk hx hy hl hs hb h63 h
theorem ODt.appendO {by_ : Nat} {z : List Value} {v u : Value} {xs ys : List α} (ho : Fires ops i n σ d (.call ⟨.builtin .append, #[x, y], #[t, t]⟩)) (_ : true = true) (ht : P.underlying t = some (.slice e)) (he : elemIs P e T.k by_ z) (hk : 0 < T.k) (hx : ev σ x = some v) (hy : ev σ y = some u) (hl : Sel η (OwnP T e u ys) θ) (hs : Sel θ (OwnP T e v xs) ζ) (hb : (xs.length + ys.length) * by_ ≤ 140737488355328) (h63 : xs.length + ys.length ≤ 9223372036854775807) (h : ∀ a c, OD P fn n R ops k D g l ((d, .slice a (xs.length + ys.length) c) :: σ) (OwnP T e (.slice a (xs.length + ys.length) c) (xs ++ ys) :: ζ)) : ODx P fn n R ops k D g true (i :: l) σ η := ODg.appendO (fl := true) ho rfl ht he hk hx hy hl hs hb h63 h
theorem ODg.appendP {fl : Bool} {by_ : Nat} {z : List Value} {v u : Value} {xs ys : List α} (ho : Fires ops i n σ d (.call ⟨.builtin .append, #[x, y], #[t, t]⟩)) (hd : hdOk fl ops i l = true) (hT : T.Pure) (ht : P.underlying t = some (.slice e)) (he : elemIs P e T.k by_ z) (hk : 0 < T.k) (hx : ev σ x = some v) (hy : ev σ y = some u)
    (hs : Sel η (OwnP T e v xs) ζ) (hu : Arr T g.h u ys) (hb : (xs.length + ys.length) * by_ ≤ 140737488355328) (h63 : xs.length + ys.length ≤ 9223372036854775807)
    (h : ∀ a c, OD P fn n R ops k D g l ((d, .slice a (xs.length + ys.length) c) :: σ) (OwnP T e (.slice a (xs.length + ys.length) c) (xs ++ ys) :: ζ)) : ODx P fn n R ops k D g fl (i :: l) σ η :=
  ODg.loudE (K := fun v' η' => ∃ a c, v' = .slice a (xs.length + ys.length) c ∧ η' = OwnP T e v' (xs ++ ys) :: ζ) ho rfl hd (fun _ => (DoesE.appendP hT ht he hk hx hy hs.app hu hb h63).imp fun _ _ ⟨a, c, h1, h2⟩ => ⟨_, ⟨a, c, h1, rfl⟩, h2⟩)
    fun _ _ ⟨a, c, h1, h2⟩ => by subst h1; subst h2; exact h a c
theorem OD.appendP {by_ : Nat} {z : List Value} {v u : Value} {xs ys : List α} (ho : Fires ops i n σ d (.call ⟨.builtin .append, #[x, y], #[t, t]⟩)) (hd : descOk ops [i] l = true) (hT : T.Pure) (ht : P.underlying t = some (.slice e)) (he : elemIs P e T.k by_ z) (hk : 0 < T.k) (hx : ev σ x = some v) (hy : ev σ y = some u) (hs : Sel η (OwnP T e v xs) ζ) (hu : Arr T g.h u ys) (hb : (xs.length + ys.length) * by_ ≤ 140737488355328) (h63 : xs.length + ys.length ≤ 9223372036854775807) (h : ∀ a c, OD P fn n R ops k D g l ((d, .slice a (xs.length + ys.length) c) :: σ) (OwnP T e (.slice a (xs.length + ys.length) c) (xs ++ ys) :: ζ)) : OD P fn n R ops k D g (i :: l) σ η := ODg.appendP (fl := false) ho (by simpa [hdOk] using hd) hT ht he hk hx hy hs hu hb h63 h
theorem ODt.appendP {by_ : Nat} {z : List Value} {v u : Value} {xs ys : List α} (ho : Fires ops i n σ d (.call ⟨.builtin .append, #[x, y], #[t, t]⟩)) (_ : true = true) (hT : T.Pure) (ht : P.underlying t = some (.slice e)) (he : elemIs P e T.k by_ z) (hk : 0 < T.k) (hx : ev σ x = some v) (hy : ev σ y = some u) (hs : Sel η (OwnP T e v xs) ζ) (hu : Arr T g.h u ys) (hb : (xs.length + ys.length) * by_ ≤ 140737488355328) (h63 : xs.length + ys.length ≤ 9223372036854775807) (h : ∀ a c, OD P fn n R ops k D g l ((d, .slice a (xs.length + ys.length) c) :: σ) (OwnP T e (.slice a (xs.length + ys.length) c) (xs ++ ys) :: ζ)) : ODx P fn n R ops k D g true (i :: l) σ η := ODg.appendP (fl := true) ho rfl hT ht he hk hx hy hs hu hb h63 h
theorem ODg.idxOwn {v : Value} {xs : List α} {j : Nat} {kd : IntKind} (ho : Fires ops i n σ d (.indexAddr t x y)) {fl : Bool} (hd : hdOk fl ops i l = true) (ht : P.underlying t = some (.slice e)) (he : (P.info? e).map (·.size) = some T.k) (hx : ev σ x = some v) {zi : Int} (hy : ev σ y = some (.int kd zi)) (hzi : zi = (j : Int))
    (hs : Sel η (OwnP T e v xs) ζ) (hj : j < xs.length) (h : ∀ p, PtrIn v T.k j p → OD P fn n R ops k D g l ((d, .pointer (some p)) :: σ) η) : ODx P fn n R ops k D g fl (i :: l) σ η :=
  ODx.perm hs.perm (ODg.loudE (η := OwnP T e v xs :: ζ) (K := fun u η' => ∃ p, u = .pointer (some p) ∧ PtrIn v T.k j p ∧ η' = OwnP T e v xs :: ζ) ho rfl hd
    (fun _ => (DoesE.idxOwn ht he hx hy hzi Sel.here hj).imp fun _ _ ⟨p, a, b, c⟩ => ⟨_, ⟨p, a, b, rfl⟩, c⟩) fun _ _ ⟨p, a, b, c⟩ => by subst a; subst c; exact ODx.perm hs.perm.symm (h p b))
theorem OD.idxOwn {v : Value} {xs : List α} {j : Nat} {kd : IntKind} (ho : Fires ops i n σ d (.indexAddr t x y)) (hd : descOk ops [i] l = true) (ht : P.underlying t = some (.slice e)) (he : (P.info? e).map (·.size) = some T.k) (hx : ev σ x = some v) {zi : Int} (hy : ev σ y = some (.int kd zi)) (hzi : zi = (j : Int)) (hs : Sel η (OwnP T e v xs) ζ) (hj : j < xs.length) (h : ∀ p, PtrIn v T.k j p → OD P fn n R ops k D g l ((d, .pointer (some p)) :: σ) η) : OD P fn n R ops k D g (i :: l) σ η := ODg.idxOwn (fl := false) ho (by simpa [hdOk] using hd) ht he hx hy hzi hs hj h
theorem ODt.idxOwn {v : Value} {xs : List α} {j : Nat} {kd : IntKind} (ho : Fires ops i n σ d (.indexAddr t x y)) (_ : true = true) (ht : P.underlying t = some (.slice e)) (he : (P.info? e).map (·.size) = some T.k) (hx : ev σ x = some v) {zi : Int} (hy : ev σ y = some (.int kd zi)) (hzi : zi = (j : Int)) (hs : Sel η (OwnP T e v xs) ζ) (hj : j < xs.length) (h : ∀ p, PtrIn v T.k j p → OD P fn n R ops k D g l ((d, .pointer (some p)) :: σ) η) : ODx P fn n R ops k D g true (i :: l) σ η := ODg.idxOwn (fl := true) ho rfl ht he hx hy hzi hs hj h
theorem ODg.storeOwn {v u : Value} {xs : List α} {j q : Nat} {p : Addr} {a : α} (ho : opAtU ops q = some (.store t x y)) {fl : Bool} (hd : hdOk fl ops q l = true) (hsz : (P.info? t).map (·.size) = some T.k) (hx : ev σ x = some (.pointer (some p))) (hp : PtrIn v T.k j p) (hy : ev σ y = some u)
    (hs : Sel η (OwnP T e v xs) ζ) (hj : j < xs.length) (hu : T.rel Fr.emp u.cells.toList a) (h : OD P fn n R ops k D g l σ (OwnP T e v (xs.set j a) :: ζ)) : ODx P fn n R ops k D g fl (q :: l) σ η :=
  ODx.perm hs.perm (ODg.loudU (η := OwnP T e v xs :: ζ) (η' := OwnP T e v (xs.set j a) :: ζ) ho rfl hd (fun _ => .storeOwn hsz hx hp hy Sel.here hj hu) h)
theorem OD.storeOwn {v u : Value} {xs : List α} {j q : Nat} {p : Addr} {a : α} (ho : opAtU ops q = some (.store t x y)) (hd : descOk ops [q] l = true) (hsz : (P.info? t).map (·.size) = some T.k) (hx : ev σ x = some (.pointer (some p))) (hp : PtrIn v T.k j p) (hy : ev σ y = some u) (hs : Sel η (OwnP T e v xs) ζ) (hj : j < xs.length) (hu : T.rel Fr.emp u.cells.toList a) (h : OD P fn n R ops k D g l σ (OwnP T e v (xs.set j a) :: ζ)) : OD P fn n R ops k D g (q :: l) σ η := ODg.storeOwn (fl := false) ho (by simpa [hdOk] using hd) hsz hx hp hy hs hj hu h
theorem ODt.storeOwn {v u : Value} {xs : List α} {j q : Nat} {p : Addr} {a : α} (ho : opAtU ops q = some (.store t x y)) (_ : true = true) (hsz : (P.info? t).map (·.size) = some T.k) (hx : ev σ x = some (.pointer (some p))) (hp : PtrIn v T.k j p) (hy : ev σ y = some u) (hs : Sel η (OwnP T e v xs) ζ) (hj : j < xs.length) (hu : T.rel Fr.emp u.cells.toList a) (h : OD P fn n R ops k D g l σ (OwnP T e v (xs.set j a) :: ζ)) : ODx P fn n R ops k D g true (q :: l) σ η := ODg.storeOwn (fl := true) ho rfl hsz hx hp hy hs hj hu h
/-- ground for a while -/
theorem S.frzT {todo : List Item} {B : SProp} (s : Sel η B ζ) (h : ∀ g' : Gr, g.h.sub g'.h → (∃ m : Fr, B m ∧ m.sub g'.h) →
      (∀ {todo : List Item} {σ : List (Nat × Value)} {θ : List SProp}, S ro P fn n R todo σ D g (B :: θ) → S ro P fn n R todo σ D g' θ) → S ro P fn n R todo σ D g' ζ) : S ro P fn n R todo σ D g η :=
  S.sel s (S.freeze fun m hm hd => h (g.add m) (Fr.sub_add_left _ _) ⟨m, hm, Fr.sub_add_right hd⟩ fun x => S.thaw hm hd x)
theorem OD.slot {v v' : Value} (q : Nat) (hl : look σ q = some v) (h0 : v = v') (h : OD P fn n R ops k D g L ((q, v') :: σ) η) : OD P fn n R ops k D g L σ η := OD.weaken h (Sub.consE hl h0 Sub.refl)
end
theorem u8_inj {a b : UInt8} (h : (a.toNat : Int) = b.toNat) : a = b := UInt8.toNat_inj.mp (by omega)
theorem u8_toNat {a b : UInt8} (h : a = b) : (a.toNat : Int) = b.toNat := by rw [h]
end Go.Sp
