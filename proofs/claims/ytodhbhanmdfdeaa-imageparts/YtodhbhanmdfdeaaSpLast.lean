/-
  A region of which the last place alone stores: what it reads lies on the ground till then. A string's bytes, as bytes of one's own.
-/
import Derived.Test.YtodhbhanmdfdeaaSpLoop
namespace Go.Sp
section
variable {ro : Option Nat} {P : Program} {fn : Func} {n : Nat} {R : Ending → World → Prop} {ops : Array Oper} {k : List Item} {σ : List (Nat × Value)} {D : List Deferred} {g : Gr} {η ζ θ : List SProp} {t e : TypeId} {x y : Operand}
/-- ground for a while; what is let go comes back as a word -/
theorem S.frzH {todo : List Item} {B : SProp} (s : Sel η B ζ) (h : ∀ g' : Gr, g.h.sub g'.h → (∃ m : Fr, B m ∧ m.sub g'.h) → (∀ {w : World} {θ : List SProp}, Holds w g' θ → Holds w g (B :: θ)) → S ro P fn n R todo σ D g' ζ) : S ro P fn n R todo σ D g η :=
  S.sel s (S.freeze fun m hm hd => h (g.add m) (Fr.sub_add_left _ _) ⟨m, hm, Fr.sub_add_right hd⟩ fun hw => hw.thaw hm hd)
/-- the last place of a region stores into one cell of what lay on the ground till then -/
theorem OD.last1 {g0 : Gr} {T : TypeId} {b i j : Nat} {cs : List Value} {v : Value} (ho : opAtU ops j = some (.store t x y)) (hl : lastOk ops j = true) (hth : ∀ w, Holds w g η → Holds w g0 ζ) (ht : flat1 P t = true) (hx : ev σ x = some (.pointer (some ⟨b, i, none⟩))) (hy : ev σ y = some v)
    (h1 : v.oneCell' = true) (hs : Sel ζ (obj b T cs) θ) (hc : i < cs.length) (h : S none P fn n R k σ D g0 (obj b T (cs.set i v) :: θ)) : OD P fn n R ops k D g [j] σ η :=
  .one rfl (.lastU ho rfl hl (fun o ρ w q1 q2 q3 => let ⟨w', a, b⟩ := DoesU.store1 ht hx hy h1 hs hc o ρ w q1 q2 (hth w q3); ⟨w', .skip, a, .inl rfl, b⟩) h)
/-- words put under one -/
theorem S.fold {todo : List Item} {A : SProp} {bs : List SProp} (hA : ∀ m, Sat bs m → A m) (h : S ro P fn n R todo σ D g (A :: ζ)) : S ro P fn n R todo σ D g (bs ++ ζ) :=
  S.imp' (η := bs ++ ζ) (ζ := A :: ζ) (fun m hm => by
    obtain ⟨m1, m2, d, s1, s2, x, y⟩ := Sat.split hm
    exact ⟨m1, m2, d, s1, s2, hA _ x, y⟩) h
/-- a word laid open -/
theorem S.open {todo : List Item} {α : Type} {A : SProp} {bs : α → List SProp} (s : Sel η A ζ) (hA : ∀ m, A m → ∃ x, Sat (bs x) m) (h : ∀ x, S ro P fn n R todo σ D g (bs x ++ ζ)) : S ro P fn n R todo σ D g η :=
  S.sel s (S.entail (ζ := [fun m => ∃ x, Sat (bs x) m]) (fun m hm => ⟨m, Fr.emp, Fr.disj_symm (Fr.emp_disj _), Fr.sub_refl _, Fr.emp_sub _, hA m hm, trivial⟩) (S.exi fun x => S.entail (fun _ q => q) (h x)))
/-- said in other words -/
theorem S.ownIs {todo : List Item} {α : Type} {T : Rp α} {e : TypeId} {v v' : Value} {xs xs' : List α} (s : Sel η (OwnP T e v xs) ζ) (hv : v = v') (hx : xs = xs') (h : S ro P fn n R todo σ D g (OwnP T e v' xs' :: ζ)) : S ro P fn n R todo σ D g η := by
  subst hv hx; exact S.sel s h
theorem look_app (a b : List (Nat × Value)) (t : Nat) : look (a ++ b) t = match look a t with | some v => some v | none => look b t := by
  induction a with
  | nil => rfl
  | cons x a ih =>
    cases hq : x.1.beq t
    · simp only [List.cons_append, look, hq]; exact ih
    · simp only [List.cons_append, look, hq]
theorem Sub.app {a b σ : List (Nat × Value)} (ha : Sub a σ) (hb : Sub b σ) : Sub (a ++ b) σ := fun t v h => by
  rw [look_app] at h
  cases hq : look a t with
  | some u => rw [hq] at h; exact ha t v (by rw [hq]; exact h)
  | none => rw [hq] at h; exact hb t v h
/-- a region whose order is open, and then the rest, once for all its orders -/
theorem S.regionJ {α : Type} {L : List Nat} {id : Nat} (lv : α → List (Nat × Value)) (σ0 : List (Nat × Value)) (η' : α → List SProp) (_ : Sub σ0 σ) (hm : P.follows .mixedOrders = true) (hok : orderOk P n ops L = true)
    (h1 : ∀ kk, (∀ x, S none P fn n R kk (lv x ++ σ0) D g (η' x)) → OD P fn n R ops kk D g L σ η) (h2 : ∀ x, S none P fn n R k (lv x ++ σ0) D g (η' x)) : S none P fn n R (.code (.region id ops true) :: k) σ D g η :=
  S.regionD hm hok (h1 k h2)
/-- what is behind, once for all the roads to it -/
theorem S.cut1 {ro : Option Nat} {α : Type} {i0 : Item} {kk : List Item} (φ : α → Prop) (lv : α → List (Nat × Value)) (σ0 : List (Nat × Value)) (η' : α → List SProp) (_ : Sub σ0 σ)
    (h1 : (∀ x, φ x → S ro P fn n R kk (lv x ++ σ0) D g (η' x)) → S ro P fn n R (i0 :: kk) σ D g η) (h2 : ∀ x, φ x → S ro P fn n R kk (lv x ++ σ0) D g (η' x)) : S ro P fn n R (i0 :: kk) σ D g η := h1 h2
theorem S.cut2 {ro : Option Nat} {α : Type} {i0 i1 : Item} {kk : List Item} (φ : α → Prop) (lv : α → List (Nat × Value)) (σ0 : List (Nat × Value)) (η' : α → List SProp) (_ : Sub σ0 σ)
    (h1 : (∀ x, φ x → S ro P fn n R kk (lv x ++ σ0) D g (η' x)) → S ro P fn n R (i0 :: i1 :: kk) σ D g η) (h2 : ∀ x, φ x → S ro P fn n R kk (lv x ++ σ0) D g (η' x)) : S ro P fn n R (i0 :: i1 :: kk) σ D g η := h1 h2
theorem S.cut3 {ro : Option Nat} {α : Type} {i0 i1 i2 : Item} {kk : List Item} (φ : α → Prop) (lv : α → List (Nat × Value)) (σ0 : List (Nat × Value)) (η' : α → List SProp) (_ : Sub σ0 σ)
    (h1 : (∀ x, φ x → S ro P fn n R kk (lv x ++ σ0) D g (η' x)) → S ro P fn n R (i0 :: i1 :: i2 :: kk) σ D g η) (h2 : ∀ x, φ x → S ro P fn n R kk (lv x ++ σ0) D g (η' x)) : S ro P fn n R (i0 :: i1 :: i2 :: kk) σ D g η := h1 h2
theorem S.cut4 {ro : Option Nat} {α : Type} {i0 i1 i2 i3 : Item} {kk : List Item} (φ : α → Prop) (lv : α → List (Nat × Value)) (σ0 : List (Nat × Value)) (η' : α → List SProp) (_ : Sub σ0 σ)
    (h1 : (∀ x, φ x → S ro P fn n R kk (lv x ++ σ0) D g (η' x)) → S ro P fn n R (i0 :: i1 :: i2 :: i3 :: kk) σ D g η) (h2 : ∀ x, φ x → S ro P fn n R kk (lv x ++ σ0) D g (η' x)) : S ro P fn n R (i0 :: i1 :: i2 :: i3 :: kk) σ D g η := h1 h2
theorem S.cut5 {ro : Option Nat} {α : Type} {i0 i1 i2 i3 i4 : Item} {kk : List Item} (φ : α → Prop) (lv : α → List (Nat × Value)) (σ0 : List (Nat × Value)) (η' : α → List SProp) (_ : Sub σ0 σ)
    (h1 : (∀ x, φ x → S ro P fn n R kk (lv x ++ σ0) D g (η' x)) → S ro P fn n R (i0 :: i1 :: i2 :: i3 :: i4 :: kk) σ D g η) (h2 : ∀ x, φ x → S ro P fn n R kk (lv x ++ σ0) D g (η' x)) : S ro P fn n R (i0 :: i1 :: i2 :: i3 :: i4 :: kk) σ D g η := h1 h2
theorem S.cut6 {ro : Option Nat} {α : Type} {i0 i1 i2 i3 i4 i5 : Item} {kk : List Item} (φ : α → Prop) (lv : α → List (Nat × Value)) (σ0 : List (Nat × Value)) (η' : α → List SProp) (_ : Sub σ0 σ)
    (h1 : (∀ x, φ x → S ro P fn n R kk (lv x ++ σ0) D g (η' x)) → S ro P fn n R (i0 :: i1 :: i2 :: i3 :: i4 :: i5 :: kk) σ D g η) (h2 : ∀ x, φ x → S ro P fn n R kk (lv x ++ σ0) D g (η' x)) : S ro P fn n R (i0 :: i1 :: i2 :: i3 :: i4 :: i5 :: kk) σ D g η := h1 h2
theorem S.cut7 {ro : Option Nat} {α : Type} {i0 i1 i2 i3 i4 i5 i6 : Item} {kk : List Item} (φ : α → Prop) (lv : α → List (Nat × Value)) (σ0 : List (Nat × Value)) (η' : α → List SProp) (_ : Sub σ0 σ)
    (h1 : (∀ x, φ x → S ro P fn n R kk (lv x ++ σ0) D g (η' x)) → S ro P fn n R (i0 :: i1 :: i2 :: i3 :: i4 :: i5 :: i6 :: kk) σ D g η) (h2 : ∀ x, φ x → S ro P fn n R kk (lv x ++ σ0) D g (η' x)) : S ro P fn n R (i0 :: i1 :: i2 :: i3 :: i4 :: i5 :: i6 :: kk) σ D g η := h1 h2
theorem DoesE.strBytesO {t2 : TypeId} {xs : List UInt8} (ht : P.underlying t = some .string) (ht2 : P.underlying t2 = some (.slice e)) (he : P.underlying e = some (.int .u8)) (hx : ev σ x = some (.string (str xs))) (hl : xs.length ≤ 9223372036854775807) :
    DoesE P (.convert t t2 x) σ g η fun u η' => ∃ a c, u = .slice a xs.length c ∧ η' = OwnP Rp.u8 e u xs :: η :=
  fun o ρ w ho hk hw => by
    have hr := Lib.run_convert_string_bytes (P := P) w t t2 e (str xs) ht ht2 he
    have ho' : (execOp ρ o).run P w = .ok (.value (.slice (some ⟨w.heap.size, 0, none⟩) (str xs).size (grownCap w (str xs).size 0 e))) (Lib.bytesWorld w e (str xs)) := by
      simp [execOp, ho, hk x _ hx, hr]
    have hge := grownCap_ge w (str xs).size 0 e
    have hcm := grownCap_le_maxLen w (str xs).size 0 e (by simpa [maxLen] using hl)
    rw [str_size] at hge hcm
    have hh : Holds (Lib.bytesWorld w e (str xs)) g (blk w.heap.size (.cells (Lib.bytesCells w e (str xs)) e ((Lib.bytesCells w e (str xs)).size, (Lib.bytesCells w e (str xs)).size + 1)) :: η) := by
      have h1 : Holds (w.drew.alloc (.cells (Lib.bytesCells w e (str xs)) e)) g (blk w.heap.size (.cells (Lib.bytesCells w e (str xs)) e) :: η) := (hw.drewN (w.drawn + 1) (Nat.le_add_right _ _)).alloc _
      refine h1.setBlock (Lib.bytesWorld_at_new w e (str xs)) ?_ rfl rfl rfl
      intro i hi
      have : w.heap.size ≠ i := fun h => hi h.symm
      simp [Lib.bytesWorld, World.freeze, Array.getElem?_modify, this]
    have hsz : (Lib.bytesCells w e (str xs)).size = grownCap w xs.length 0 e := by
      simp only [Lib.bytesCells, Array.size_append, Array.size_map, Array.size_replicate, str_size]
      simp [str]; omega
    have e1 : (xs.map (fun b => [byteV b])).flatten = xs.map byteV := by
      clear hx hl hr ho' hge hcm hh hsz
      induction xs with
      | nil => rfl
      | cons a xs ih => simp [ih]
    refine ⟨_, _, _, ⟨some ⟨w.heap.size, 0, none⟩, grownCap w xs.length 0 e, by rw [str_size], rfl⟩, ho', ?_⟩
    rw [str_size]
    refine (hh.ownF (k := 1) (m := xs.length) (cap := grownCap w xs.length 0 e) (cs := (xs.map (fun b => [byteV b])).flatten) (fun j hj h => by have h1 := h.1; simp only [hsz] at h1; omega) hge (by simpa [maxLen] using hcm) (by rw [hsz]; simp) ?_).imp fun _ =>
      Sat.cons_imp (OwnP.of (T := Rp.u8) (css := xs.map fun b => [byteV b]) (all2_map (fun _ => rfl) xs) rfl rfl rfl) fun _ q => q
    rw [e1]
    simp only [Lib.bytesCells, Nat.mul_one]
    simp [str, byteV]
/-- any of three, of four may come next -/
theorem OD.alt3 {l : List Nat} (a b c : Nat) (la lb lc : List Nat) (hok : altOk ops [a, b, c] l = true) (ha : l.erase a = la) (hb : l.erase b = lb) (hc : l.erase c = lc)
    (h1 : ODx P fn n R ops k D g true (a :: la) σ η) (h2 : ODx P fn n R ops k D g true (b :: lb) σ η) (h3 : ODx P fn n R ops k D g true (c :: lc) σ η) : OD P fn n R ops k D g l σ η := by
  subst ha hb hc
  refine .alt [a, b, c] hok fun i hi => ?_
  simp only [List.mem_cons, List.not_mem_nil, or_false] at hi
  rcases hi with rfl | rfl | rfl
  · exact h1
  · exact h2
  · exact h3
theorem OD.alt4 {l : List Nat} (a b c d : Nat) (la lb lc ld : List Nat) (hok : altOk ops [a, b, c, d] l = true) (ha : l.erase a = la) (hb : l.erase b = lb) (hc : l.erase c = lc) (hd : l.erase d = ld)
    (h1 : ODx P fn n R ops k D g true (a :: la) σ η) (h2 : ODx P fn n R ops k D g true (b :: lb) σ η) (h3 : ODx P fn n R ops k D g true (c :: lc) σ η) (h4 : ODx P fn n R ops k D g true (d :: ld) σ η) : OD P fn n R ops k D g l σ η := by
  subst ha hb hc hd
  refine .alt [a, b, c, d] hok fun i hi => ?_
  simp only [List.mem_cons, List.not_mem_nil, or_false] at hi
  rcases hi with rfl | rfl | rfl | rfl
  · exact h1
  · exact h2
  · exact h3
  · exact h4
theorem ODg.makeP0 {α : Type} {T : Rp α} {fl : Bool} {i d : Nat} {l : List Nat} {by_ : Nat} {z : List Value} {c : Nat} {kx ky : IntKind} {zx zy : Int} (ho : Fires ops i n σ d (.makeSlice t x y)) (hd : hdOk fl ops i l = true) (ht : P.underlying t = some (.slice e)) (he : elemIs P e T.k by_ z)
    (hx : ev σ x = some (.int kx zx)) (hy : ev σ y = some (.int ky zy)) (hzx : zx = 0) (hzy : zy = (c : Int)) (hb : by_ * c ≤ 281474976710656) (h63 : c ≤ 9223372036854775807)
    (h : ∀ a c, OD P fn n R ops k D g l ((d, .slice a 0 c) :: σ) (OwnP T e (.slice a 0 c) [] :: η)) : ODx P fn n R ops k D g fl (i :: l) σ η :=
  ODg.loudE (K := fun v η' => ∃ a c, v = .slice a 0 c ∧ η' = OwnP T e v [] :: η) ho rfl hd (fun _ => (DoesE.makeP0 ht he hx hy hzx hzy hb h63).imp fun _ _ ⟨a, c, h1, h2⟩ => ⟨_, ⟨a, c, h1, rfl⟩, h2⟩) (by rintro v _ ⟨a, c, rfl, rfl⟩; exact h a c)
theorem OD.makeP0 {α : Type} {T : Rp α} {i d : Nat} {l : List Nat} {by_ : Nat} {z : List Value} {c : Nat} {kx ky : IntKind} {zx zy : Int} (ho : Fires ops i n σ d (.makeSlice t x y)) (hd : descOk ops [i] l = true) (ht : P.underlying t = some (.slice e)) (he : elemIs P e T.k by_ z)
    (hx : ev σ x = some (.int kx zx)) (hy : ev σ y = some (.int ky zy)) (hzx : zx = 0) (hzy : zy = (c : Int)) (hb : by_ * c ≤ 281474976710656) (h63 : c ≤ 9223372036854775807)
    (h : ∀ a c, OD P fn n R ops k D g l ((d, .slice a 0 c) :: σ) (OwnP T e (.slice a 0 c) [] :: η)) : OD P fn n R ops k D g (i :: l) σ η := ODg.makeP0 (fl := false) ho (by simpa [hdOk] using hd) ht he hx hy hzx hzy hb h63 h
theorem ODt.makeP0 {α : Type} {T : Rp α} {i d : Nat} {l : List Nat} {by_ : Nat} {z : List Value} {c : Nat} {kx ky : IntKind} {zx zy : Int} (ho : Fires ops i n σ d (.makeSlice t x y)) (_ : true = true) (ht : P.underlying t = some (.slice e)) (he : elemIs P e T.k by_ z)
    (hx : ev σ x = some (.int kx zx)) (hy : ev σ y = some (.int ky zy)) (hzx : zx = 0) (hzy : zy = (c : Int)) (hb : by_ * c ≤ 281474976710656) (h63 : c ≤ 9223372036854775807)
    (h : ∀ a c, OD P fn n R ops k D g l ((d, .slice a 0 c) :: σ) (OwnP T e (.slice a 0 c) [] :: η)) : ODx P fn n R ops k D g true (i :: l) σ η := ODg.makeP0 (fl := true) ho rfl ht he hx hy hzx hzy hb h63 h
theorem ODg.strBytesO {fl : Bool} {i d : Nat} {t2 : TypeId} {xs : List UInt8} {l : List Nat} (ho : Fires ops i n σ d (.convert t t2 x)) (hd : hdOk fl ops i l = true) (ht : P.underlying t = some .string) (ht2 : P.underlying t2 = some (.slice e)) (he : P.underlying e = some (.int .u8)) (hx : ev σ x = some (.string (str xs))) (hl : xs.length ≤ 9223372036854775807)
    (h : ∀ a c, OD P fn n R ops k D g l ((d, .slice a xs.length c) :: σ) (OwnP Rp.u8 e (.slice a xs.length c) xs :: η)) : ODx P fn n R ops k D g fl (i :: l) σ η :=
  ODg.loudE (K := fun u η' => ∃ a c, u = .slice a xs.length c ∧ η' = OwnP Rp.u8 e u xs :: η) ho rfl hd
    (fun ζ => (DoesE.strBytesO (η := η ++ ζ) ht ht2 he hx hl).imp fun v η' ⟨a, c, h1, h2⟩ => ⟨_, ⟨a, c, h1, rfl⟩, h2⟩) (by rintro v _ ⟨a, c, rfl, rfl⟩; exact h a c)
theorem OD.strBytesO {i d : Nat} {t2 : TypeId} {xs : List UInt8} {l : List Nat} (ho : Fires ops i n σ d (.convert t t2 x)) (hd : descOk ops [i] l = true) (ht : P.underlying t = some .string) (ht2 : P.underlying t2 = some (.slice e)) (he : P.underlying e = some (.int .u8)) (hx : ev σ x = some (.string (str xs))) (hl : xs.length ≤ 9223372036854775807)
    (h : ∀ a c, OD P fn n R ops k D g l ((d, .slice a xs.length c) :: σ) (OwnP Rp.u8 e (.slice a xs.length c) xs :: η)) : OD P fn n R ops k D g (i :: l) σ η := ODg.strBytesO (fl := false) ho (by simpa [hdOk] using hd) ht ht2 he hx hl h
theorem ODt.strBytesO {i d : Nat} {t2 : TypeId} {xs : List UInt8} {l : List Nat} (ho : Fires ops i n σ d (.convert t t2 x)) (_ : true = true) (ht : P.underlying t = some .string) (ht2 : P.underlying t2 = some (.slice e)) (he : P.underlying e = some (.int .u8)) (hx : ev σ x = some (.string (str xs))) (hl : xs.length ≤ 9223372036854775807)
    (h : ∀ a c, OD P fn n R ops k D g l ((d, .slice a xs.length c) :: σ) (OwnP Rp.u8 e (.slice a xs.length c) xs :: η)) : ODx P fn n R ops k D g true (i :: l) σ η := ODg.strBytesO (fl := true) ho rfl ht ht2 he hx hl h
end
end Go.Sp
