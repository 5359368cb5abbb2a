/- Texts of this proof, one behind the other. -/
import Derived.Test.YtodhbhanmdfdeaaSpGp
import Derived.Laws.Strings2
section
/- Pieces of strings. -/
namespace Go.Sp
section
variable {ro : Option Nat} {P : Program} {fn : Func} {n : Nat} {R : Ending → World → Prop} {k : List Item} {σ : List (Nat × Value)} {D : List Deferred} {g : Gr} {η : List SProp} {ops : Array Oper} {i d : Nat} {l : List Nat} {t : TypeId} {x : Operand}
theorem str_extract (xs : List UInt8) (a b : Nat) : (str xs).extract a b = str ((xs.take b).drop a) := by
  have := ByteArray.extract_mk xs a b
  unfold str; rw [this, List.drop_take]
theorem str_does {xs : List UInt8} {lo hi : Option Operand} {a b : Nat} {kl kh : IntKind} (ht : P.underlying t = some .string) (hx : ev σ x = some (.string (str xs)))
    (hlo : ∀ y, lo = some y → ev σ y = some (.int kl (a : Int))) (hlo' : lo = none → a = 0) (hhi : ∀ y, hi = some y → ev σ y = some (.int kh (b : Int))) (hhi' : hi = none → b = xs.length)
    (hab : a ≤ b) (hb : b ≤ xs.length) : ∀ η, Does P (.slice t x lo hi none) σ g η (.string (str ((xs.take b).drop a))) η := fun η => .run fun o ρ w ho hk => by
  have hsz := str_size xs
  have e1 : (a : Int) ≤ (b : Int) := by omega
  have hex := str_extract xs a b
  cases lo with
  | none =>
    have := hlo' rfl; subst this
    cases hi with
    | none => have := hhi' rfl; subst this; simp [execOp, ho, hk x _ hx, Instr.sliceAt, run_underlying ht, Instr.slice, Instr.sliceBounds, hsz, hex]
    | some y =>
      simp [execOp, ho, hk x _ hx, hk y _ (hhi y rfl), Instr.sliceAt, run_underlying ht, Instr.slice, Instr.sliceBounds, Instr.sliceBound, asIntOf, hsz, hb, hex]
  | some z =>
    cases hi with
    | none => have := hhi' rfl; subst this; simp [execOp, ho, hk x _ hx, hk z _ (hlo z rfl), Instr.sliceAt, run_underlying ht, Instr.slice, Instr.sliceBounds, Instr.sliceBound, asIntOf, hsz, hab, hex]
    | some y =>
      simp [execOp, ho, hk x _ hx, hk z _ (hlo z rfl), hk y _ (hhi y rfl), Instr.sliceAt, run_underlying ht, Instr.slice, Instr.sliceBounds, Instr.sliceBound, asIntOf, hsz, hab, hb, hex]
theorem O.strTo {xs : List UInt8} {kb : IntKind} {zb : Int} {b : Nat} {y : Operand} (ho : Fires ops i n σ d (.slice t x none (some y) none)) (ht : P.underlying t = some .string) (hx : ev σ x = some (.string (str xs))) (hy : ev σ y = some (.int kb zb)) (hz : zb = (b : Int)) (hb : b ≤ xs.length)
    (h : O ro P fn n R ops l k ((d, .string (str (xs.take b))) :: σ) D g η) : O ro P fn n R ops (i :: l) k σ D g η := by
  subst hz
  have := str_does (P := P) (σ := σ) (g := g) (kl := .i64) (kh := kb) (a := 0) (b := b) ht hx (lo := none) (hi := some y) (fun _ h => nomatch h) (fun _ => rfl) (fun _ h => by cases h; exact hy) (fun h => nomatch h) (Nat.zero_le _) hb η
  exact O.op ho this h
theorem O.strFrom {xs : List UInt8} {ka : IntKind} {za : Int} {a : Nat} {y : Operand} (ho : Fires ops i n σ d (.slice t x (some y) none none)) (ht : P.underlying t = some .string) (hx : ev σ x = some (.string (str xs))) (hy : ev σ y = some (.int ka za)) (hz : za = (a : Int)) (ha : a ≤ xs.length)
    (h : O ro P fn n R ops l k ((d, .string (str (xs.drop a))) :: σ) D g η) : O ro P fn n R ops (i :: l) k σ D g η := by
  subst hz
  have := str_does (P := P) (σ := σ) (g := g) (kl := ka) (kh := .i64) (a := a) (b := xs.length) ht hx (lo := some y) (hi := none) (fun _ h => by cases h; exact hy) (fun h => nomatch h) (fun _ h => nomatch h) (fun _ => rfl) ha (Nat.le_refl _) η
  rw [List.take_length] at this
  exact O.op ho this h
end
/-- a byte from any number's low bits -/
theorem byte_of (z : Int) (h : 0 ≤ z ∧ z < 256) : ∃ c : UInt8, z = (c.toNat : Int) := ⟨UInt8.ofNat z.toNat, by rw [UInt8.toNat_ofNat']; omega⟩
theorem wrap_byte (z : Int) : ∃ c : UInt8, IntKind.u8.wrap z = (c.toNat : Int) := byte_of _ (by rw [wrap_u8_eq]; omega)
theorem bits_byte (op : BinOp) (a b : Int) : ∃ c : UInt8, bitsOf op .u8 a b = (c.toNat : Int) := by
  unfold bitsOf
  cases op <;> first | exact wrap_byte _ | exact byte_of 0 (by decide)
end Go.Sp
end
section
/- Lists of lists, marked, grown and looked at: what the kit's flat.. functions do, whatever the elements are. -/
namespace Go.Sp
theorem OwnP.mono {α : Type} {T : Rp α} {e : TypeId} {v : Value} {xs : List α} {h k : Fr} (s : h.sub k) : OwnP T e v xs h → OwnP T e v xs k := fun ⟨css, a, b⟩ => ⟨css, a, b.mono s⟩
/-- reads so, of memory of some part -/
def RdW {α : Type} (T : Rp α) (cs : List Value) (a : α) : SProp := fun m => T.rel m cs a
theorem all2_app {α β : Type} {R : β → α → Prop} : ∀ {bs : List β} {as : List α} {bs' : List β} {as' : List α}, All2 R bs as → All2 R bs' as' → All2 R (bs ++ bs') (as ++ as')
  | [], [], _, _, _, h => h
  | [], _ :: _, _, _, h, _ => h.elim
  | _ :: _, [], _, _, h, _ => h.elim
  | _ :: _, _ :: _, _, _, h, h' => ⟨h.1, all2_app h.2 h'⟩
theorem rd_all {α : Type} {T : Rp α} {css : List (List Value)} {xs : List α} {m g : Fr} (h : EachP (RdW T) css xs m) (s : m.sub g) : Cells T g css xs :=
  EachP.all2 (R := fun cs a => T.rel g cs a) (fun _ _ _ z s => T.mono s z) h s
/-- a list of one's own of such -/
def LstP {α : Type} (T : Rp α) (K : Nat) (e : TypeId) (v : Value) (xs : List α) : SProp := fun m => ∃ css, Sat [OwnP (Rp.cells K) e v css, EachP (RdW T) css xs] m
theorem LstP.arr {α : Type} {T : Rp α} {K : Nat} {e : TypeId} {v : Value} {xs : List α} {m : Fr} (hK : K = T.k) : LstP T K e v xs m → Arr T m v xs := by
  rintro ⟨css, h1, h2, _, s1, s2, p, h3, _, _, t, _, y, _⟩
  exact (rd_all y (Fr.sub_trans t s2)).arr hK (p.arr.mono s1)
/-- a list, and what it was grown to -/
def TwoG {α : Type} (T : Rp α) (K : Nat) (e : TypeId) (p : Value × Value) (x : List α × List α) : SProp := fun m => ∃ css ds, Sat [Two (Rp.cells K) e p.1 css p.2 ds, EachP (RdW T) css x.1, EachP (RdW T) ds x.2] m
theorem TwoG.arr {α : Type} {T : Rp α} {K : Nat} {e : TypeId} {p : Value × Value} {x : List α × List α} {m : Fr} (hK : K = T.k) : TwoG T K e p x m → Arr T m p.1 x.1 ∧ Arr T m p.2 (x.1 ++ x.2) := by
  rintro ⟨css, ds, h1, h2, _, s1, s2, w, h3, h4, _, t3, t4, y, h5, _, _, u5, _, z, _⟩
  have a1 := rd_all y (Fr.sub_trans t3 s2)
  have a2 := rd_all z (Fr.sub_trans u5 (Fr.sub_trans t4 s2))
  have hw := Two.arr w
  exact ⟨a1.arr hK (hw.1.mono s1), Cells.arr (all2_app a1 a2) hK (hw.2.mono s1)⟩
section marks
variable {α : Type} (f : Int → Int → α)
/-- the marks of list k -/
def mkL (k n : Nat) : List α := (List.range n).map fun (i : Nat) => f (k : Int) (i : Int)
@[simp] theorem mkL_length (k n : Nat) : (mkL f k n).length = n := by simp [mkL]
theorem mkL_succ (k n : Nat) : mkL f k n ++ [f (k : Int) (n : Int)] = mkL f k (n + 1) := by simp [mkL, List.range_succ]
theorem mkL_get (k n i : Nat) (h : i < (mkL f k n).length) : (mkL f k n)[i] = f (k : Int) (i : Int) := by simp [mkL]
/-- marks from n on -/
def mkX (k n i : Nat) : List α := (List.range i).map fun (q : Nat) => f (k : Int) ((n : Int) + (q : Int))
@[simp] theorem mkX_length (k n i : Nat) : (mkX f k n i).length = i := by simp [mkX]
theorem mkX_succ (k n i : Nat) : mkX f k n i ++ [f (k : Int) ((n : Int) + (i : Int))] = mkX f k n (i + 1) := by simp [mkX, List.range_succ]
theorem mkLX (k n i : Nat) : mkL f k n ++ mkX f k n i = mkL f k (n + i) := by
  induction i with
  | zero => simp [mkX]
  | succ i ih => rw [← mkX_succ, ← List.append_assoc, ih, ← Nat.add_assoc, ← mkL_succ]; simp
def mkM (j n i : Nat) : List α := (List.range i).map fun (q : Nat) => f ((j : Int) + (n : Int)) (q : Int)
@[simp] theorem mkM_length (j n i : Nat) : (mkM f j n i).length = i := by simp [mkM]
theorem mkM_succ (j n i : Nat) : mkM f j n i ++ [f ((j : Int) + (n : Int)) (i : Int)] = mkM f j n (i + 1) := by simp [mkM, List.range_succ]
/-- the marks of the first k lists -/
def mkAll (ns : List Nat) (k : Nat) : List (List α) := (List.range k).map fun j => mkL f j (ns[j]?.getD 0)
theorem mkAll_succ (ns : List Nat) (k : Nat) (h : k < ns.length) : mkAll f ns k ++ [mkL f k ns[k]] = mkAll f ns (k + 1) := by simp [mkAll, List.range_succ, h]
theorem mkAll_drop (ns : List Nat) (n k : Nat) (h : k < n) (hn : k < ns.length) : (mkAll f ns n).drop k = mkL f k ns[k] :: (mkAll f ns n).drop (k + 1) := by
  rw [List.drop_eq_getElem_cons (by simp [mkAll]; omega)]; simp [mkAll, hn]
@[simp] theorem mkAll_length (ns : List Nat) (k : Nat) : (mkAll f ns k).length = k := by simp [mkAll]
def prX (ns : List Nat) (k : Nat) : List (List α × List α) := (List.range k).map fun j => (mkL f j (ns[j]?.getD 0), mkX f j (ns[j]?.getD 0) 64)
theorem prX_succ (ns : List Nat) (k : Nat) (h : k < ns.length) : prX f ns k ++ [(mkL f k ns[k], mkX f k ns[k] 64)] = prX f ns (k + 1) := by simp [prX, List.range_succ, h]
theorem prX_drop (ns : List Nat) (n k : Nat) (h : k < n) (hn : k < ns.length) : (prX f ns n).drop k = (mkL f k ns[k], mkX f k ns[k] 64) :: (prX f ns n).drop (k + 1) := by
  rw [List.drop_eq_getElem_cons (by simp [prX]; omega)]; simp [prX, hn]
def prM (ns : List Nat) (n k : Nat) : List (List α × List α) := (List.range k).map fun j => (mkL f j (ns[j]?.getD 0), mkM f j n 64)
theorem prM_succ (ns : List Nat) (n k : Nat) (h : k < ns.length) : prM f ns n k ++ [(mkL f k ns[k], mkM f k n 64)] = prM f ns n (k + 1) := by simp [prM, List.range_succ, h]
theorem twoG_at {T : Rp α} {K : Nat} (hK : K = T.k) {g : Fr} {vs us : List Value} {ns : List Nat} {n : Nat} {h : Nat → List α} {m : Fr} {e : TypeId} (hm : EachP (TwoG T K e) (vs.zip us) ((List.range n).map fun j => (mkL f j (ns[j]?.getD 0), h j)) m) (hs : m.sub g) (hv : vs.length = n) (hu : us.length = n)
    (k : Nat) (h1 : k < vs.length) (h2 : k < us.length) (h3 : k < ns.length) : Arr T g vs[k] (mkL f k ns[k]) ∧ Arr T g us[k] (mkL f k ns[k] ++ h k) := by
  have h := EachP.all2 (R := fun (p : Value × Value) (x : List α × List α) => Arr T g p.1 x.1 ∧ Arr T g p.2 (x.1 ++ x.2)) (fun b a m' x s => ⟨(TwoG.arr hK x).1.mono s, (TwoG.arr hK x).2.mono s⟩) hm hs
  have h4 := h.get k (by simp; omega) (by simp; omega)
  simpa [h3] using h4
theorem twoG_arr_x {T : Rp α} {K : Nat} (hK : K = T.k) {g : Fr} {vs us : List Value} {ns : List Nat} {n : Nat} {m : Fr} {e : TypeId} (hm : EachP (TwoG T K e) (vs.zip us) (prX f ns n) m) (hs : m.sub g) (hv : vs.length = n) (hu : us.length = n)
    (k : Nat) (h1 : k < vs.length) (h2 : k < us.length) (h3 : k < ns.length) : Arr T g vs[k] (mkL f k ns[k]) ∧ Arr T g us[k] (mkL f k (ns[k] + 64)) := by
  have := twoG_at f hK (h := fun j => mkX f j (ns[j]?.getD 0) 64) hm hs hv hu k h1 h2 h3
  rw [← mkLX]; simpa [h3] using this
theorem twoG_arr_m {T : Rp α} {K : Nat} (hK : K = T.k) {g : Fr} {vs us : List Value} {ns : List Nat} {n q : Nat} {m : Fr} {e : TypeId} (hm : EachP (TwoG T K e) (vs.zip us) (prM f ns q n) m) (hs : m.sub g) (hv : vs.length = n) (hu : us.length = n)
    (k : Nat) (h1 : k < vs.length) (h2 : k < us.length) (h3 : k < ns.length) : Arr T g vs[k] (mkL f k ns[k]) ∧ Arr T g us[k] (mkL f k ns[k] ++ mkM f k q 64) :=
  twoG_at f hK (h := fun j => mkM f j q 64) hm hs hv hu k h1 h2 h3
end marks
section
variable {ro : Option Nat} {P : Program} {fn : Func} {n : Nat} {R : Ending → World → Prop} {todo : List Item} {σ : List (Nat × Value)} {D : List Deferred} {g : Gr} {η ζ θ ξ : List SProp} {α : Type} {T : Rp α} {K : Nat} {e : TypeId} {v u : Value} {xs ys : List α}
theorem S.lstOpen (s : Sel η (LstP T K e v xs) ζ) (h : ∀ css, css.length = xs.length → S ro P fn n R todo σ D g (OwnP (Rp.cells K) e v css :: EachP (RdW T) css xs :: ζ)) : S ro P fn n R todo σ D g η :=
  S.sel s (S.exi (A := fun css m => Sat [OwnP (Rp.cells K) e v css, EachP (RdW T) css xs] m) fun css =>
    S.entail (fun _ x => x) (S.factS (B := EachP (RdW T) css xs) (.there .here) (p := css.length = xs.length) (fun _ x => x.len) fun hl => h css hl))
theorem S.lstShut {css : List (List Value)} (s1 : Sel η (OwnP (Rp.cells K) e v css) ζ) (s2 : Sel ζ (EachP (RdW T) css xs) θ) (h : S ro P fn n R todo σ D g (LstP T K e v xs :: θ)) : S ro P fn n R todo σ D g η :=
  S.imp' (fun _ h => Sat.join2 (A := OwnP (Rp.cells K) e v css) (B := EachP (RdW T) css xs) (fun _ x => ⟨css, x⟩) (Sat.cons_imp (fun _ y => y) (fun _ y => Sat.perm s2.perm y) (Sat.perm s1.perm h))) h
theorem Sat.join3 {A B C E : SProp} {θ : List SProp} (hs : ∀ m, Sat [A, B, C] m → E m) : ∀ {m : Fr}, Sat (A :: B :: C :: θ) m → Sat (E :: θ) m := fun {m} h => by
  have h1 : Sat ([A, B, C] ++ θ) m := h
  obtain ⟨p, q, d, s1, s2, x, y⟩ := Sat.split h1
  exact ⟨p, q, d, s1, s2, hs _ x, y⟩
theorem S.twoShut {css ds : List (List Value)} (s1 : Sel η (Two (Rp.cells K) e v css u ds) ζ) (s2 : Sel ζ (EachP (RdW T) css xs) θ) (s3 : Sel θ (EachP (RdW T) ds ys) ξ) (h : S ro P fn n R todo σ D g (TwoG T K e (v, u) (xs, ys) :: ξ)) : S ro P fn n R todo σ D g η :=
  S.imp' (fun _ h => Sat.join3 (A := Two (Rp.cells K) e v css u ds) (B := EachP (RdW T) css xs) (C := EachP (RdW T) ds ys) (fun _ x => ⟨css, ds, x⟩)
    (Sat.cons_imp (fun _ y => y) (fun _ y => Sat.cons_imp (fun _ y => y) (fun _ y => Sat.perm s3.perm y) (Sat.perm s2.perm y)) (Sat.perm s1.perm h))) h
/-- the list alone -/
theorem TwoG.lst {m : Fr} : TwoG T K e (v, u) (xs, ys) m → ∃ h : Fr, h.sub m ∧ LstP T K e v xs h := by
  rintro ⟨css, ds, h1, h2, d, s1, s2, w, h3, h4, _, t3, t4, y, _⟩
  obtain ⟨h', s', o⟩ := Two.own w
  refine ⟨m, Fr.sub_refl _, css, h', h2, Fr.disj_sub d s' (Fr.sub_refl _), Fr.sub_trans s' s1, s2, o, h3, Fr.emp, Fr.disj_symm (Fr.emp_disj _), t3, Fr.emp_sub _, y, trivial⟩
end
theorem set_over' {α : Type} {us zs : List α} {u : α} {k : Nat} (hu : us.length = k) (hk : k < zs.length) : (us ++ zs.drop k).set k u = (us ++ [u]) ++ zs.drop (k + 1) := by
  rw [List.set_append_right _ _ (by omega), hu, Nat.sub_self, List.drop_eq_getElem_cons hk, List.set_cons_zero]; simp
theorem Sat.ex2 {β : Type} {A : β → List SProp} {θ : List SProp} {C : SProp} {m : Fr} (h : Sat (C :: θ) m) (hC : ∀ m, C m → ∃ x, Sat (A x) m) : ∃ x, Sat (A x ++ θ) m := by
  obtain ⟨_, _, d, s1, s2, x, y⟩ := h
  obtain ⟨b, z⟩ := hC _ x
  exact ⟨b, Sat.mono (Fr.add_sub s1 s2) (Sat.append d z y)⟩
theorem EachP.mono {β α : Type} {A : β → α → SProp} {m k : Fr} (s : m.sub k) : ∀ {bs : List β} {as : List α}, EachP A bs as m → EachP A bs as k
  | [], [], _ => trivial
  | [], _ :: _, h => h.elim
  | _ :: _, [], h => h.elim
  | _ :: _, _ :: _, h => Sat.mono s h
/-- each of two parts: all first ones, all second ones -/
theorem EachP.parts {β γ α : Type} {A : β → γ → SProp} {B : γ → α → SProp} : ∀ {bs : List β} {as : List α} {m : Fr}, EachP (fun b a m => ∃ c, Sat [A b c, B c a] m) bs as m → ∃ cs, Sat [EachP A bs cs, EachP B cs as] m
  | [], [], _, _ => ⟨[], Fr.emp, Fr.emp, Fr.emp_disj _, Fr.emp_sub _, Fr.emp_sub _, trivial, Fr.emp, Fr.emp, Fr.emp_disj _, Fr.emp_sub _, Fr.emp_sub _, trivial, trivial⟩
  | [], _ :: _, _, h => h.elim
  | _ :: _, [], _, h => h.elim
  | b :: bs, a :: as, m, h => by
    have h' : Sat [fun m => ∃ c, Sat [A b c, B c a] m, EachP (fun b a m => ∃ c, Sat [A b c, B c a] m) bs as] m := h
    obtain ⟨c, h1⟩ := Sat.ex2 (A := fun c => [A b c, B c a]) h' fun _ x => x
    obtain ⟨cs, h2⟩ := Sat.ex2 (A := fun cs => [EachP A bs cs, EachP B cs as]) (θ := [A b c, B c a]) (C := EachP (fun b a m => ∃ c, Sat [A b c, B c a] m) bs as) (Sat.perm (List.perm_append_comm (l₁ := [A b c, B c a]) (l₂ := [_])) h1) fun _ x => EachP.parts x
    refine ⟨c :: cs, ?_⟩
    have h3 : Sat ([A b c, EachP A bs cs] ++ [B c a, EachP B cs as]) m := Sat.perm (η := [EachP A bs cs, EachP B cs as] ++ [A b c, B c a]) ((List.perm_append_comm (l₁ := [EachP A bs cs, EachP B cs as]) (l₂ := [A b c, B c a])).trans (List.Perm.cons _ (List.Perm.swap _ _ _))) h2
    obtain ⟨p, q, d, s1, s2, x, y⟩ := Sat.split h3
    exact ⟨p, q, d, s1, s2, x, q, Fr.emp, Fr.disj_symm (Fr.emp_disj _), Fr.sub_refl _, Fr.emp_sub _, y, trivial⟩
theorem EachP.app {β α : Type} {A : β → α → SProp} : ∀ {bs : List β} {as : List α} {bs' : List β} {as' : List α} {m : Fr}, Sat [EachP A bs as, EachP A bs' as'] m → EachP A (bs ++ bs') (as ++ as') m
  | [], [], bs', as', m, h => by
    obtain ⟨_, _, _, _, s2, _, h3, _, _, t, _, y, _⟩ := h
    exact EachP.mono (Fr.sub_trans t s2) y
  | [], _ :: _, _, _, _, h => by obtain ⟨_, _, _, _, _, x, _⟩ := h; exact x.elim
  | _ :: _, [], _, _, _, h => by obtain ⟨_, _, _, _, _, x, _⟩ := h; exact x.elim
  | b :: bs, a :: as, bs', as', m, h => by
    obtain ⟨h1, h2, d, s1, s2, x, y⟩ := h
    have x' : Sat [A b a, EachP A bs as] h1 := x
    obtain ⟨k1, k2, kd, t1, t2, p, k3, k4, kd', u1, u2, q, _⟩ := x'
    show Sat [A b a, EachP A (bs ++ bs') (as ++ as')] m
    have d1 : k3.disj h2 := Fr.disj_sub d (Fr.sub_trans u1 t2) (Fr.sub_refl _)
    refine ⟨k1, k3.add h2, Fr.disj_add_right (Fr.disj_sub kd (Fr.sub_refl _) u1) (Fr.disj_sub d t1 (Fr.sub_refl _)), Fr.sub_trans t1 s1, Fr.add_sub (Fr.sub_trans (Fr.sub_trans u1 t2) s1) s2, p, k3.add h2, Fr.emp, Fr.disj_symm (Fr.emp_disj _), Fr.sub_refl _, Fr.emp_sub _, ?_, trivial⟩
    exact EachP.app ⟨k3, h2, d1, Fr.sub_add_left _ _, Fr.sub_add_right d1, q, y⟩
theorem EachP.flat {β α : Type} {A : β → α → SProp} : ∀ {bss : List (List β)} {ass : List (List α)} {m : Fr}, EachP (EachP A) bss ass m → EachP A bss.flatten ass.flatten m
  | [], [], _, h => h
  | [], _ :: _, _, h => h.elim
  | _ :: _, [], _, h => h.elim
  | bs :: bss, as :: ass, m, h => by
    obtain ⟨h1, h2, d, s1, s2, x, h3, h4, d', t1, t2, y, _⟩ : Sat [EachP A bs as, EachP (EachP A) bss ass] m := h
    have := EachP.flat y
    rw [List.flatten_cons, List.flatten_cons]
    exact EachP.app ⟨h1, h2, d, s1, s2, x, h3, Fr.emp, Fr.disj_symm (Fr.emp_disj _), t1, Fr.emp_sub _, this, trivial⟩
theorem EachP.map {β α γ δ : Type} {A : β → α → SProp} {B : γ → δ → SProp} {f : β → γ} {g : α → δ} (h : ∀ b a m, A b a m → B (f b) (g a) m) : ∀ {bs : List β} {as : List α} {m : Fr}, EachP A bs as m → EachP B (bs.map f) (as.map g) m
  | [], [], _, x => x
  | [], _ :: _, _, x => x.elim
  | _ :: _, [], _, x => x.elim
  | b :: bs, a :: as, m, x => by
    obtain ⟨h1, h2, d, s1, s2, p, h3, h4, d', t1, t2, q, _⟩ : Sat [A b a, EachP A bs as] m := x
    exact ⟨h1, h2, d, s1, s2, h _ _ _ p, h3, Fr.emp, Fr.disj_symm (Fr.emp_disj _), t1, Fr.emp_sub _, EachP.map h q, trivial⟩
/-- what holds of each, without its words -/
theorem EachP.facts {β α : Type} {A : β → α → SProp} {R : β → α → Prop} (hA : ∀ b a m, A b a m → R b a) {bs : List β} {as : List α} {m : Fr} (h : EachP A bs as m) : All2 R bs as := EachP.all2 (fun b a m' z _ => hA b a m' z) h (Fr.sub_refl _)
end Go.Sp
end
