/- Texts of this proof, one behind the other. -/
import Derived.Test.YtodhbhanmdfdeaaGreatSpMore
import Derived.Test.YtodhbhanmdfdeaaGreatProg
import Derived.KernelRfl
section
/- Texts of this proof. -/
namespace Go.Sp
def Rp.Pure {α : Type} (T : Rp α) : Prop := ∀ (h : Fr) (cs : List Value) (a : α), T.rel h cs a → T.rel Fr.emp cs a
theorem pure_u8 : Rp.u8.Pure := fun _ _ _ h => h
theorem pure_i64 : Rp.i64.Pure := fun _ _ _ h => h
def OwnP {α : Type} (T : Rp α) (e : TypeId) (v : Value) (xs : List α) : SProp := fun h => ∃ css : List (List Value), All2 (T.rel Fr.emp) css xs ∧ Own v T.k e xs.length css.flatten h
theorem OwnP.arr {α : Type} {T : Rp α} {e : TypeId} {v : Value} {xs : List α} {h : Fr} : OwnP T e v xs h → Arr T h v xs
 | ⟨css, a, b⟩ => ⟨css, a.imp fun _ _ => T.mono (Fr.emp_sub _), b.sl⟩
theorem OwnP.shape {α : Type} {T : Rp α} {e : TypeId} {v : Value} {xs : List α} {h : Fr} (x : OwnP T e v xs h) : ∃ a c, v = .slice a xs.length c := x.arr.shape
theorem OwnP.of {α : Type} {T : Rp α} {e : TypeId} {v : Value} {xs : List α} {css : List (List Value)} {m : Nat} {cs : List Value} (ha : All2 (T.rel Fr.emp) css xs) (hm : m = xs.length) (hc : cs = css.flatten) {k : Nat} (hk : k = T.k) :
  ∀ h, Own v k e m cs h → OwnP T e v xs h := by subst hm hc hk; exact fun h x => ⟨css, ha, x⟩
theorem all2_map {α : Type} {T : Rp α} {f : α → List Value} (hf : ∀ x, T.rel Fr.emp (f x) x) : ∀ xs : List α, All2 (T.rel Fr.emp) (xs.map f) xs
 | [] => trivial
 | x :: xs => ⟨hf x, all2_map hf xs⟩
theorem All2.one {α : Type} {T : Rp α} {h : Fr} : ∀ {css : List (List Value)} {xs : List α}, All2 (T.rel h) css xs → ∀ c ∈ css.flatten, c.oneCell' = true
 | [], [], _, c, hc => by cases hc
 | _ :: _, _ :: _, ⟨x, y⟩, c, hc => by
  simp only [List.flatten_cons, List.mem_append] at hc
  rcases hc with hc | hc
  ·exact T.one x c hc
  ·exact All2.one y c hc
section
variable {ro : Option Nat} {P : Program} {σ σ' : List (Nat × Value)} {g : Gr} {η η' ζ θ : List SProp} {fn : Func} {n : Nat} {R : Ending → World → Prop} {k K : List Item} {D : List Deferred} {ops : Array Oper} {i d : Nat} {l : List Nat} {t e : TypeId} {x y : Operand} {todo : List Item}
theorem DoesE.appendP {α : Type} {T : Rp α} {by_ : Nat} {z : List Value} {v u : Value} {xs ys : List α} (hT : T.Pure) (ht : P.underlying t = some (.slice e)) (he : elemIs P e T.k by_ z) (hk : 0 < T.k) (hx : ev σ x = some v) (hy : ev σ y = some u)
  (hs : Sel η (OwnP T e v xs) ζ) (hu : Arr T g.h u ys) (hb : (xs.length + ys.length) * by_ ≤ 140737488355328) (h63 : xs.length + ys.length ≤ 9223372036854775807) :
  DoesE P (.call ⟨.builtin .append, #[x, y], #[t, t]⟩) σ g η fun v' η' => ∃ a c, v' = .slice a (xs.length + ys.length) c ∧ η' = OwnP T e v' (xs ++ ys) :: ζ := by
 intro o ρ w h1 h2 h3
 have hw := h3.sel hs
 obtain ⟨p1, p2, p3, K, hd, s1, s2, k1, k2, kd, t1, t2, ⟨css, ha, hown⟩, hr⟩ := hw
 have hw' : Holds w g (Own v T.k e xs.length css.flatten :: ζ) := ⟨p1, p2, p3, K, hd, s1, s2, k1, k2, kd, t1, t2, hown, hr⟩
 obtain ⟨dss, hda, hsl⟩ := hu
 obtain ⟨v', w', η', hη, hrun, hh⟩ := DoesE.append (g := g) ht he hk hx hy .here hsl (All2.one hda) hb h63 o ρ w h1 h2 hw'
 subst hη
 have hh' : Holds w' g (OwnP T e v' (xs ++ ys) :: ζ) := hh.imp fun _ => Sat.cons_imp (OwnP.of (css := css ++ dss) (ha.append (hda.imp fun _ _ q => hT _ _ _ q)) (by simp) (by simp) rfl) fun _ q => q
 obtain ⟨a, c, hv⟩ : ∃ a c, v' = .slice a (xs.length + ys.length) c := by
  obtain ⟨_, _, _, _, _, _, _, k1, _, _, _, _, hA, _⟩ := hh'
  obtain ⟨a, c, h⟩ := hA.shape
  exact ⟨a, c, by simpa using h⟩
 exact ⟨v', w', _, ⟨a, c, hv, rfl⟩, hrun, hh'⟩
theorem DoesE.appendL {α : Type} {T : Rp α} {by_ m : Nat} {z cs : List Value} {v u : Value} {xs ys : List α} {dss : List (List Value)} (ht : P.underlying t = some (.slice e)) (he : elemIs P e T.k by_ z) (hk : 0 < T.k) (hx : ev σ x = some v) (hy : ev σ y = some u)
  (hl : Sel η (Own u T.k e m cs) θ) (hs : Sel θ (OwnP T e v xs) ζ) (hm : m = ys.length) (hc : cs = dss.flatten) (hd : All2 (T.rel Fr.emp) dss ys) (hb : (xs.length + ys.length) * by_ ≤ 140737488355328) (h63 : xs.length + ys.length ≤ 9223372036854775807) :
  DoesE P (.call ⟨.builtin .append, #[x, y], #[t, t]⟩) σ g η fun v' η' => ∃ a c, v' = .slice a (xs.length + ys.length) c ∧ η' = OwnP T e v' (xs ++ ys) :: ζ := by
 subst hm hc
 intro o ρ w h1 h2 h3
 obtain ⟨m, hm, hdj, hw⟩ := (h3.sel hl).freeze
 have hw := hw.sel hs
 obtain ⟨p1, p2, p3, K, hdd, s1, s2, k1, k2, kd, t1, t2, ⟨css, ha, hown⟩, hr⟩ := hw
 have hw' : Holds w (g.add m) (Own v T.k e xs.length css.flatten :: ζ) := ⟨p1, p2, p3, K, hdd, s1, s2, k1, k2, kd, t1, t2, hown, hr⟩
 have hsl : Sl (g.add m).h u T.k ys.length dss.flatten := hm.sl.mono (Fr.sub_add_right hdj)
 obtain ⟨v', w', η', hη, hrun, hh⟩ := DoesE.append (g := g.add m) ht he hk hx hy .here hsl (All2.one hd) hb h63 o ρ w h1 h2 hw'
 subst hη
 have hh' : Holds w' (g.add m) (OwnP T e v' (xs ++ ys) :: ζ) := hh.imp fun _ => Sat.cons_imp (OwnP.of (css := css ++ dss) (ha.append hd) (by simp) (by simp) rfl) fun _ q => q
 obtain ⟨a, c, hv⟩ : ∃ a c, v' = .slice a (xs.length + ys.length) c := by
  obtain ⟨_, _, _, _, _, _, _, k1, _, _, _, _, hA, _⟩ := hh'
  obtain ⟨a, c, h⟩ := hA.shape
  exact ⟨a, c, by simpa using h⟩
 exact ⟨v', w', _, ⟨a, c, hv, rfl⟩, hrun, (hh'.thaw hm hdj).drop⟩
def PtrIn (v : Value) (k j : Nat) (p : Addr) : Prop := ∃ b m c, v = .slice (some ⟨b, 0, none⟩) m c ∧ p = ⟨b, j * k, none⟩
theorem Holds.ownP_block {α : Type} {T : Rp α} {w : World} {v : Value} {xs : List α} (h : Holds w g (OwnP T e v xs :: ζ)) (hne : 0 < xs.length) :
  ∃ b cap cur css, v = .slice (some ⟨b, 0, none⟩) xs.length cap ∧ xs.length ≤ cap ∧ cap ≤ 9223372036854775807 ∧ cur.size = cap * T.k ∧ cur.toList.take (xs.length * T.k) = css.flatten ∧ All2 (T.rel Fr.emp) css xs ∧ ∃ fz, Thawed fz (cap * T.k) ∧ Holds w g (blk b (.cells cur e fz) :: ζ) := by
 obtain ⟨p1, p2, p3, K, hdd, s1, s2, k1, k2, kd, t1, t2, ⟨css, ha, hl, hA⟩, hr⟩ := h
 rcases hA with ⟨_, h0⟩ | ⟨b, cap, cur, hv, ⟨fz, hb, hz⟩, h1, h2, h3, h4⟩
 ·omega
 ·exact ⟨b, cap, cur, css, hv, h1, h2, h3, h4, ha, fz, hz, p1, p2, p3, K, hdd, s1, s2, k1, k2, kd, t1, t2, hb, hr⟩
theorem DoesE.idxOwn {α : Type} {T : Rp α} {v : Value} {xs : List α} {j : Nat} {kd : IntKind} (ht : P.underlying t = some (.slice e)) (he : (P.info? e).map (·.size) = some T.k) (hx : ev σ x = some v) {zi : Int} (hy : ev σ y = some (.int kd zi)) (hzi : zi = (j : Int))
  (hs : Sel η (OwnP T e v xs) ζ) (hj : j < xs.length) : DoesE P (.indexAddr t x y) σ g η fun u η' => ∃ p, u = .pointer (some p) ∧ PtrIn v T.k j p ∧ η' = η :=
 fun o ρ w ho hk hw => by
  subst hzi
  obtain ⟨b, cap, cur, css, rfl, _⟩ := (hw.sel hs).ownP_block (by omega)
  refine ⟨.pointer (some ⟨b, j * T.k, none⟩), w, η, ⟨_, rfl, ⟨b, _, _, rfl, rfl⟩, rfl⟩, ?_, hw⟩
  have e1 : (⟨b, 0, none⟩ : Addr).add (j * T.k) = ⟨b, j * T.k, none⟩ := by rw [add_lit]; simp
  simp [execOp, ho, hk x _ hx, hk y _ hy, Instr.indexAt, asIntOf, run_underlying ht, hj, run_sizeOf he, e1]
theorem set_flat {α : Type} {T : Rp α} {h : Fr} {ds : List Value} {a : α} (hd : T.rel h ds a) : ∀ {css : List (List Value)} {xs : List α} (j : Nat), All2 (T.rel h) css xs → j < xs.length →
  All2 (T.rel h) (css.set j ds) (xs.set j a) ∧ (css.set j ds).flatten = css.flatten.take (j * T.k) ++ ds ++ css.flatten.drop (j * T.k + T.k)
 | [], [], _, _, hj => by simp at hj
 | c :: css, x :: xs, 0, ⟨hc, hr⟩, _ => by
  have hcl := T.len hc
  refine ⟨⟨hd, hr⟩, ?_⟩
  simp [hcl]
 | c :: css, x :: xs, j + 1, ⟨hc, hr⟩, hj => by
  have hcl := T.len hc
  obtain ⟨h1, h2⟩ := set_flat hd j hr (by simpa using hj)
  refine ⟨⟨hc, h1⟩, ?_⟩
  have e1 : (c ++ css.flatten).take ((j + 1) * T.k) = c ++ css.flatten.take (j * T.k) := by
   rw [Nat.succ_mul, List.take_append, List.take_of_length_le (l := c) (by omega)]
   congr 2; omega
  have e2 : (c ++ css.flatten).drop ((j + 1) * T.k + T.k) = css.flatten.drop (j * T.k + T.k) := by
   rw [Nat.succ_mul, List.drop_append, List.drop_eq_nil_of_le (as := c) (by omega), List.nil_append]
   congr 1; omega
  simp only [List.set_cons_succ, List.flatten_cons, h2]
  rw [e1, e2]
  simp
theorem DoesU.storeOwn {α : Type} {T : Rp α} {v u : Value} {xs : List α} {j : Nat} {p : Addr} {a : α} (hsz : (P.info? t).map (·.size) = some T.k) (hx : ev σ x = some (.pointer (some p))) (hp : PtrIn v T.k j p) (hy : ev σ y = some u)
  (hs : Sel η (OwnP T e v xs) ζ) (hj : j < xs.length) (hu : T.rel Fr.emp u.cells.toList a) : DoesU P (.store t x y) σ g η (OwnP T e v (xs.set j a) :: ζ) :=
 fun o ρ w ho hk hw => by
  obtain ⟨b, cap, cur, css, rfl, h1, h2, h3, h4, ha, fz, hfz, hwb⟩ := (hw.sel hs).ownP_block (by omega)
  obtain ⟨b', m', c', he, rfl⟩ := hp
  cases he
  have hul : u.cells.toList.length = T.k := T.len hu
  have hjm : j * T.k + T.k ≤ xs.length * T.k := by rw [← Nat.succ_mul]; exact Nat.mul_le_mul_right _ hj
  have hmc : xs.length * T.k ≤ cur.size := by rw [h3]; exact Nat.mul_le_mul_right _ h1
  have hst := run_storeCells_z P b (j * T.k) e hfz u.cells.toList 0 cur w hwb.block (by omega) (by omega) (T.one hu)
  simp only [Nat.add_zero, hul] at hst
  obtain ⟨q1, q2⟩ := set_flat hu j ha hj
  refine ⟨w.setRow b (cur.toList.take (j * T.k) ++ u.cells.toList ++ cur.toList.drop (j * T.k + T.k)).toArray, ?_, ?_⟩
  ·have hc : u.cells.size = T.k := by rw [← hul]; simp
   simp only [List.append_assoc] at hst ⊢
   simp [execOp, ho, hk x _ hx, hk y _ hy, Instr.storeAt, Instr.sureAddr, storeVar, run_sizeOf hsz, hc, hst]
  ·refine (hwb.setRow.ownF hfz (k := T.k) (m := xs.length) (cap := cap) (cs := (css.set j u.cells.toList).flatten) h1 h2 ?_ ?_).imp fun _ => Sat.cons_imp (OwnP.of q1 (by simp) rfl rfl) fun _ q => q
   ·simp only [List.size_toArray, List.length_append, List.length_take, List.length_drop, Array.length_toList, hul]
    omega
   ·rw [q2, ← h4]
    have l1 : (cur.toList.take (j * T.k)).length = j * T.k := by simp; omega
    simp only [List.append_assoc]
    rw [List.take_append, l1, List.take_take, Nat.min_eq_right (by omega), List.take_append, hul, List.take_take, Nat.min_eq_left (by omega)]
    rw [List.take_of_length_le (l := u.cells.toList) (by omega)]
    congr 2
    rw [List.drop_take]
    congr 1
    omega
theorem reps_flat {α : Type} {T : Rp α} {z : List Value} {a : α} (hz : T.rel Fr.emp z a) : ∀ m : Nat, ∃ css, All2 (T.rel Fr.emp) css (List.replicate m a) ∧ css.flatten = reps z m
 | 0 => ⟨[], trivial, rfl⟩
 | m + 1 => let ⟨css, h1, h2⟩ := reps_flat hz m; ⟨z :: css, ⟨hz, h1⟩, by simp [reps, h2]⟩
theorem DoesE.makeP {α : Type} {T : Rp α} {by_ : Nat} {z : List Value} (a : α) {m : Nat} {kx ky : IntKind} {zx zy : Int} (ht : P.underlying t = some (.slice e)) (he : elemIs P e T.k by_ z) (hk : 0 < T.k) (hz : T.rel Fr.emp z a)
  (hx : ev σ x = some (.int kx zx)) (hy : ev σ y = some (.int ky zy)) (hzx : zx = (m : Int)) (hzy : zy = (m : Int)) (hb : by_ * m ≤ 281474976710656) (h63 : m ≤ 9223372036854775807) :
  DoesE P (.makeSlice t x y) σ g η fun v η' => ∃ a' c, v = .slice a' m c ∧ η' = OwnP T e v (List.replicate m a) :: η := by
 subst hzx hzy
 intro o ρ w h1 h2 h3
 obtain ⟨v, w', η', hη, hrun, hw⟩ := DoesE.make (g := g) (η := η) ht he hk hx hy hb h63 o ρ w h1 h2 h3
 subst hη
 obtain ⟨css, q1, q2⟩ := reps_flat hz m
 have hh : Holds w' g (OwnP T e v (List.replicate m a) :: η) := hw.imp fun _ => Sat.cons_imp (OwnP.of q1 (by simp) q2.symm rfl) fun _ q => q
 obtain ⟨a', c, hv⟩ : ∃ a' c, v = .slice a' m c := by
  obtain ⟨_, _, _, _, _, _, _, k1, _, _, _, _, hA, _⟩ := hh
  obtain ⟨a', c, h⟩ := hA.shape
  exact ⟨a', c, by simpa using h⟩
 exact ⟨v, w', _, ⟨a', c, hv, rfl⟩, hrun, hh⟩
theorem DoesE.makeP0 {α : Type} {T : Rp α} {by_ : Nat} {z : List Value} {c : Nat} {kx ky : IntKind} {zx zy : Int} (ht : P.underlying t = some (.slice e)) (he : elemIs P e T.k by_ z)
  (hx : ev σ x = some (.int kx zx)) (hy : ev σ y = some (.int ky zy)) (hzx : zx = 0) (hzy : zy = (c : Int)) (hb : by_ * c ≤ 281474976710656) (h63 : c ≤ 9223372036854775807) :
  DoesE P (.makeSlice t x y) σ g η fun v η' => ∃ a' c, v = .slice a' 0 c ∧ η' = OwnP T e v [] :: η := by
 subst hzx hzy
 intro o ρ w h1 h2 h3
 obtain ⟨v, w', η', hη, hrun, hw⟩ := DoesE.make0 (g := g) (η := η) ht he hx hy hb h63 o ρ w h1 h2 h3
 subst hη
 have hh : Holds w' g (OwnP T e v [] :: η) := hw.imp fun _ => Sat.cons_imp (OwnP.of (T := T) (xs := []) (css := []) trivial (by simp) rfl rfl) fun _ q => q
 obtain ⟨a', c, hv⟩ : ∃ a' c, v = .slice a' 0 c := by
  obtain ⟨_, _, _, _, _, _, _, k1, _, _, _, _, hA, _⟩ := hh
  obtain ⟨a', c, h⟩ := hA.shape
  exact ⟨a', c, by simpa using h⟩
 exact ⟨v, w', _, ⟨a', c, hv, rfl⟩, hrun, hh⟩
theorem DoesE.litP {α : Type} {T : Rp α} {by_ len : Nat} {z : List Value} {parts : Array (Nat × Operand)} {vs : List Value} {ys : List α} (ht : P.underlying t = some (.slice e)) (he : elemIs P e T.k by_ z) (hk : 0 < T.k)
  (hp : partsOf σ parts.toList 0 = some vs) (hlen : parts.toList.length = len) (hvs : All2 (T.rel Fr.emp) (vs.map (·.cells.toList)) ys) (h24 : len * T.k ≤ 16777216) :
  DoesE P (.buildSlice t len parts) σ g η fun v η' => ∃ a c, v = .slice a len c ∧ η' = OwnP T e v ys :: η := by
 intro o ρ w h1 h2 h3
 have hl : vs.length = len := by rw [partsOf_length _ _ _ hp, hlen]
 have hyl : ys.length = len := by rw [← hvs.length, List.length_map, hl]
 have hall : vs.all (fun v => Nat.beq v.cells.size T.k) = true := by
  rw [List.all_eq_true]
  intro v hv
  obtain ⟨i, hi, rfl⟩ := List.mem_iff_getElem.1 hv
  have := T.len (hvs.get i (by simpa using hi) (by omega))
  have hs : vs[i].cells.size = T.k := by simpa using this
  rw [hs]; exact Nat.beq_refl _
 obtain ⟨v, w', η', hη, hrun, hw⟩ := DoesE.lit (g := g) (η := η) ht he hk hp hlen hall h24 o ρ w h1 h2 h3
 subst hη
 have hh : Holds w' g (OwnP T e v ys :: η) := hw.imp fun _ => Sat.cons_imp (OwnP.of hvs hyl.symm rfl rfl) fun _ q => q
 obtain ⟨a', c, hv⟩ : ∃ a' c, v = .slice a' len c := by
  obtain ⟨_, _, _, _, _, _, _, k1, _, _, _, _, hA, _⟩ := hh
  obtain ⟨a', c, h⟩ := hA.shape
  exact ⟨a', c, by simpa [hyl] using h⟩
 exact ⟨v, w', _, ⟨a', c, hv, rfl⟩, hrun, hh⟩
theorem DoesE.appendO {α : Type} {T : Rp α} {by_ : Nat} {z : List Value} {v u : Value} {xs ys : List α} (ht : P.underlying t = some (.slice e)) (he : elemIs P e T.k by_ z) (hk : 0 < T.k) (hx : ev σ x = some v) (hy : ev σ y = some u)
  (hl : Sel η (OwnP T e u ys) θ) (hs : Sel θ (OwnP T e v xs) ζ) (hb : (xs.length + ys.length) * by_ ≤ 140737488355328) (h63 : xs.length + ys.length ≤ 9223372036854775807) :
  DoesE P (.call ⟨.builtin .append, #[x, y], #[t, t]⟩) σ g η fun v' η' => ∃ a c, v' = .slice a (xs.length + ys.length) c ∧ η' = OwnP T e v' (xs ++ ys) :: ζ := by
 intro o ρ w h1 h2 h3
 obtain ⟨p1, p2, p3, K, hdd, s1, s2, k1, k2, kd, t1, t2, ⟨css, ha, hown⟩, hr⟩ := h3.sel hl
 have hw' : Holds w g (Own u T.k e ys.length css.flatten :: θ) := ⟨p1, p2, p3, K, hdd, s1, s2, k1, k2, kd, t1, t2, hown, hr⟩
 exact DoesE.appendL (g := g) ht he hk hx hy .here hs rfl rfl ha hb h63 o ρ w h1 h2 hw'
theorem ownP_nil {α : Type} {T : Rp α} : ∀ h, OwnP T e (.slice none 0 0) ([] : List α) h := fun _ => ⟨[], trivial, by simp, .inl ⟨rfl, rfl⟩⟩
theorem S.addNil {α : Type} {T : Rp α} (h : S ro P fn n R todo σ D g (OwnP T e (.slice none 0 0) ([] : List α) :: η)) : S ro P fn n R todo σ D g η :=
 S.imp (η' := OwnP T e (.slice none 0 0) ([] : List α) :: η) (fun m hm => ⟨Fr.emp, m, Fr.emp_disj _, Fr.emp_sub _, Fr.sub_refl _, ownP_nil _, hm⟩) h
end
end Go.Sp
end
section
/- Texts of this proof. -/
open Go Go.Sp
set_option maxRecDepth 100000
namespace Go.Proofs.YtodhbhanmdfdeaaGreat
theorem F.elem158 : elemIs Tryz.prog 158 8 136 [.string ⟨#[]⟩, .int .i64 0, .int .i64 0, .slice none 0 0, .bool false, .slice none 0 0, .slice none 0 0, .slice none 0 0] := elemIs.mk (by kernel_rfl) rfl
theorem F.elem166 : elemIs Tryz.prog 166 2 16 [.int .i64 0, .int .i64 0] := elemIs.mk (by kernel_rfl) rfl
theorem F.elem184 : elemIs Tryz.prog 184 1 24 [.slice none 0 0] := elemIs.mk (by kernel_rfl) rfl
theorem F.elem22 : elemIs Tryz.prog 22 1 24 [.slice none 0 0] := elemIs.mk (by kernel_rfl) rfl
theorem F.elem23 : elemIs Tryz.prog 23 1 24 [.slice none 0 0] := elemIs.mk (by kernel_rfl) rfl
theorem F.elem24 : elemIs Tryz.prog 24 1 24 [.slice none 0 0] := elemIs.mk (by kernel_rfl) rfl
theorem F.elem25 : elemIs Tryz.prog 25 1 24 [.slice none 0 0] := elemIs.mk (by kernel_rfl) rfl
theorem F.elem260 : elemIs Tryz.prog 260 1 24 [.slice none 0 0] := elemIs.mk (by kernel_rfl) rfl
theorem F.elem262 : elemIs Tryz.prog 262 1 24 [.slice none 0 0] := elemIs.mk (by kernel_rfl) rfl
theorem F.elem263 : elemIs Tryz.prog 263 1 24 [.slice none 0 0] := elemIs.mk (by kernel_rfl) rfl
theorem F.elem264 : elemIs Tryz.prog 264 1 24 [.slice none 0 0] := elemIs.mk (by kernel_rfl) rfl
theorem F.elem267 : elemIs Tryz.prog 267 1 24 [.slice none 0 0] := elemIs.mk (by kernel_rfl) rfl
theorem F.elem272 : elemIs Tryz.prog 272 1 24 [.slice none 0 0] := elemIs.mk (by kernel_rfl) rfl
theorem F.elem278 : elemIs Tryz.prog 278 1 24 [.slice none 0 0] := elemIs.mk (by kernel_rfl) rfl
theorem F.elem283 : elemIs Tryz.prog 283 1 24 [.slice none 0 0] := elemIs.mk (by kernel_rfl) rfl
theorem F.elem288 : elemIs Tryz.prog 288 1 24 [.slice none 0 0] := elemIs.mk (by kernel_rfl) rfl
theorem F.elem294 : elemIs Tryz.prog 294 1 24 [.slice none 0 0] := elemIs.mk (by kernel_rfl) rfl
theorem F.elem299 : elemIs Tryz.prog 299 1 24 [.slice none 0 0] := elemIs.mk (by kernel_rfl) rfl
theorem F.elem3 : elemIs Tryz.prog 3 1 8 [.int .i64 0] := elemIs.mk (by kernel_rfl) rfl
theorem F.elem306 : elemIs Tryz.prog 306 1 24 [.slice none 0 0] := elemIs.mk (by kernel_rfl) rfl
theorem F.elem31 : elemIs Tryz.prog 31 1 24 [.slice none 0 0] := elemIs.mk (by kernel_rfl) rfl
theorem F.elem311 : elemIs Tryz.prog 311 1 24 [.slice none 0 0] := elemIs.mk (by kernel_rfl) rfl
theorem F.elem317 : elemIs Tryz.prog 317 1 24 [.slice none 0 0] := elemIs.mk (by kernel_rfl) rfl
theorem F.elem39 : elemIs Tryz.prog 39 1 24 [.slice none 0 0] := elemIs.mk (by kernel_rfl) rfl
theorem F.elem45 : elemIs Tryz.prog 45 1 24 [.slice none 0 0] := elemIs.mk (by kernel_rfl) rfl
theorem F.elem47 : elemIs Tryz.prog 47 1 24 [.slice none 0 0] := elemIs.mk (by kernel_rfl) rfl
theorem F.elem49 : elemIs Tryz.prog 49 2 40 [.string ⟨#[]⟩, .slice none 0 0] := elemIs.mk (by kernel_rfl) rfl
theorem F.elem5 : elemIs Tryz.prog 5 1 1 [.int .u8 0] := elemIs.mk (by kernel_rfl) rfl
theorem F.elem52 : elemIs Tryz.prog 52 5 72 [.int .i64 0, .int .i64 0, .int .i64 0, .slice none 0 0, .slice none 0 0] := elemIs.mk (by kernel_rfl) rfl
theorem F.elem55 : elemIs Tryz.prog 55 10 144 [.int .i64 0, .int .i64 0, .int .i64 0, .slice none 0 0, .slice none 0 0, .int .i64 0, .int .i64 0, .int .i64 0, .slice none 0 0, .slice none 0 0] := elemIs.mk (by kernel_rfl) rfl
theorem F.elem72 : elemIs Tryz.prog 72 1 24 [.slice none 0 0] := elemIs.mk (by kernel_rfl) rfl
theorem F.elem74 : elemIs Tryz.prog 74 7 112 [.string ⟨#[]⟩, .int .i64 0, .int .i64 0, .slice none 0 0, .bool false, .slice none 0 0, .slice none 0 0] := elemIs.mk (by kernel_rfl) rfl
theorem F.elem9 : elemIs Tryz.prog 9 1 16 [.string ⟨#[]⟩] := elemIs.mk (by kernel_rfl) rfl
theorem F.flat100 : Go.Sp.flat1 Tryz.prog 100 = true := by kernel_rfl
theorem F.flat101 : Go.Sp.flat1 Tryz.prog 101 = true := by kernel_rfl
theorem F.flat102 : Go.Sp.flat1 Tryz.prog 102 = true := by kernel_rfl
theorem F.flat103 : Go.Sp.flat1 Tryz.prog 103 = true := by kernel_rfl
theorem F.flat104 : Go.Sp.flat1 Tryz.prog 104 = true := by kernel_rfl
theorem F.flat105 : Go.Sp.flat1 Tryz.prog 105 = true := by kernel_rfl
theorem F.flat106 : Go.Sp.flat1 Tryz.prog 106 = true := by kernel_rfl
theorem F.flat107 : Go.Sp.flat1 Tryz.prog 107 = true := by kernel_rfl
theorem F.flat108 : Go.Sp.flat1 Tryz.prog 108 = true := by kernel_rfl
theorem F.flat109 : Go.Sp.flat1 Tryz.prog 109 = true := by kernel_rfl
theorem F.flat110 : Go.Sp.flat1 Tryz.prog 110 = true := by kernel_rfl
theorem F.flat111 : Go.Sp.flat1 Tryz.prog 111 = true := by kernel_rfl
theorem F.flat112 : Go.Sp.flat1 Tryz.prog 112 = true := by kernel_rfl
theorem F.flat113 : Go.Sp.flat1 Tryz.prog 113 = true := by kernel_rfl
theorem F.flat114 : Go.Sp.flat1 Tryz.prog 114 = true := by kernel_rfl
theorem F.flat115 : Go.Sp.flat1 Tryz.prog 115 = true := by kernel_rfl
theorem F.flat116 : Go.Sp.flat1 Tryz.prog 116 = true := by kernel_rfl
theorem F.flat117 : Go.Sp.flat1 Tryz.prog 117 = true := by kernel_rfl
theorem F.flat118 : Go.Sp.flat1 Tryz.prog 118 = true := by kernel_rfl
theorem F.flat119 : Go.Sp.flat1 Tryz.prog 119 = true := by kernel_rfl
theorem F.flat120 : Go.Sp.flat1 Tryz.prog 120 = true := by kernel_rfl
theorem F.flat146 : Go.Sp.flat1 Tryz.prog 146 = true := by kernel_rfl
theorem F.flat184 : Go.Sp.flat1 Tryz.prog 184 = true := by kernel_rfl
theorem F.flat196 : Go.Sp.flat1 Tryz.prog 196 = true := by kernel_rfl
theorem F.flat22 : Go.Sp.flat1 Tryz.prog 22 = true := by kernel_rfl
theorem F.flat23 : Go.Sp.flat1 Tryz.prog 23 = true := by kernel_rfl
theorem F.flat24 : Go.Sp.flat1 Tryz.prog 24 = true := by kernel_rfl
theorem F.flat25 : Go.Sp.flat1 Tryz.prog 25 = true := by kernel_rfl
theorem F.flat3 : Go.Sp.flat1 Tryz.prog 3 = true := by kernel_rfl
theorem F.flat31 : Go.Sp.flat1 Tryz.prog 31 = true := by kernel_rfl
theorem F.flat32 : Go.Sp.flat1 Tryz.prog 32 = true := by kernel_rfl
theorem F.flat39 : Go.Sp.flat1 Tryz.prog 39 = true := by kernel_rfl
theorem F.flat4 : Go.Sp.flat1 Tryz.prog 4 = true := by kernel_rfl
theorem F.flat46 : Go.Sp.flat1 Tryz.prog 46 = true := by kernel_rfl
theorem F.flat47 : Go.Sp.flat1 Tryz.prog 47 = true := by kernel_rfl
theorem F.flat5 : Go.Sp.flat1 Tryz.prog 5 = true := by kernel_rfl
theorem F.flat65 : Go.Sp.flat1 Tryz.prog 65 = true := by kernel_rfl
theorem F.flat72 : Go.Sp.flat1 Tryz.prog 72 = true := by kernel_rfl
theorem F.flat9 : Go.Sp.flat1 Tryz.prog 9 = true := by kernel_rfl
theorem F.fld122x0 : fieldOff Tryz.prog 122 0 = some 0 := by kernel_rfl
theorem F.fld122x1 : fieldOff Tryz.prog 122 1 = some 1 := by kernel_rfl
theorem F.fld122x10 : fieldOff Tryz.prog 122 10 = some 10 := by kernel_rfl
theorem F.fld122x11 : fieldOff Tryz.prog 122 11 = some 11 := by kernel_rfl
theorem F.fld122x12 : fieldOff Tryz.prog 122 12 = some 12 := by kernel_rfl
theorem F.fld122x13 : fieldOff Tryz.prog 122 13 = some 13 := by kernel_rfl
theorem F.fld122x14 : fieldOff Tryz.prog 122 14 = some 14 := by kernel_rfl
theorem F.fld122x15 : fieldOff Tryz.prog 122 15 = some 15 := by kernel_rfl
theorem F.fld122x16 : fieldOff Tryz.prog 122 16 = some 16 := by kernel_rfl
theorem F.fld122x17 : fieldOff Tryz.prog 122 17 = some 17 := by kernel_rfl
theorem F.fld122x18 : fieldOff Tryz.prog 122 18 = some 18 := by kernel_rfl
theorem F.fld122x19 : fieldOff Tryz.prog 122 19 = some 19 := by kernel_rfl
theorem F.fld122x2 : fieldOff Tryz.prog 122 2 = some 2 := by kernel_rfl
theorem F.fld122x20 : fieldOff Tryz.prog 122 20 = some 20 := by kernel_rfl
theorem F.fld122x21 : fieldOff Tryz.prog 122 21 = some 21 := by kernel_rfl
theorem F.fld122x22 : fieldOff Tryz.prog 122 22 = some 22 := by kernel_rfl
theorem F.fld122x23 : fieldOff Tryz.prog 122 23 = some 23 := by kernel_rfl
theorem F.fld122x3 : fieldOff Tryz.prog 122 3 = some 3 := by kernel_rfl
theorem F.fld122x4 : fieldOff Tryz.prog 122 4 = some 4 := by kernel_rfl
theorem F.fld122x5 : fieldOff Tryz.prog 122 5 = some 5 := by kernel_rfl
theorem F.fld122x6 : fieldOff Tryz.prog 122 6 = some 6 := by kernel_rfl
theorem F.fld122x7 : fieldOff Tryz.prog 122 7 = some 7 := by kernel_rfl
theorem F.fld122x8 : fieldOff Tryz.prog 122 8 = some 8 := by kernel_rfl
theorem F.fld122x9 : fieldOff Tryz.prog 122 9 = some 9 := by kernel_rfl
theorem F.fld148x0 : fieldOff Tryz.prog 148 0 = some 0 := by kernel_rfl
theorem F.fld158x0 : fieldOff Tryz.prog 158 0 = some 0 := by kernel_rfl
theorem F.fld158x1 : fieldOff Tryz.prog 158 1 = some 7 := by kernel_rfl
theorem F.fld163x0 : fieldOff Tryz.prog 163 0 = some 0 := by kernel_rfl
theorem F.fld166x0 : fieldOff Tryz.prog 166 0 = some 0 := by kernel_rfl
theorem F.fld166x1 : fieldOff Tryz.prog 166 1 = some 1 := by kernel_rfl
theorem F.fld183x0 : fieldOff Tryz.prog 183 0 = some 0 := by kernel_rfl
theorem F.fld186x0 : fieldOff Tryz.prog 186 0 = some 0 := by kernel_rfl
theorem F.fld186x1 : fieldOff Tryz.prog 186 1 = some 1 := by kernel_rfl
theorem F.fld186x2 : fieldOff Tryz.prog 186 2 = some 2 := by kernel_rfl
theorem F.fld186x3 : fieldOff Tryz.prog 186 3 = some 7 := by kernel_rfl
theorem F.fld186x4 : fieldOff Tryz.prog 186 4 = some 8 := by kernel_rfl
theorem F.fld27x0 : fieldOff Tryz.prog 27 0 = some 0 := by kernel_rfl
theorem F.fld27x1 : fieldOff Tryz.prog 27 1 = some 1 := by kernel_rfl
theorem F.fld27x2 : fieldOff Tryz.prog 27 2 = some 2 := by kernel_rfl
theorem F.fld27x3 : fieldOff Tryz.prog 27 3 = some 3 := by kernel_rfl
theorem F.fld345x0 : fieldOff Tryz.prog 345 0 = some 0 := by kernel_rfl
theorem F.fld351x0 : fieldOff Tryz.prog 351 0 = some 0 := by kernel_rfl
theorem F.fld351x1 : fieldOff Tryz.prog 351 1 = some 5 := by kernel_rfl
theorem F.fld49x0 : fieldOff Tryz.prog 49 0 = some 0 := by kernel_rfl
theorem F.fld49x1 : fieldOff Tryz.prog 49 1 = some 1 := by kernel_rfl
theorem F.fld52x0 : fieldOff Tryz.prog 52 0 = some 0 := by kernel_rfl
theorem F.fld52x1 : fieldOff Tryz.prog 52 1 = some 1 := by kernel_rfl
theorem F.fld52x2 : fieldOff Tryz.prog 52 2 = some 2 := by kernel_rfl
theorem F.fld52x3 : fieldOff Tryz.prog 52 3 = some 3 := by kernel_rfl
theorem F.fld52x4 : fieldOff Tryz.prog 52 4 = some 4 := by kernel_rfl
theorem F.fld55x0 : fieldOff Tryz.prog 55 0 = some 0 := by kernel_rfl
theorem F.fld55x1 : fieldOff Tryz.prog 55 1 = some 5 := by kernel_rfl
theorem F.fld74x0 : fieldOff Tryz.prog 74 0 = some 0 := by kernel_rfl
theorem F.fld74x1 : fieldOff Tryz.prog 74 1 = some 1 := by kernel_rfl
theorem F.fld74x2 : fieldOff Tryz.prog 74 2 = some 2 := by kernel_rfl
theorem F.fld74x3 : fieldOff Tryz.prog 74 3 = some 3 := by kernel_rfl
theorem F.fld74x4 : fieldOff Tryz.prog 74 4 = some 4 := by kernel_rfl
theorem F.fld74x5 : fieldOff Tryz.prog 74 5 = some 5 := by kernel_rfl
theorem F.fld74x6 : fieldOff Tryz.prog 74 6 = some 6 := by kernel_rfl
theorem F.mixed : Tryz.prog.follows .mixedOrders = true := by kernel_rfl
theorem F.ok100 : callable Tryz.prog 100 = true := by kernel_rfl
theorem F.ok101 : callable Tryz.prog 101 = true := by kernel_rfl
theorem F.ok104 : callable Tryz.prog 104 = true := by kernel_rfl
theorem F.ok107 : callable Tryz.prog 107 = true := by kernel_rfl
theorem F.ok108 : callable Tryz.prog 108 = true := by kernel_rfl
theorem F.ok109 : callable Tryz.prog 109 = true := by kernel_rfl
theorem F.ok110 : callable Tryz.prog 110 = true := by kernel_rfl
theorem F.ok112 : callable Tryz.prog 112 = true := by kernel_rfl
theorem F.ok114 : callable Tryz.prog 114 = true := by kernel_rfl
theorem F.ok115 : callable Tryz.prog 115 = true := by kernel_rfl
theorem F.ok116 : callable Tryz.prog 116 = true := by kernel_rfl
theorem F.ok117 : callable Tryz.prog 117 = true := by kernel_rfl
theorem F.ok118 : callable Tryz.prog 118 = true := by kernel_rfl
theorem F.ok119 : callable Tryz.prog 119 = true := by kernel_rfl
theorem F.ok122 : callable Tryz.prog 122 = true := by kernel_rfl
theorem F.ok123 : callable Tryz.prog 123 = true := by kernel_rfl
theorem F.ok124 : callable Tryz.prog 124 = true := by kernel_rfl
theorem F.ok125 : callable Tryz.prog 125 = true := by kernel_rfl
theorem F.ok130 : callable Tryz.prog 130 = true := by kernel_rfl
theorem F.ok137 : callable Tryz.prog 137 = true := by kernel_rfl
theorem F.ok138 : callable Tryz.prog 138 = true := by kernel_rfl
theorem F.ok139 : callable Tryz.prog 139 = true := by kernel_rfl
theorem F.ok14 : callable Tryz.prog 14 = true := by kernel_rfl
theorem F.ok140 : callable Tryz.prog 140 = true := by kernel_rfl
theorem F.ok141 : callable Tryz.prog 141 = true := by kernel_rfl
theorem F.ok142 : callable Tryz.prog 142 = true := by kernel_rfl
theorem F.ok143 : callable Tryz.prog 143 = true := by kernel_rfl
theorem F.ok144 : callable Tryz.prog 144 = true := by kernel_rfl
theorem F.ok145 : callable Tryz.prog 145 = true := by kernel_rfl
theorem F.ok146 : callable Tryz.prog 146 = true := by kernel_rfl
theorem F.ok147 : callable Tryz.prog 147 = true := by kernel_rfl
theorem F.ok148 : callable Tryz.prog 148 = true := by kernel_rfl
theorem F.ok149 : callable Tryz.prog 149 = true := by kernel_rfl
theorem F.ok15 : callable Tryz.prog 15 = true := by kernel_rfl
theorem F.ok150 : callable Tryz.prog 150 = true := by kernel_rfl
theorem F.ok151 : callable Tryz.prog 151 = true := by kernel_rfl
theorem F.ok152 : callable Tryz.prog 152 = true := by kernel_rfl
theorem F.ok153 : callable Tryz.prog 153 = true := by kernel_rfl
theorem F.ok154 : callable Tryz.prog 154 = true := by kernel_rfl
theorem F.ok155 : callable Tryz.prog 155 = true := by kernel_rfl
theorem F.ok156 : callable Tryz.prog 156 = true := by kernel_rfl
theorem F.ok157 : callable Tryz.prog 157 = true := by kernel_rfl
theorem F.ok158 : callable Tryz.prog 158 = true := by kernel_rfl
theorem F.ok159 : callable Tryz.prog 159 = true := by kernel_rfl
theorem F.ok16 : callable Tryz.prog 16 = true := by kernel_rfl
theorem F.ok160 : callable Tryz.prog 160 = true := by kernel_rfl
theorem F.ok161 : callable Tryz.prog 161 = true := by kernel_rfl
theorem F.ok162 : callable Tryz.prog 162 = true := by kernel_rfl
theorem F.ok163 : callable Tryz.prog 163 = true := by kernel_rfl
theorem F.ok164 : callable Tryz.prog 164 = true := by kernel_rfl
theorem F.ok165 : callable Tryz.prog 165 = true := by kernel_rfl
theorem F.ok166 : callable Tryz.prog 166 = true := by kernel_rfl
theorem F.ok167 : callable Tryz.prog 167 = true := by kernel_rfl
theorem F.ok168 : callable Tryz.prog 168 = true := by kernel_rfl
theorem F.ok169 : callable Tryz.prog 169 = true := by kernel_rfl
theorem F.ok17 : callable Tryz.prog 17 = true := by kernel_rfl
theorem F.ok170 : callable Tryz.prog 170 = true := by kernel_rfl
theorem F.ok171 : callable Tryz.prog 171 = true := by kernel_rfl
theorem F.ok172 : callable Tryz.prog 172 = true := by kernel_rfl
theorem F.ok173 : callable Tryz.prog 173 = true := by kernel_rfl
theorem F.ok174 : callable Tryz.prog 174 = true := by kernel_rfl
theorem F.ok175 : callable Tryz.prog 175 = true := by kernel_rfl
theorem F.ok176 : callable Tryz.prog 176 = true := by kernel_rfl
theorem F.ok177 : callable Tryz.prog 177 = true := by kernel_rfl
theorem F.ok178 : callable Tryz.prog 178 = true := by kernel_rfl
theorem F.ok179 : callable Tryz.prog 179 = true := by kernel_rfl
theorem F.ok18 : callable Tryz.prog 18 = true := by kernel_rfl
theorem F.ok180 : callable Tryz.prog 180 = true := by kernel_rfl
theorem F.ok181 : callable Tryz.prog 181 = true := by kernel_rfl
theorem F.ok182 : callable Tryz.prog 182 = true := by kernel_rfl
theorem F.ok183 : callable Tryz.prog 183 = true := by kernel_rfl
theorem F.ok184 : callable Tryz.prog 184 = true := by kernel_rfl
theorem F.ok185 : callable Tryz.prog 185 = true := by kernel_rfl
theorem F.ok19 : callable Tryz.prog 19 = true := by kernel_rfl
theorem F.ok20 : callable Tryz.prog 20 = true := by kernel_rfl
theorem F.ok201 : callable Tryz.prog 201 = true := by kernel_rfl
theorem F.ok202 : callable Tryz.prog 202 = true := by kernel_rfl
theorem F.ok204 : callable Tryz.prog 204 = true := by kernel_rfl
theorem F.ok207 : callable Tryz.prog 207 = true := by kernel_rfl
theorem F.ok208 : callable Tryz.prog 208 = true := by kernel_rfl
theorem F.ok209 : callable Tryz.prog 209 = true := by kernel_rfl
theorem F.ok21 : callable Tryz.prog 21 = true := by kernel_rfl
theorem F.ok212 : callable Tryz.prog 212 = true := by kernel_rfl
theorem F.ok213 : callable Tryz.prog 213 = true := by kernel_rfl
theorem F.ok214 : callable Tryz.prog 214 = true := by kernel_rfl
theorem F.ok215 : callable Tryz.prog 215 = true := by kernel_rfl
theorem F.ok216 : callable Tryz.prog 216 = true := by kernel_rfl
theorem F.ok218 : callable Tryz.prog 218 = true := by kernel_rfl
theorem F.ok22 : callable Tryz.prog 22 = true := by kernel_rfl
theorem F.ok220 : callable Tryz.prog 220 = true := by kernel_rfl
theorem F.ok221 : callable Tryz.prog 221 = true := by kernel_rfl
theorem F.ok223 : callable Tryz.prog 223 = true := by kernel_rfl
theorem F.ok224 : callable Tryz.prog 224 = true := by kernel_rfl
theorem F.ok225 : callable Tryz.prog 225 = true := by kernel_rfl
theorem F.ok23 : callable Tryz.prog 23 = true := by kernel_rfl
theorem F.ok235 : callable Tryz.prog 235 = true := by kernel_rfl
theorem F.ok236 : callable Tryz.prog 236 = true := by kernel_rfl
theorem F.ok237 : callable Tryz.prog 237 = true := by kernel_rfl
theorem F.ok238 : callable Tryz.prog 238 = true := by kernel_rfl
theorem F.ok239 : callable Tryz.prog 239 = true := by kernel_rfl
theorem F.ok24 : callable Tryz.prog 24 = true := by kernel_rfl
theorem F.ok240 : callable Tryz.prog 240 = true := by kernel_rfl
theorem F.ok241 : callable Tryz.prog 241 = true := by kernel_rfl
theorem F.ok242 : callable Tryz.prog 242 = true := by kernel_rfl
theorem F.ok244 : callable Tryz.prog 244 = true := by kernel_rfl
theorem F.ok268 : callable Tryz.prog 268 = true := by kernel_rfl
theorem F.ok27 : callable Tryz.prog 27 = true := by kernel_rfl
theorem F.ok270 : callable Tryz.prog 270 = true := by kernel_rfl
theorem F.ok271 : callable Tryz.prog 271 = true := by kernel_rfl
theorem F.ok277 : callable Tryz.prog 277 = true := by kernel_rfl
theorem F.ok278 : callable Tryz.prog 278 = true := by kernel_rfl
theorem F.ok281 : callable Tryz.prog 281 = true := by kernel_rfl
theorem F.ok283 : callable Tryz.prog 283 = true := by kernel_rfl
theorem F.ok284 : callable Tryz.prog 284 = true := by kernel_rfl
theorem F.ok285 : callable Tryz.prog 285 = true := by kernel_rfl
theorem F.ok286 : callable Tryz.prog 286 = true := by kernel_rfl
theorem F.ok287 : callable Tryz.prog 287 = true := by kernel_rfl
theorem F.ok288 : callable Tryz.prog 288 = true := by kernel_rfl
theorem F.ok290 : callable Tryz.prog 290 = true := by kernel_rfl
theorem F.ok291 : callable Tryz.prog 291 = true := by kernel_rfl
theorem F.ok292 : callable Tryz.prog 292 = true := by kernel_rfl
theorem F.ok297 : callable Tryz.prog 297 = true := by kernel_rfl
theorem F.ok298 : callable Tryz.prog 298 = true := by kernel_rfl
theorem F.ok299 : callable Tryz.prog 299 = true := by kernel_rfl
theorem F.ok300 : callable Tryz.prog 300 = true := by kernel_rfl
theorem F.ok301 : callable Tryz.prog 301 = true := by kernel_rfl
theorem F.ok306 : callable Tryz.prog 306 = true := by kernel_rfl
theorem F.ok307 : callable Tryz.prog 307 = true := by kernel_rfl
theorem F.ok311 : callable Tryz.prog 311 = true := by kernel_rfl
theorem F.ok322 : callable Tryz.prog 322 = true := by kernel_rfl
theorem F.ok323 : callable Tryz.prog 323 = true := by kernel_rfl
theorem F.ok324 : callable Tryz.prog 324 = true := by kernel_rfl
theorem F.ok325 : callable Tryz.prog 325 = true := by kernel_rfl
theorem F.ok327 : callable Tryz.prog 327 = true := by kernel_rfl
theorem F.ok328 : callable Tryz.prog 328 = true := by kernel_rfl
theorem F.ok329 : callable Tryz.prog 329 = true := by kernel_rfl
theorem F.ok33 : callable Tryz.prog 33 = true := by kernel_rfl
theorem F.ok330 : callable Tryz.prog 330 = true := by kernel_rfl
theorem F.ok336 : callable Tryz.prog 336 = true := by kernel_rfl
theorem F.ok337 : callable Tryz.prog 337 = true := by kernel_rfl
theorem F.ok339 : callable Tryz.prog 339 = true := by kernel_rfl
theorem F.ok37 : callable Tryz.prog 37 = true := by kernel_rfl
theorem F.ok40 : callable Tryz.prog 40 = true := by kernel_rfl
theorem F.ok41 : callable Tryz.prog 41 = true := by kernel_rfl
theorem F.ok43 : callable Tryz.prog 43 = true := by kernel_rfl
theorem F.ok44 : callable Tryz.prog 44 = true := by kernel_rfl
theorem F.ok46 : callable Tryz.prog 46 = true := by kernel_rfl
theorem F.ok48 : callable Tryz.prog 48 = true := by kernel_rfl
theorem F.ok49 : callable Tryz.prog 49 = true := by kernel_rfl
theorem F.ok54 : callable Tryz.prog 54 = true := by kernel_rfl
theorem F.ok55 : callable Tryz.prog 55 = true := by kernel_rfl
theorem F.ok56 : callable Tryz.prog 56 = true := by kernel_rfl
theorem F.ok57 : callable Tryz.prog 57 = true := by kernel_rfl
theorem F.ok58 : callable Tryz.prog 58 = true := by kernel_rfl
theorem F.ok59 : callable Tryz.prog 59 = true := by kernel_rfl
theorem F.ok60 : callable Tryz.prog 60 = true := by kernel_rfl
theorem F.ok61 : callable Tryz.prog 61 = true := by kernel_rfl
theorem F.ok62 : callable Tryz.prog 62 = true := by kernel_rfl
theorem F.ok63 : callable Tryz.prog 63 = true := by kernel_rfl
theorem F.ok64 : callable Tryz.prog 64 = true := by kernel_rfl
theorem F.ok65 : callable Tryz.prog 65 = true := by kernel_rfl
theorem F.ok66 : callable Tryz.prog 66 = true := by kernel_rfl
theorem F.ok67 : callable Tryz.prog 67 = true := by kernel_rfl
theorem F.ok68 : callable Tryz.prog 68 = true := by kernel_rfl
theorem F.ok69 : callable Tryz.prog 69 = true := by kernel_rfl
theorem F.ok70 : callable Tryz.prog 70 = true := by kernel_rfl
theorem F.ok71 : callable Tryz.prog 71 = true := by kernel_rfl
theorem F.ok72 : callable Tryz.prog 72 = true := by kernel_rfl
theorem F.ok73 : callable Tryz.prog 73 = true := by kernel_rfl
theorem F.ok74 : callable Tryz.prog 74 = true := by kernel_rfl
theorem F.ok75 : callable Tryz.prog 75 = true := by kernel_rfl
theorem F.ok76 : callable Tryz.prog 76 = true := by kernel_rfl
theorem F.ok77 : callable Tryz.prog 77 = true := by kernel_rfl
theorem F.ok78 : callable Tryz.prog 78 = true := by kernel_rfl
theorem F.ok90 : callable Tryz.prog 90 = true := by kernel_rfl
theorem F.ok95 : callable Tryz.prog 95 = true := by kernel_rfl
theorem F.ok96 : callable Tryz.prog 96 = true := by kernel_rfl
theorem F.ok97 : callable Tryz.prog 97 = true := by kernel_rfl
theorem F.ok98 : callable Tryz.prog 98 = true := by kernel_rfl
theorem F.ok99 : callable Tryz.prog 99 = true := by kernel_rfl
theorem F.size158 : (Tryz.prog.info? 158).map (·.size) = some 8 := by kernel_rfl
theorem F.size166 : (Tryz.prog.info? 166).map (·.size) = some 2 := by kernel_rfl
theorem F.size3 : (Tryz.prog.info? 3).map (·.size) = some 1 := by kernel_rfl
theorem F.size31 : (Tryz.prog.info? 31).map (·.size) = some 1 := by kernel_rfl
theorem F.size49 : (Tryz.prog.info? 49).map (·.size) = some 2 := by kernel_rfl
theorem F.size5 : (Tryz.prog.info? 5).map (·.size) = some 1 := by kernel_rfl
theorem F.size52 : (Tryz.prog.info? 52).map (·.size) = some 5 := by kernel_rfl
theorem F.size55 : (Tryz.prog.info? 55).map (·.size) = some 10 := by kernel_rfl
theorem F.size74 : (Tryz.prog.info? 74).map (·.size) = some 7 := by kernel_rfl
theorem F.size9 : (Tryz.prog.info? 9).map (·.size) = some 1 := by kernel_rfl
end Go.Proofs.YtodhbhanmdfdeaaGreat
end
