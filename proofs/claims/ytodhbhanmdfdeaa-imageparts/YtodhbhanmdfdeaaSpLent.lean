import Derived.Test.YtodhbhanmdfdeaaSpKit
import Derived.Test.YtodhbhanmdfdeaaSpGp
import Derived.Test.YtodhbhanmdfdeaaSpFlat
/- Things that are lent: marks behind their lists, in their room; however deep. -/
namespace Go.Sp
theorem Rp.rel.mono {α : Type} {T : Rp α} {h k : Fr} {cs : List Value} {x : α} (r : T.rel h cs x) (s : h.sub k) : T.rel k cs x := T.mono s r
/-- marks, one by one -/
def mks {α : Type} (f : Int → α) (n : Nat) : List α := (List.range n).map fun (i : Nat) => f (i : Int)
@[simp] theorem mks_length {α : Type} (f : Int → α) (n : Nat) : (mks f n).length = n := by simp [mks]
theorem mks_succ {α : Type} (f : Int → α) (n : Nat) : mks f n ++ [f (n : Int)] = mks f (n + 1) := by simp [mks, List.range_succ]
theorem mks_get {α : Type} (f : Int → α) (n i : Nat) (h : i < (mks f n).length) : (mks f n)[i] = f (i : Int) := by simp [mks]
structure Lp (α : Type) where
  rp : Rp α
  own : List Value → α → SProp
  rd : Fr → List Value → α → Prop
  read : ∀ {cs : List Value} {a : α} {m : Fr}, own cs a m → rd m cs a
  mono : ∀ {h k : Fr} {cs : List Value} {a : α}, h.sub k → rd h cs a → rd k cs a
  rel : ∀ {h : Fr} {cs : List Value} {a : α}, rd h cs a → rp.rel h cs a
def Lp.pure {α : Type} (T : Rp α) : Lp α := { rp := T, own := fun cs a _ => T.rel Fr.emp cs a, rd := fun _ cs a => T.rel Fr.emp cs a, read := fun h => h, mono := fun _ h => h, rel := fun h => T.mono (Fr.emp_sub _) h }
def Lp.unit : Lp Unit := { rp := Rp.unit, own := fun cs _ _ => cs = [], rd := fun _ cs _ => cs = [], read := fun h => h, mono := fun _ h => h, rel := fun h => h }
def Lp.prod {α β : Type} (A : Lp α) (B : Lp β) : Lp (α × β) :=
  { rp := Rp.prod A.rp B.rp, own := fun cs x m => ∃ c d, cs = c ++ d ∧ Sat [A.own c x.1, B.own d x.2] m
    rd := fun h cs x => ∃ c d, cs = c ++ d ∧ A.rd h c x.1 ∧ B.rd h d x.2
    read := fun ⟨c, d, h, z⟩ => by
      obtain ⟨h1, h2, _, s1, s2, p, q⟩ := Sat.two.1 z
      obtain ⟨h3, t, u⟩ := q
      exact ⟨c, d, h, A.mono s1 (A.read p), B.mono (Fr.sub_trans t s2) (B.read u)⟩
    mono := fun s ⟨c, d, h, x, y⟩ => ⟨c, d, h, A.mono s x, B.mono s y⟩
    rel := fun ⟨c, d, h, x, y⟩ => ⟨c, d, h, A.rel x, B.rel y⟩ }
/-- a list of elements that have nothing -/
def LentQ {α : Type} (T : Rp α) (e : TypeId) (f : Int → α) (v : Value) (xs : List α) : SProp := fun h => ∃ a c, xs.length + 12 ≤ c ∧ v = .slice a xs.length c ∧ OwnP T e (.slice a (xs.length + 12) c) (xs ++ mks f 12) h
def LentQA {α : Type} (T : Rp α) (f : Int → α) (h : Fr) (v : Value) (xs : List α) : Prop := ∃ a c, xs.length + 12 ≤ c ∧ v = .slice a xs.length c ∧ Arr T h (.slice a (xs.length + 12) c) (xs ++ mks f 12)
theorem LentQ.read {α : Type} {T : Rp α} {e : TypeId} {f : Int → α} {v : Value} {xs : List α} {h : Fr} : LentQ T e f v xs h → LentQA T f h v xs
  | ⟨a, c, h1, h2, h3⟩ => ⟨a, c, h1, h2, h3.arr⟩
theorem LentQA.mono {α : Type} {T : Rp α} {f : Int → α} {v : Value} {xs : List α} {h k : Fr} (s : h.sub k) : LentQA T f h v xs → LentQA T f k v xs
  | ⟨a, c, h1, h2, h3⟩ => ⟨a, c, h1, h2, h3.mono s⟩
theorem LentQA.arr {α : Type} {T : Rp α} {f : Int → α} {v : Value} {xs : List α} {h : Fr} : LentQA T f h v xs → Arr T h v xs
  | ⟨a, c, h1, h2, h3⟩ => by subst h2; exact Arr.cut (ys := mks f 12) rfl (by simpa using h3)
def Lp.flat {α : Type} (T : Rp α) (e : TypeId) (f : Int → α) : Lp (List α) :=
  { rp := Rp.slice T, own := fun cs xs m => ∃ v, cs = [v] ∧ LentQ T e f v xs m, rd := fun h cs xs => ∃ v, cs = [v] ∧ LentQA T f h v xs
    read := fun ⟨v, h, x⟩ => ⟨v, h, x.read⟩, mono := fun s ⟨v, h, x⟩ => ⟨v, h, x.mono s⟩, rel := fun ⟨v, h, x⟩ => ⟨v, h, x.arr⟩ }
/-- a list of such -/
def LentL {α : Type} (L : Lp α) (e : TypeId) (f : Int → α) (v : Value) (xs : List α) : SProp := fun m => ∃ a c css dss, v = .slice a xs.length c ∧ xs.length + 12 ≤ c ∧ css.length = xs.length ∧ dss.length = 12 ∧
  Sat [OwnP (Rp.cells L.rp.k) e (.slice a (xs.length + 12) c) (css ++ dss), EachP L.own css xs, EachP (RdW L.rp) dss (mks f 12)] m
def LentLA {α : Type} (L : Lp α) (f : Int → α) (h : Fr) (v : Value) (xs : List α) : Prop := ∃ a c css dss, v = .slice a xs.length c ∧ xs.length + 12 ≤ c ∧ Arr (Rp.cells L.rp.k) h (.slice a (xs.length + 12) c) (css ++ dss) ∧ All2 (L.rd h) css xs ∧ All2 (L.rp.rel h) dss (mks f 12)
theorem LentL.read {α : Type} {L : Lp α} {e : TypeId} {f : Int → α} {v : Value} {xs : List α} {m : Fr} : LentL L e f v xs m → LentLA L f m v xs
  | ⟨a, c, css, dss, h1, h2, h3, h4, x⟩ => by
    obtain ⟨m1, k1, _, s1, t1, y1, m2, k2, _, s2, t2, y2, m3, k3, _, s3, _, y3, _⟩ := x
    exact ⟨a, c, css, dss, h1, h2, y1.arr.mono s1, EachP.all2 (fun _ _ _ z q => L.mono q (L.read z)) y2 (Fr.sub_trans s2 t1),
      EachP.all2 (fun _ _ _ z q => L.rp.mono q z) y3 (Fr.sub_trans s3 (Fr.sub_trans t2 t1))⟩
theorem LentLA.mono {α : Type} {L : Lp α} {f : Int → α} {v : Value} {xs : List α} {h k : Fr} (s : h.sub k) : LentLA L f h v xs → LentLA L f k v xs
  | ⟨a, c, css, dss, h1, h2, h3, h4, h5⟩ => ⟨a, c, css, dss, h1, h2, h3.mono s, h4.imp fun _ _ => L.mono s, h5.imp fun _ _ => L.rp.mono s⟩
theorem LentLA.arr {α : Type} {L : Lp α} {f : Int → α} {v : Value} {xs : List α} {h : Fr} : LentLA L f h v xs → Arr L.rp h v xs
  | ⟨a, c, css, dss, h1, h2, h3, h4, h5⟩ => by
    subst h1
    have hl := h4.len2
    have hd := h5.len2.trans (mks_length f 12)
    exact Arr.ofCells (css := css) (k := L.rp.k) (Arr.cut (ys := dss) hl.symm (by rw [hl, hd]; exact h3)) (h4.imp fun _ _ => L.rel) rfl
theorem LentLA.shape {α : Type} {L : Lp α} {f : Int → α} {v : Value} {xs : List α} {h : Fr} (x : LentLA L f h v xs) : ∃ a c, v = .slice a xs.length c := by
  obtain ⟨a, c, _, _, h, _⟩ := x; exact ⟨a, c, h⟩
def Lp.list {α : Type} (L : Lp α) (e : TypeId) (f : Int → α) : Lp (List α) :=
  { rp := Rp.slice L.rp, own := fun cs xs m => ∃ v, cs = [v] ∧ LentL L e f v xs m, rd := fun h cs xs => ∃ v, cs = [v] ∧ LentLA L f h v xs
    read := fun ⟨v, h, x⟩ => ⟨v, h, x.read⟩, mono := fun s ⟨v, h, x⟩ => ⟨v, h, x.mono s⟩, rel := fun ⟨v, h, x⟩ => ⟨v, h, x.arr⟩ }
theorem Lp.own_prod {α β : Type} {A : Lp α} {B : Lp β} {c d : List Value} {x : α} {y : β} {m : Fr} (h : Sat [A.own c x, B.own d y] m) : (Lp.prod A B).own (c ++ d) (x, y) m := ⟨c, d, rfl, h⟩
theorem Lp.own_pure_prod {α β : Type} {T : Rp α} {B : Lp β} {c d : List Value} {x : α} {y : β} {m : Fr} (h : T.rel Fr.emp c x) (h2 : B.own d y m) : (Lp.prod (Lp.pure T) B).own (c ++ d) (x, y) m :=
  ⟨c, d, rfl, Fr.emp, m, Fr.emp_disj _, Fr.emp_sub _, Fr.sub_refl _, h, m, Fr.emp, Fr.disj_symm (Fr.emp_disj _), Fr.sub_refl _, Fr.emp_sub _, h2, trivial⟩
theorem Lp.own_unit {m : Fr} : (Lp.unit).own [] () m := rfl
theorem Gp.own_unit' {m : Fr} : (Gp.unit).own [] () m := rfl
/-- pieces of a list of words, put together: the first of them for itself, the rest behind -/
theorem sat_first {A : SProp} {ws : List SProp} {C : SProp} {m : Fr} (h : Sat (A :: ws) m) (hC : ∀ k, Sat ws k → C k) : Sat [A, C] m := by
  obtain ⟨h1, h2, d, s1, s2, x, y⟩ := h
  exact ⟨h1, h2, d, s1, s2, x, h2, Fr.emp, Fr.disj_symm (Fr.emp_disj _), Fr.sub_refl _, Fr.emp_sub _, hC _ y, trivial⟩
theorem sat_last {A : SProp} {m : Fr} (h : A m) : Sat [A] m := ⟨m, Fr.emp, Fr.disj_symm (Fr.emp_disj _), Fr.sub_refl _, Fr.emp_sub _, h, trivial⟩
theorem sat_single {A : SProp} {m : Fr} (hA : ∀ {h k : Fr}, h.sub k → A h → A k) (h : Sat [A] m) : A m := by
  obtain ⟨h1, _, _, s1, _, x, _⟩ := h; exact hA s1 x
/-- the two parts of a pair that is owned -/
theorem sat_two_app {A B : SProp} {ws : List SProp} {m : Fr} (h : Sat [A, B] m) (hB : ∀ k, B k → Sat ws k) : Sat (A :: ws) m := by
  obtain ⟨h1, h2, d, s1, s2, x, h3, h4, _, t1, _, y, _⟩ := h
  exact ⟨h1, h3, Fr.disj_sub d (Fr.sub_refl _) t1, s1, Fr.sub_trans t1 s2, x, hB _ y⟩
end Go.Sp
