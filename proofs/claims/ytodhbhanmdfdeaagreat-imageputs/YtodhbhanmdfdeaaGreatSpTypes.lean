/- Texts of this proof, one behind the other. -/
import Derived.Test.YtodhbhanmdfdeaaGreatSpRd
import Derived.Laws.Strings2
section
/- Texts of this proof. -/
namespace Go.Sp
theorem Rp.rel.mono {α : Type} {T : Rp α} {h k : Fr} {cs : List Value} {x : α} (r : T.rel h cs x) (s : h.sub k) : T.rel k cs x := T.mono s r
def mks {α : Type} (f : Int → α) (n : Nat) : List α := (List.range n).map fun (i : Nat) => f (i : Int)
@[simp] theorem mks_length {α : Type} (f : Int → α) (n : Nat) : (mks f n).length = n := by simp [mks]
theorem mks_succ {α : Type} (f : Int → α) (n : Nat) : mks f n ++ [f (n : Int)] = mks f (n + 1) := by simp [mks, List.range_succ]
theorem mks_get {α : Type} (f : Int → α) (n i : Nat) (h : i < (mks f n).length) : (mks f n)[i] = f (i : Int) := by simp [mks]
structure Lp (α : Type) where
 rp : Rp α
 own : List Value → α → SProp
 rd : Fr → List Value → α → Prop
 read : ∀ {cs : List Value} {a : α} {m : Fr}, own cs a m → rd m cs a
 mono : ∀ {h k : Fr} {cs : List Value} {a : α}, h.sub k → rd h cs a → rd k cs a
 rel : ∀ {h : Fr} {cs : List Value} {a : α}, rd h cs a → rp.rel h cs a
def Lp.pure {α : Type} (T : Rp α) : Lp α := { rp := T, own := fun cs a _ => T.rel Fr.emp cs a, rd := fun _ cs a => T.rel Fr.emp cs a, read := fun h => h, mono := fun _ h => h, rel := fun h => T.mono (Fr.emp_sub _) h }
def Lp.unit : Lp Unit := { rp := Rp.unit, own := fun cs _ _ => cs = [], rd := fun _ cs _ => cs = [], read := fun h => h, mono := fun _ h => h, rel := fun h => h }
def Lp.prod {α β : Type} (A : Lp α) (B : Lp β) : Lp (α × β) :=
 { rp := Rp.prod A.rp B.rp, own := fun cs x m => ∃ c d, cs = c ++ d ∧ Sat [A.own c x.1, B.own d x.2] m
  rd := fun h cs x => ∃ c d, cs = c ++ d ∧ A.rd h c x.1 ∧ B.rd h d x.2
  read := fun ⟨c, d, h, z⟩ => by
   obtain ⟨h1, h2, _, s1, s2, p, q⟩ := Sat.two.1 z
   obtain ⟨h3, t, u⟩ := q
   exact ⟨c, d, h, A.mono s1 (A.read p), B.mono (Fr.sub_trans t s2) (B.read u)⟩
  mono := fun s ⟨c, d, h, x, y⟩ => ⟨c, d, h, A.mono s x, B.mono s y⟩
  rel := fun ⟨c, d, h, x, y⟩ => ⟨c, d, h, A.rel x, B.rel y⟩ }
def LentQ {α : Type} (T : Rp α) (e : TypeId) (f : Int → α) (v : Value) (xs : List α) : SProp := fun h => ∃ a c, xs.length + 12 ≤ c ∧ v = .slice a xs.length c ∧ OwnP T e (.slice a (xs.length + 12) c) (xs ++ mks f 12) h
def LentQA {α : Type} (T : Rp α) (f : Int → α) (h : Fr) (v : Value) (xs : List α) : Prop := ∃ a c, xs.length + 12 ≤ c ∧ v = .slice a xs.length c ∧ Arr T h (.slice a (xs.length + 12) c) (xs ++ mks f 12)
theorem LentQ.read {α : Type} {T : Rp α} {e : TypeId} {f : Int → α} {v : Value} {xs : List α} {h : Fr} : LentQ T e f v xs h → LentQA T f h v xs
 | ⟨a, c, h1, h2, h3⟩ => ⟨a, c, h1, h2, h3.arr⟩
theorem LentQA.mono {α : Type} {T : Rp α} {f : Int → α} {v : Value} {xs : List α} {h k : Fr} (s : h.sub k) : LentQA T f h v xs → LentQA T f k v xs
 | ⟨a, c, h1, h2, h3⟩ => ⟨a, c, h1, h2, h3.mono s⟩
theorem LentQA.arr {α : Type} {T : Rp α} {f : Int → α} {v : Value} {xs : List α} {h : Fr} : LentQA T f h v xs → Arr T h v xs
 | ⟨a, c, h1, h2, h3⟩ => by subst h2; exact Arr.cut (ys := mks f 12) rfl (by simpa using h3)
def Lp.flat {α : Type} (T : Rp α) (e : TypeId) (f : Int → α) : Lp (List α) :=
 { rp := Rp.slice T, own := fun cs xs m => ∃ v, cs = [v] ∧ LentQ T e f v xs m, rd := fun h cs xs => ∃ v, cs = [v] ∧ LentQA T f h v xs
  read := fun ⟨v, h, x⟩ => ⟨v, h, x.read⟩, mono := fun s ⟨v, h, x⟩ => ⟨v, h, x.mono s⟩, rel := fun ⟨v, h, x⟩ => ⟨v, h, x.arr⟩ }
def LentL {α : Type} (L : Lp α) (e : TypeId) (f : Int → α) (v : Value) (xs : List α) : SProp := fun m => ∃ a c css dss, v = .slice a xs.length c ∧ xs.length + 12 ≤ c ∧ css.length = xs.length ∧ dss.length = 12 ∧
 Sat [OwnP (Rp.cells L.rp.k) e (.slice a (xs.length + 12) c) (css ++ dss), EachP L.own css xs, EachP (RdW L.rp) dss (mks f 12)] m
def LentLA {α : Type} (L : Lp α) (f : Int → α) (h : Fr) (v : Value) (xs : List α) : Prop := ∃ a c css dss, v = .slice a xs.length c ∧ xs.length + 12 ≤ c ∧ Arr (Rp.cells L.rp.k) h (.slice a (xs.length + 12) c) (css ++ dss) ∧ All2 (L.rd h) css xs ∧ All2 (L.rp.rel h) dss (mks f 12)
theorem LentL.read {α : Type} {L : Lp α} {e : TypeId} {f : Int → α} {v : Value} {xs : List α} {m : Fr} : LentL L e f v xs m → LentLA L f m v xs
 | ⟨a, c, css, dss, h1, h2, h3, h4, x⟩ => by
  obtain ⟨m1, k1, _, s1, t1, y1, m2, k2, _, s2, t2, y2, m3, k3, _, s3, _, y3, _⟩ := x
  exact ⟨a, c, css, dss, h1, h2, y1.arr.mono s1, EachP.all2 (fun _ _ _ z q => L.mono q (L.read z)) y2 (Fr.sub_trans s2 t1),
   EachP.all2 (fun _ _ _ z q => L.rp.mono q z) y3 (Fr.sub_trans s3 (Fr.sub_trans t2 t1))⟩
theorem LentLA.mono {α : Type} {L : Lp α} {f : Int → α} {v : Value} {xs : List α} {h k : Fr} (s : h.sub k) : LentLA L f h v xs → LentLA L f k v xs
 | ⟨a, c, css, dss, h1, h2, h3, h4, h5⟩ => ⟨a, c, css, dss, h1, h2, h3.mono s, h4.imp fun _ _ => L.mono s, h5.imp fun _ _ => L.rp.mono s⟩
theorem LentLA.arr {α : Type} {L : Lp α} {f : Int → α} {v : Value} {xs : List α} {h : Fr} : LentLA L f h v xs → Arr L.rp h v xs
 | ⟨a, c, css, dss, h1, h2, h3, h4, h5⟩ => by
  subst h1
  have hl := h4.len2
  have hd := h5.len2.trans (mks_length f 12)
  exact Arr.ofCells (css := css) (k := L.rp.k) (Arr.cut (ys := dss) hl.symm (by rw [hl, hd]; exact h3)) (h4.imp fun _ _ => L.rel) rfl
def Lp.list {α : Type} (L : Lp α) (e : TypeId) (f : Int → α) : Lp (List α) :=
 { rp := Rp.slice L.rp, own := fun cs xs m => ∃ v, cs = [v] ∧ LentL L e f v xs m, rd := fun h cs xs => ∃ v, cs = [v] ∧ LentLA L f h v xs
  read := fun ⟨v, h, x⟩ => ⟨v, h, x.read⟩, mono := fun s ⟨v, h, x⟩ => ⟨v, h, x.mono s⟩, rel := fun ⟨v, h, x⟩ => ⟨v, h, x.arr⟩ }
theorem Lp.own_pure_prod {α β : Type} {T : Rp α} {B : Lp β} {c d : List Value} {x : α} {y : β} {m : Fr} (h : T.rel Fr.emp c x) (h2 : B.own d y m) : (Lp.prod (Lp.pure T) B).own (c ++ d) (x, y) m :=
 ⟨c, d, rfl, Fr.emp, m, Fr.emp_disj _, Fr.emp_sub _, Fr.sub_refl _, h, m, Fr.emp, Fr.disj_symm (Fr.emp_disj _), Fr.sub_refl _, Fr.emp_sub _, h2, trivial⟩
theorem sat_first {A : SProp} {ws : List SProp} {C : SProp} {m : Fr} (h : Sat (A :: ws) m) (hC : ∀ k, Sat ws k → C k) : Sat [A, C] m := by
 obtain ⟨h1, h2, d, s1, s2, x, y⟩ := h
 exact ⟨h1, h2, d, s1, s2, x, h2, Fr.emp, Fr.disj_symm (Fr.emp_disj _), Fr.sub_refl _, Fr.emp_sub _, hC _ y, trivial⟩
theorem Lp.own2 {α β : Type} {A : Lp α} {B : Lp β} {c d : List Value} {x : α × β × Unit} {m : Fr} (h : Sat [A.own c x.1, B.own d x.2.1] m) : (Lp.prod A (Lp.prod B Lp.unit)).own (c ++ d) x m :=
 ⟨c, d, rfl, sat_first h fun _ hk => ⟨d, [], (List.append_nil d).symm, sat_first hk fun _ _ => rfl⟩⟩
theorem Lp.rd2 {α β : Type} {A : Lp α} {B : Lp β} {cs : List Value} {x : α × β × Unit} {h : Fr} (r : (Lp.prod A (Lp.prod B Lp.unit)).rd h cs x) : ∃ c d, cs = c ++ d ∧ A.rd h c x.1 ∧ B.rd h d x.2.1 := by
 obtain ⟨c, d, rfl, h1, c2, d2, rfl, h2, rfl⟩ := r
 exact ⟨c, c2, by rw [List.append_nil], h1, h2⟩
theorem EachP.pureR {α : Type} {T : Rp α} : ∀ {bs : List (List Value)} {as : List α} {m : Fr}, All2 (T.rel Fr.emp) bs as → EachP (RdW T) bs as m
 | [], [], _, _ => trivial
 | _ :: _, _ :: _, m, ⟨h, t⟩ => ⟨Fr.emp, m, Fr.emp_disj _, Fr.emp_sub _, Fr.sub_refl _, h, m, Fr.emp, Fr.disj_symm (Fr.emp_disj _), Fr.sub_refl _, Fr.emp_sub _, EachP.pureR t, trivial⟩
theorem sat_snoc2 {A B C : SProp} {m : Fr} (h : Sat [A, B] m) (hC : C Fr.emp) : Sat [A, B, C] m := by
 obtain ⟨h1, h2, d, s1, s2, x, h3, h4, d2, t1, t2, y, _⟩ := h
 exact ⟨h1, h2, d, s1, s2, x, h3, Fr.emp, Fr.disj_symm (Fr.emp_disj _), t1, Fr.emp_sub _, y, Fr.emp, Fr.emp, Fr.emp_disj _, Fr.sub_refl _, Fr.sub_refl _, hC, trivial⟩
theorem LentL.fold {α : Type} {L : Lp α} {e : TypeId} {f : Int → α} {a : Option Addr} {c : Nat} {xs : List α} {css dss : List (List Value)} {m : Fr} (hr : xs.length + 12 ≤ c) (hc : css.length = xs.length) (hd : All2 (L.rp.rel Fr.emp) dss (mks f 12))
  (h : Sat [OwnP (Rp.cells L.rp.k) e (.slice a (xs.length + 12) c) (css ++ dss), EachP L.own css xs] m) : LentL L e f (.slice a xs.length c) xs m :=
 ⟨a, c, css, dss, rfl, hr, hc, hd.len2.trans (mks_length f 12), sat_snoc2 h (EachP.pureR hd)⟩
theorem All2.at2 {α β : Type} {R : α → β → Prop} : ∀ {xs : List α} {ys : List β} (_ : All2 R xs ys) (i : Nat) (hx : i < xs.length) (hy : i < ys.length), R xs[i] ys[i]
 | _ :: _, _ :: _, ⟨h, _⟩, 0, _, _ => h
 | _ :: _, _ :: _, ⟨_, t⟩, i + 1, hx, hy => All2.at2 t i (Nat.lt_of_succ_lt_succ hx) (Nat.lt_of_succ_lt_succ hy)
end Go.Sp
end
section
/- Texts of this proof. -/
set_option linter.unusedVariables false
namespace Go.Sp
structure Tys where
 u8 : TypeId
 int : TypeId
 bytes : TypeId
 dot : TypeId
 recd : TypeId
 leaf : TypeId
 stub : TypeId
 node : TypeId
 prf : TypeId
 root : TypeId
 evd : TypeId
 frm : TypeId
 held : TypeId
def byteOf (z : Int) : UInt8 := UInt8.ofNat (z % 256).toNat
theorem wrapB (z : Int) : Value.int .u8 (IntKind.u8.wrap z) = byteV (byteOf z) := by
 rw [byteV, wrap_u8_eq]
 have : ((byteOf z).toNat : Int) = z % 256 := by simp [byteOf]; omega
 rw [this]
def markZ (k i : Int) : Int := 1000003 * (k + 7) + i
def markB (k i : Int) : UInt8 := byteOf ((IntKind.u64.wrap (IntKind.u64.wrap (markZ k i) * 11400714819323198485)).fdiv (2 ^ min (56 : Int).toNat IntKind.u64.bits))
def markT (k i : Int) : List UInt8 := [35, byteOf k, byteOf (k.fdiv (2 ^ min (8 : Int).toNat IntKind.i64.bits)), byteOf (k.fdiv (2 ^ min (16 : Int).toNat IntKind.i64.bits)), 47, byteOf i, byteOf (i.fdiv (2 ^ min (8 : Int).toNat IntKind.i64.bits)), byteOf (i.fdiv (2 ^ min (16 : Int).toNat IntKind.i64.bits))]
@[simp] theorem markT_length (k i : Int) : (markT k i).length = 8 := rfl
abbrev marks1 (n : Nat) : List UInt8 := mks (markB 1) n
theorem marks1_length (n : Nat) : (marks1 n).length = n := by simp
theorem marks1_succ (n : Nat) : marks1 n ++ [markB 1 (n : Int)] = marks1 (n + 1) := mks_succ _ n
abbrev LentP (e : TypeId) (v : Value) (xs : List UInt8) : SProp := LentQ Rp.u8 e (markB 1) v xs
def Mk (k : Int) : Prop := 0 ≤ k ∧ k ≤ 1000000000000
theorem markZ64 {k i : Int} (hk : Mk k) (hi : Mk i) : InI64 (markZ k i) := by
 obtain ⟨h1, h2⟩ := hk
 obtain ⟨h3, h4⟩ := hi
 unfold markZ
 constructor <;> omega
abbrev DotT : Type := Int × Int × Unit
abbrev DotRp : Rp DotT := Rp.prod Rp.i64 (Rp.prod Rp.i64 (Rp.unit))
def markDot (k i : Int) : DotT := (0, markZ k i, ())
theorem DotRp.open {h : Fr} {cs : List Value} {x : DotT} (r : DotRp.rel h cs x) : cs = [.int .i64 x.1, .int .i64 x.2.1] ∧ InI64 x.1 ∧ InI64 x.2.1 := by
 obtain ⟨c0, d0, rfl, r0, r⟩ := r
 obtain ⟨c1, d1, rfl, r1, r⟩ := r
 obtain rfl : d1 = [] := r
 obtain ⟨rfl, h0⟩ := r0
 obtain ⟨rfl, h1⟩ := r1
 exact ⟨rfl, h0, h1⟩
theorem DotRp.mk {h : Fr} {x0 : Int} {x1 : Int} (h0 : InI64 x0) (h1 : InI64 x1) : DotRp.rel h [.int .i64 x0, .int .i64 x1] (x0, x1, ()) :=
 ⟨[.int .i64 x0], [.int .i64 x1], rfl, ⟨rfl, h0⟩, ⟨[.int .i64 x1], [], rfl, ⟨rfl, h1⟩, rfl⟩⟩
theorem pure_Dot : DotRp.Pure := fun _ _ _ h => h
abbrev RecT : Type := (List UInt8) × Int × Int × (List DotT) × Bool × (List UInt8) × (List UInt8) × Unit
abbrev RecRp : Rp RecT := Rp.prod Rp.str (Rp.prod Rp.i64 (Rp.prod Rp.i64 (Rp.prod (Rp.slice DotRp) (Rp.prod Rp.bool (Rp.prod (Rp.slice Rp.u8) (Rp.prod (Rp.slice Rp.u8) (Rp.unit)))))))
def markRec (k i : Int) : RecT := ([], 0, markZ k i, [], false, [], [], ())
theorem RecRp.open {h : Fr} {cs : List Value} {x : RecT} (r : RecRp.rel h cs x) : ∃ v3 v5 v6, cs = [.string (str x.1), .int .i64 x.2.1, .int .i64 x.2.2.1, v3, .bool x.2.2.2.2.1, v5, v6] ∧ x.1.length ≤ 9223372036854775807 ∧ InI64 x.2.1 ∧ InI64 x.2.2.1 ∧ Arr DotRp h v3 x.2.2.2.1 ∧ Arr Rp.u8 h v5 x.2.2.2.2.2.1 ∧ Arr Rp.u8 h v6 x.2.2.2.2.2.2.1 := by
 obtain ⟨c0, d0, rfl, r0, r⟩ := r
 obtain ⟨c1, d1, rfl, r1, r⟩ := r
 obtain ⟨c2, d2, rfl, r2, r⟩ := r
 obtain ⟨c3, d3, rfl, r3, r⟩ := r
 obtain ⟨c4, d4, rfl, r4, r⟩ := r
 obtain ⟨c5, d5, rfl, r5, r⟩ := r
 obtain ⟨c6, d6, rfl, r6, r⟩ := r
 obtain rfl : d6 = [] := r
 obtain ⟨rfl, h0⟩ := r0
 obtain ⟨rfl, h1⟩ := r1
 obtain ⟨rfl, h2⟩ := r2
 obtain ⟨v3, rfl, h3⟩ := r3
 obtain rfl : c4 = [.bool x.2.2.2.2.1] := r4
 obtain ⟨v5, rfl, h5⟩ := r5
 obtain ⟨v6, rfl, h6⟩ := r6
 exact ⟨v3, v5, v6, rfl, h0, h1, h2, h3, h5, h6⟩
theorem RecRp.sh {h : Fr} {cs : List Value} {x : RecT} (r : RecRp.rel h cs x) : ∃ a3 a5 a6 c3 c5 c6, cs = [.string (str x.1), .int .i64 x.2.1, .int .i64 x.2.2.1, .slice a3 x.2.2.2.1.length c3, .bool x.2.2.2.2.1, .slice a5 x.2.2.2.2.2.1.length c5, .slice a6 x.2.2.2.2.2.2.1.length c6] ∧ x.1.length ≤ 9223372036854775807 ∧ InI64 x.2.1 ∧ InI64 x.2.2.1 ∧ Arr DotRp h (.slice a3 x.2.2.2.1.length c3) x.2.2.2.1 ∧ Arr Rp.u8 h (.slice a5 x.2.2.2.2.2.1.length c5) x.2.2.2.2.2.1 ∧ Arr Rp.u8 h (.slice a6 x.2.2.2.2.2.2.1.length c6) x.2.2.2.2.2.2.1 := by
 obtain ⟨v3, v5, v6, rfl, h0, h1, h2, h3, h5, h6⟩ := RecRp.open r
 obtain ⟨a3, c3, rfl⟩ := h3.shape
 obtain ⟨a5, c5, rfl⟩ := h5.shape
 obtain ⟨a6, c6, rfl⟩ := h6.shape
 exact ⟨a3, a5, a6, c3, c5, c6, rfl, h0, h1, h2, h3, h5, h6⟩
theorem RecRp.mk {h : Fr} {x0 : List UInt8} {x1 : Int} {x2 : Int} {x3 : List DotT} {v3 : Value} {x4 : Bool} {x5 : List UInt8} {v5 : Value} {x6 : List UInt8} {v6 : Value} (h0 : x0.length ≤ 9223372036854775807) (h1 : InI64 x1) (h2 : InI64 x2) (h3 : Arr DotRp h v3 x3) (h5 : Arr Rp.u8 h v5 x5) (h6 : Arr Rp.u8 h v6 x6) : RecRp.rel h [.string (str x0), .int .i64 x1, .int .i64 x2, v3, .bool x4, v5, v6] (x0, x1, x2, x3, x4, x5, x6, ()) :=
 ⟨[.string (str x0)], [.int .i64 x1, .int .i64 x2, v3, .bool x4, v5, v6], rfl, ⟨rfl, h0⟩, ⟨[.int .i64 x1], [.int .i64 x2, v3, .bool x4, v5, v6], rfl, ⟨rfl, h1⟩, ⟨[.int .i64 x2], [v3, .bool x4, v5, v6], rfl, ⟨rfl, h2⟩, ⟨[v3], [.bool x4, v5, v6], rfl, ⟨v3, rfl, h3⟩, ⟨[.bool x4], [v5, v6], rfl, rfl, ⟨[v5], [v6], rfl, ⟨v5, rfl, h5⟩, ⟨[v6], [], rfl, ⟨v6, rfl, h6⟩, rfl⟩⟩⟩⟩⟩⟩⟩
abbrev RecL (τ : Tys) : Lp RecT := Lp.prod (Lp.pure Rp.str) (Lp.prod (Lp.pure Rp.i64) (Lp.prod (Lp.pure Rp.i64) (Lp.prod (Lp.flat DotRp τ.dot (markDot 1)) (Lp.prod (Lp.pure Rp.bool) (Lp.prod (Lp.flat Rp.u8 τ.u8 (markB 1)) (Lp.prod (Lp.flat Rp.u8 τ.u8 (markB 1)) (Lp.unit)))))))
theorem RecL.mk7 {τ : Tys} {m : Fr}   (s : Sat [] m) : (Lp.unit).own [] () m := by
 exact rfl
theorem RecL.mk6 {τ : Tys} {m : Fr} {x6 : List UInt8} {v6 : Value}  (s : Sat [LentQ Rp.u8 τ.u8 (markB 1) v6 x6] m) : (Lp.prod (Lp.flat Rp.u8 τ.u8 (markB 1)) (Lp.unit)).own [v6] (x6, ()) m := by
 obtain ⟨k1, k2, dj, s1, s2, o, st⟩ := s
 exact ⟨[v6], [], rfl, k1, k2, dj, s1, s2, ⟨v6, rfl, o⟩, k2, Fr.emp, Fr.disj_symm (Fr.emp_disj _), Fr.sub_refl _, Fr.emp_sub _, RecL.mk7 (τ := τ)  st, trivial⟩
theorem RecL.mk5 {τ : Tys} {m : Fr} {x5 : List UInt8} {v5 : Value} {x6 : List UInt8} {v6 : Value}  (s : Sat [LentQ Rp.u8 τ.u8 (markB 1) v5 x5, LentQ Rp.u8 τ.u8 (markB 1) v6 x6] m) : (Lp.prod (Lp.flat Rp.u8 τ.u8 (markB 1)) (Lp.prod (Lp.flat Rp.u8 τ.u8 (markB 1)) (Lp.unit))).own [v5, v6] (x5, x6, ()) m := by
 obtain ⟨k1, k2, dj, s1, s2, o, st⟩ := s
 exact ⟨[v5], [v6], rfl, k1, k2, dj, s1, s2, ⟨v5, rfl, o⟩, k2, Fr.emp, Fr.disj_symm (Fr.emp_disj _), Fr.sub_refl _, Fr.emp_sub _, RecL.mk6 (τ := τ)  st, trivial⟩
theorem RecL.mk4 {τ : Tys} {m : Fr} {x4 : Bool} {x5 : List UInt8} {v5 : Value} {x6 : List UInt8} {v6 : Value}  (s : Sat [LentQ Rp.u8 τ.u8 (markB 1) v5 x5, LentQ Rp.u8 τ.u8 (markB 1) v6 x6] m) : (Lp.prod (Lp.pure Rp.bool) (Lp.prod (Lp.flat Rp.u8 τ.u8 (markB 1)) (Lp.prod (Lp.flat Rp.u8 τ.u8 (markB 1)) (Lp.unit)))).own [.bool x4, v5, v6] (x4, x5, x6, ()) m := by
 exact Lp.own_pure_prod (T := Rp.bool) (c := [.bool x4]) rfl (RecL.mk5 (τ := τ)  s)
theorem RecL.mk3 {τ : Tys} {m : Fr} {x3 : List DotT} {v3 : Value} {x4 : Bool} {x5 : List UInt8} {v5 : Value} {x6 : List UInt8} {v6 : Value}  (s : Sat [LentQ DotRp τ.dot (markDot 1) v3 x3, LentQ Rp.u8 τ.u8 (markB 1) v5 x5, LentQ Rp.u8 τ.u8 (markB 1) v6 x6] m) : (Lp.prod (Lp.flat DotRp τ.dot (markDot 1)) (Lp.prod (Lp.pure Rp.bool) (Lp.prod (Lp.flat Rp.u8 τ.u8 (markB 1)) (Lp.prod (Lp.flat Rp.u8 τ.u8 (markB 1)) (Lp.unit))))).own [v3, .bool x4, v5, v6] (x3, x4, x5, x6, ()) m := by
 obtain ⟨k1, k2, dj, s1, s2, o, st⟩ := s
 exact ⟨[v3], [.bool x4, v5, v6], rfl, k1, k2, dj, s1, s2, ⟨v3, rfl, o⟩, k2, Fr.emp, Fr.disj_symm (Fr.emp_disj _), Fr.sub_refl _, Fr.emp_sub _, RecL.mk4 (τ := τ)  st, trivial⟩
theorem RecL.mk2 {τ : Tys} {m : Fr} {x2 : Int} {x3 : List DotT} {v3 : Value} {x4 : Bool} {x5 : List UInt8} {v5 : Value} {x6 : List UInt8} {v6 : Value} (h2 : InI64 x2) (s : Sat [LentQ DotRp τ.dot (markDot 1) v3 x3, LentQ Rp.u8 τ.u8 (markB 1) v5 x5, LentQ Rp.u8 τ.u8 (markB 1) v6 x6] m) : (Lp.prod (Lp.pure Rp.i64) (Lp.prod (Lp.flat DotRp τ.dot (markDot 1)) (Lp.prod (Lp.pure Rp.bool) (Lp.prod (Lp.flat Rp.u8 τ.u8 (markB 1)) (Lp.prod (Lp.flat Rp.u8 τ.u8 (markB 1)) (Lp.unit)))))).own [.int .i64 x2, v3, .bool x4, v5, v6] (x2, x3, x4, x5, x6, ()) m := by
 exact Lp.own_pure_prod (T := Rp.i64) (c := [.int .i64 x2]) ⟨rfl, h2⟩ (RecL.mk3 (τ := τ)  s)
theorem RecL.mk1 {τ : Tys} {m : Fr} {x1 : Int} {x2 : Int} {x3 : List DotT} {v3 : Value} {x4 : Bool} {x5 : List UInt8} {v5 : Value} {x6 : List UInt8} {v6 : Value} (h1 : InI64 x1) (h2 : InI64 x2) (s : Sat [LentQ DotRp τ.dot (markDot 1) v3 x3, LentQ Rp.u8 τ.u8 (markB 1) v5 x5, LentQ Rp.u8 τ.u8 (markB 1) v6 x6] m) : (Lp.prod (Lp.pure Rp.i64) (Lp.prod (Lp.pure Rp.i64) (Lp.prod (Lp.flat DotRp τ.dot (markDot 1)) (Lp.prod (Lp.pure Rp.bool) (Lp.prod (Lp.flat Rp.u8 τ.u8 (markB 1)) (Lp.prod (Lp.flat Rp.u8 τ.u8 (markB 1)) (Lp.unit))))))).own [.int .i64 x1, .int .i64 x2, v3, .bool x4, v5, v6] (x1, x2, x3, x4, x5, x6, ()) m := by
 exact Lp.own_pure_prod (T := Rp.i64) (c := [.int .i64 x1]) ⟨rfl, h1⟩ (RecL.mk2 (τ := τ) h2 s)
theorem RecL.mk {τ : Tys} {m : Fr} {x0 : List UInt8} {x1 : Int} {x2 : Int} {x3 : List DotT} {v3 : Value} {x4 : Bool} {x5 : List UInt8} {v5 : Value} {x6 : List UInt8} {v6 : Value} (h0 : x0.length ≤ 9223372036854775807) (h1 : InI64 x1) (h2 : InI64 x2) (s : Sat [LentQ DotRp τ.dot (markDot 1) v3 x3, LentQ Rp.u8 τ.u8 (markB 1) v5 x5, LentQ Rp.u8 τ.u8 (markB 1) v6 x6] m) : (Lp.prod (Lp.pure Rp.str) (Lp.prod (Lp.pure Rp.i64) (Lp.prod (Lp.pure Rp.i64) (Lp.prod (Lp.flat DotRp τ.dot (markDot 1)) (Lp.prod (Lp.pure Rp.bool) (Lp.prod (Lp.flat Rp.u8 τ.u8 (markB 1)) (Lp.prod (Lp.flat Rp.u8 τ.u8 (markB 1)) (Lp.unit)))))))).own [.string (str x0), .int .i64 x1, .int .i64 x2, v3, .bool x4, v5, v6] (x0, x1, x2, x3, x4, x5, x6, ()) m := by
 exact Lp.own_pure_prod (T := Rp.str) (c := [.string (str x0)]) ⟨rfl, h0⟩ (RecL.mk1 (τ := τ) h1 h2 s)
theorem RecL.opn {τ : Tys} {h : Fr} {cs : List Value} {x : RecT} (r : (RecL τ).rd h cs x) : ∃ v3 v5 v6, cs = [.string (str x.1), .int .i64 x.2.1, .int .i64 x.2.2.1, v3, .bool x.2.2.2.2.1, v5, v6] ∧ x.1.length ≤ 9223372036854775807 ∧ InI64 x.2.1 ∧ InI64 x.2.2.1 ∧ LentQA DotRp (markDot 1) h v3 x.2.2.2.1 ∧ LentQA Rp.u8 (markB 1) h v5 x.2.2.2.2.2.1 ∧ LentQA Rp.u8 (markB 1) h v6 x.2.2.2.2.2.2.1 := by
 obtain ⟨c0, d0, rfl, r0, r⟩ := r
 obtain ⟨c1, d1, rfl, r1, r⟩ := r
 obtain ⟨c2, d2, rfl, r2, r⟩ := r
 obtain ⟨c3, d3, rfl, r3, r⟩ := r
 obtain ⟨c4, d4, rfl, r4, r⟩ := r
 obtain ⟨c5, d5, rfl, r5, r⟩ := r
 obtain ⟨c6, d6, rfl, r6, r⟩ := r
 obtain rfl : d6 = [] := r
 obtain ⟨rfl, h0⟩ := r0
 obtain ⟨rfl, h1⟩ := r1
 obtain ⟨rfl, h2⟩ := r2
 obtain ⟨v3, rfl, h3⟩ := r3
 obtain rfl : c4 = [.bool x.2.2.2.2.1] := r4
 obtain ⟨v5, rfl, h5⟩ := r5
 obtain ⟨v6, rfl, h6⟩ := r6
 exact ⟨v3, v5, v6, rfl, h0, h1, h2, h3, h5, h6⟩
def RecOk (N : Nat) (x : RecT) : Prop := x.1.length ≤ N ∧ x.2.2.2.1.length ≤ N ∧ x.2.2.2.2.2.1.length ≤ N ∧ x.2.2.2.2.2.2.1.length ≤ N
abbrev LeafT : Type := (List UInt8) × (List RecT) × Unit
abbrev LeafRp : Rp LeafT := Rp.prod Rp.str (Rp.prod (Rp.slice RecRp) (Rp.unit))
def markLeaf (k i : Int) : LeafT := (markT k i, [], ())
theorem LeafRp.open {h : Fr} {cs : List Value} {x : LeafT} (r : LeafRp.rel h cs x) : ∃ v1, cs = [.string (str x.1), v1] ∧ x.1.length ≤ 9223372036854775807 ∧ Arr RecRp h v1 x.2.1 := by
 obtain ⟨c0, d0, rfl, r0, r⟩ := r
 obtain ⟨c1, d1, rfl, r1, r⟩ := r
 obtain rfl : d1 = [] := r
 obtain ⟨rfl, h0⟩ := r0
 obtain ⟨v1, rfl, h1⟩ := r1
 exact ⟨v1, rfl, h0, h1⟩
theorem LeafRp.sh {h : Fr} {cs : List Value} {x : LeafT} (r : LeafRp.rel h cs x) : ∃ a1 c1, cs = [.string (str x.1), .slice a1 x.2.1.length c1] ∧ x.1.length ≤ 9223372036854775807 ∧ Arr RecRp h (.slice a1 x.2.1.length c1) x.2.1 := by
 obtain ⟨v1, rfl, h0, h1⟩ := LeafRp.open r
 obtain ⟨a1, c1, rfl⟩ := h1.shape
 exact ⟨a1, c1, rfl, h0, h1⟩
theorem LeafRp.mk {h : Fr} {x0 : List UInt8} {x1 : List RecT} {v1 : Value} (h0 : x0.length ≤ 9223372036854775807) (h1 : Arr RecRp h v1 x1) : LeafRp.rel h [.string (str x0), v1] (x0, x1, ()) :=
 ⟨[.string (str x0)], [v1], rfl, ⟨rfl, h0⟩, ⟨[v1], [], rfl, ⟨v1, rfl, h1⟩, rfl⟩⟩
abbrev LeafL (τ : Tys) : Lp LeafT := Lp.prod (Lp.pure Rp.str) (Lp.prod (Lp.list (RecL τ) τ.recd (markRec 1)) (Lp.unit))
theorem LeafL.mk2 {τ : Tys} {m : Fr}   (s : Sat [] m) : (Lp.unit).own [] () m := by
 exact rfl
theorem LeafL.mk1 {τ : Tys} {m : Fr} {x1 : List RecT} {v1 : Value}  (s : Sat [LentL (RecL τ) τ.recd (markRec 1) v1 x1] m) : (Lp.prod (Lp.list (RecL τ) τ.recd (markRec 1)) (Lp.unit)).own [v1] (x1, ()) m := by
 obtain ⟨k1, k2, dj, s1, s2, o, st⟩ := s
 exact ⟨[v1], [], rfl, k1, k2, dj, s1, s2, ⟨v1, rfl, o⟩, k2, Fr.emp, Fr.disj_symm (Fr.emp_disj _), Fr.sub_refl _, Fr.emp_sub _, LeafL.mk2 (τ := τ)  st, trivial⟩
theorem LeafL.mk {τ : Tys} {m : Fr} {x0 : List UInt8} {x1 : List RecT} {v1 : Value} (h0 : x0.length ≤ 9223372036854775807) (s : Sat [LentL (RecL τ) τ.recd (markRec 1) v1 x1] m) : (Lp.prod (Lp.pure Rp.str) (Lp.prod (Lp.list (RecL τ) τ.recd (markRec 1)) (Lp.unit))).own [.string (str x0), v1] (x0, x1, ()) m := by
 exact Lp.own_pure_prod (T := Rp.str) (c := [.string (str x0)]) ⟨rfl, h0⟩ (LeafL.mk1 (τ := τ)  s)
theorem LeafL.opn {τ : Tys} {h : Fr} {cs : List Value} {x : LeafT} (r : (LeafL τ).rd h cs x) : ∃ v1, cs = [.string (str x.1), v1] ∧ x.1.length ≤ 9223372036854775807 ∧ LentLA (RecL τ) (markRec 1) h v1 x.2.1 := by
 obtain ⟨c0, d0, rfl, r0, r⟩ := r
 obtain ⟨c1, d1, rfl, r1, r⟩ := r
 obtain rfl : d1 = [] := r
 obtain ⟨rfl, h0⟩ := r0
 obtain ⟨v1, rfl, h1⟩ := r1
 exact ⟨v1, rfl, h0, h1⟩
def LeafOk (N : Nat) (x : LeafT) : Prop := x.1.length ≤ N ∧ (x.2.1.length ≤ N ∧ ∀ y ∈ x.2.1, RecOk N y)
abbrev StubT : Type := (List UInt8) × (List UInt8) × Unit
abbrev NodeT : Type := UInt8 × (List UInt8) × (List UInt8) × (List LeafT) × Unit
abbrev PrfT : Type := (List (List UInt8)) × (List StubT) × Unit
abbrev RootT : Type := Int × Int × Int × (List UInt8) × (List UInt8) × Unit
abbrev RootRp : Rp RootT := Rp.prod Rp.i64 (Rp.prod Rp.i64 (Rp.prod Rp.i64 (Rp.prod (Rp.slice Rp.u8) (Rp.prod (Rp.slice Rp.u8) (Rp.unit)))))
def markRoot (k i : Int) : RootT := (0, 0, markZ k i, [], [], ())
theorem RootRp.open {h : Fr} {cs : List Value} {x : RootT} (r : RootRp.rel h cs x) : ∃ v3 v4, cs = [.int .i64 x.1, .int .i64 x.2.1, .int .i64 x.2.2.1, v3, v4] ∧ InI64 x.1 ∧ InI64 x.2.1 ∧ InI64 x.2.2.1 ∧ Arr Rp.u8 h v3 x.2.2.2.1 ∧ Arr Rp.u8 h v4 x.2.2.2.2.1 := by
 obtain ⟨c0, d0, rfl, r0, r⟩ := r
 obtain ⟨c1, d1, rfl, r1, r⟩ := r
 obtain ⟨c2, d2, rfl, r2, r⟩ := r
 obtain ⟨c3, d3, rfl, r3, r⟩ := r
 obtain ⟨c4, d4, rfl, r4, r⟩ := r
 obtain rfl : d4 = [] := r
 obtain ⟨rfl, h0⟩ := r0
 obtain ⟨rfl, h1⟩ := r1
 obtain ⟨rfl, h2⟩ := r2
 obtain ⟨v3, rfl, h3⟩ := r3
 obtain ⟨v4, rfl, h4⟩ := r4
 exact ⟨v3, v4, rfl, h0, h1, h2, h3, h4⟩
theorem RootRp.sh {h : Fr} {cs : List Value} {x : RootT} (r : RootRp.rel h cs x) : ∃ a3 a4 c3 c4, cs = [.int .i64 x.1, .int .i64 x.2.1, .int .i64 x.2.2.1, .slice a3 x.2.2.2.1.length c3, .slice a4 x.2.2.2.2.1.length c4] ∧ InI64 x.1 ∧ InI64 x.2.1 ∧ InI64 x.2.2.1 ∧ Arr Rp.u8 h (.slice a3 x.2.2.2.1.length c3) x.2.2.2.1 ∧ Arr Rp.u8 h (.slice a4 x.2.2.2.2.1.length c4) x.2.2.2.2.1 := by
 obtain ⟨v3, v4, rfl, h0, h1, h2, h3, h4⟩ := RootRp.open r
 obtain ⟨a3, c3, rfl⟩ := h3.shape
 obtain ⟨a4, c4, rfl⟩ := h4.shape
 exact ⟨a3, a4, c3, c4, rfl, h0, h1, h2, h3, h4⟩
theorem RootRp.mk {h : Fr} {x0 : Int} {x1 : Int} {x2 : Int} {x3 : List UInt8} {v3 : Value} {x4 : List UInt8} {v4 : Value} (h0 : InI64 x0) (h1 : InI64 x1) (h2 : InI64 x2) (h3 : Arr Rp.u8 h v3 x3) (h4 : Arr Rp.u8 h v4 x4) : RootRp.rel h [.int .i64 x0, .int .i64 x1, .int .i64 x2, v3, v4] (x0, x1, x2, x3, x4, ()) :=
 ⟨[.int .i64 x0], [.int .i64 x1, .int .i64 x2, v3, v4], rfl, ⟨rfl, h0⟩, ⟨[.int .i64 x1], [.int .i64 x2, v3, v4], rfl, ⟨rfl, h1⟩, ⟨[.int .i64 x2], [v3, v4], rfl, ⟨rfl, h2⟩, ⟨[v3], [v4], rfl, ⟨v3, rfl, h3⟩, ⟨[v4], [], rfl, ⟨v4, rfl, h4⟩, rfl⟩⟩⟩⟩⟩
abbrev RootL (τ : Tys) : Lp RootT := Lp.prod (Lp.pure Rp.i64) (Lp.prod (Lp.pure Rp.i64) (Lp.prod (Lp.pure Rp.i64) (Lp.prod (Lp.flat Rp.u8 τ.u8 (markB 1)) (Lp.prod (Lp.flat Rp.u8 τ.u8 (markB 1)) (Lp.unit)))))
theorem RootL.mk5 {τ : Tys} {m : Fr}   (s : Sat [] m) : (Lp.unit).own [] () m := by
 exact rfl
theorem RootL.mk4 {τ : Tys} {m : Fr} {x4 : List UInt8} {v4 : Value}  (s : Sat [LentQ Rp.u8 τ.u8 (markB 1) v4 x4] m) : (Lp.prod (Lp.flat Rp.u8 τ.u8 (markB 1)) (Lp.unit)).own [v4] (x4, ()) m := by
 obtain ⟨k1, k2, dj, s1, s2, o, st⟩ := s
 exact ⟨[v4], [], rfl, k1, k2, dj, s1, s2, ⟨v4, rfl, o⟩, k2, Fr.emp, Fr.disj_symm (Fr.emp_disj _), Fr.sub_refl _, Fr.emp_sub _, RootL.mk5 (τ := τ)  st, trivial⟩
theorem RootL.mk3 {τ : Tys} {m : Fr} {x3 : List UInt8} {v3 : Value} {x4 : List UInt8} {v4 : Value}  (s : Sat [LentQ Rp.u8 τ.u8 (markB 1) v3 x3, LentQ Rp.u8 τ.u8 (markB 1) v4 x4] m) : (Lp.prod (Lp.flat Rp.u8 τ.u8 (markB 1)) (Lp.prod (Lp.flat Rp.u8 τ.u8 (markB 1)) (Lp.unit))).own [v3, v4] (x3, x4, ()) m := by
 obtain ⟨k1, k2, dj, s1, s2, o, st⟩ := s
 exact ⟨[v3], [v4], rfl, k1, k2, dj, s1, s2, ⟨v3, rfl, o⟩, k2, Fr.emp, Fr.disj_symm (Fr.emp_disj _), Fr.sub_refl _, Fr.emp_sub _, RootL.mk4 (τ := τ)  st, trivial⟩
theorem RootL.mk2 {τ : Tys} {m : Fr} {x2 : Int} {x3 : List UInt8} {v3 : Value} {x4 : List UInt8} {v4 : Value} (h2 : InI64 x2) (s : Sat [LentQ Rp.u8 τ.u8 (markB 1) v3 x3, LentQ Rp.u8 τ.u8 (markB 1) v4 x4] m) : (Lp.prod (Lp.pure Rp.i64) (Lp.prod (Lp.flat Rp.u8 τ.u8 (markB 1)) (Lp.prod (Lp.flat Rp.u8 τ.u8 (markB 1)) (Lp.unit)))).own [.int .i64 x2, v3, v4] (x2, x3, x4, ()) m := by
 exact Lp.own_pure_prod (T := Rp.i64) (c := [.int .i64 x2]) ⟨rfl, h2⟩ (RootL.mk3 (τ := τ)  s)
theorem RootL.mk1 {τ : Tys} {m : Fr} {x1 : Int} {x2 : Int} {x3 : List UInt8} {v3 : Value} {x4 : List UInt8} {v4 : Value} (h1 : InI64 x1) (h2 : InI64 x2) (s : Sat [LentQ Rp.u8 τ.u8 (markB 1) v3 x3, LentQ Rp.u8 τ.u8 (markB 1) v4 x4] m) : (Lp.prod (Lp.pure Rp.i64) (Lp.prod (Lp.pure Rp.i64) (Lp.prod (Lp.flat Rp.u8 τ.u8 (markB 1)) (Lp.prod (Lp.flat Rp.u8 τ.u8 (markB 1)) (Lp.unit))))).own [.int .i64 x1, .int .i64 x2, v3, v4] (x1, x2, x3, x4, ()) m := by
 exact Lp.own_pure_prod (T := Rp.i64) (c := [.int .i64 x1]) ⟨rfl, h1⟩ (RootL.mk2 (τ := τ) h2 s)
theorem RootL.mk {τ : Tys} {m : Fr} {x0 : Int} {x1 : Int} {x2 : Int} {x3 : List UInt8} {v3 : Value} {x4 : List UInt8} {v4 : Value} (h0 : InI64 x0) (h1 : InI64 x1) (h2 : InI64 x2) (s : Sat [LentQ Rp.u8 τ.u8 (markB 1) v3 x3, LentQ Rp.u8 τ.u8 (markB 1) v4 x4] m) : (Lp.prod (Lp.pure Rp.i64) (Lp.prod (Lp.pure Rp.i64) (Lp.prod (Lp.pure Rp.i64) (Lp.prod (Lp.flat Rp.u8 τ.u8 (markB 1)) (Lp.prod (Lp.flat Rp.u8 τ.u8 (markB 1)) (Lp.unit)))))).own [.int .i64 x0, .int .i64 x1, .int .i64 x2, v3, v4] (x0, x1, x2, x3, x4, ()) m := by
 exact Lp.own_pure_prod (T := Rp.i64) (c := [.int .i64 x0]) ⟨rfl, h0⟩ (RootL.mk1 (τ := τ) h1 h2 s)
theorem RootL.opn {τ : Tys} {h : Fr} {cs : List Value} {x : RootT} (r : (RootL τ).rd h cs x) : ∃ v3 v4, cs = [.int .i64 x.1, .int .i64 x.2.1, .int .i64 x.2.2.1, v3, v4] ∧ InI64 x.1 ∧ InI64 x.2.1 ∧ InI64 x.2.2.1 ∧ LentQA Rp.u8 (markB 1) h v3 x.2.2.2.1 ∧ LentQA Rp.u8 (markB 1) h v4 x.2.2.2.2.1 := by
 obtain ⟨c0, d0, rfl, r0, r⟩ := r
 obtain ⟨c1, d1, rfl, r1, r⟩ := r
 obtain ⟨c2, d2, rfl, r2, r⟩ := r
 obtain ⟨c3, d3, rfl, r3, r⟩ := r
 obtain ⟨c4, d4, rfl, r4, r⟩ := r
 obtain rfl : d4 = [] := r
 obtain ⟨rfl, h0⟩ := r0
 obtain ⟨rfl, h1⟩ := r1
 obtain ⟨rfl, h2⟩ := r2
 obtain ⟨v3, rfl, h3⟩ := r3
 obtain ⟨v4, rfl, h4⟩ := r4
 exact ⟨v3, v4, rfl, h0, h1, h2, h3, h4⟩
def RootOk (N : Nat) (x : RootT) : Prop := x.2.2.2.1.length ≤ N ∧ x.2.2.2.2.1.length ≤ N
abbrev EvdT : Type := RootT × RootT × Unit
abbrev EvdRp : Rp EvdT := Rp.prod RootRp (Rp.prod RootRp (Rp.unit))
def markEvd (k i : Int) : EvdT := ((0, 0, markZ k i, [], [], ()), (0, 0, 0, [], [], ()), ())
theorem EvdRp.open {h : Fr} {cs : List Value} {x : EvdT} (r : EvdRp.rel h cs x) : ∃ v3 v4 v8 v9, cs = [.int .i64 x.1.1, .int .i64 x.1.2.1, .int .i64 x.1.2.2.1, v3, v4, .int .i64 x.2.1.1, .int .i64 x.2.1.2.1, .int .i64 x.2.1.2.2.1, v8, v9] ∧ InI64 x.1.1 ∧ InI64 x.1.2.1 ∧ InI64 x.1.2.2.1 ∧ Arr Rp.u8 h v3 x.1.2.2.2.1 ∧ Arr Rp.u8 h v4 x.1.2.2.2.2.1 ∧ InI64 x.2.1.1 ∧ InI64 x.2.1.2.1 ∧ InI64 x.2.1.2.2.1 ∧ Arr Rp.u8 h v8 x.2.1.2.2.2.1 ∧ Arr Rp.u8 h v9 x.2.1.2.2.2.2.1 := by
 obtain ⟨c0, d0, rfl, r0, r⟩ := r
 obtain ⟨c1, d1, rfl, r1, r⟩ := r
 obtain rfl : d1 = [] := r
 obtain ⟨v3, v4, rfl, h0, h1, h2, h3, h4⟩ := RootRp.open r0
 obtain ⟨v8, v9, rfl, h5, h6, h7, h8, h9⟩ := RootRp.open r1
 exact ⟨v3, v4, v8, v9, rfl, h0, h1, h2, h3, h4, h5, h6, h7, h8, h9⟩
theorem EvdRp.sh {h : Fr} {cs : List Value} {x : EvdT} (r : EvdRp.rel h cs x) : ∃ a3 a4 a8 a9 c3 c4 c8 c9, cs = [.int .i64 x.1.1, .int .i64 x.1.2.1, .int .i64 x.1.2.2.1, .slice a3 x.1.2.2.2.1.length c3, .slice a4 x.1.2.2.2.2.1.length c4, .int .i64 x.2.1.1, .int .i64 x.2.1.2.1, .int .i64 x.2.1.2.2.1, .slice a8 x.2.1.2.2.2.1.length c8, .slice a9 x.2.1.2.2.2.2.1.length c9] ∧ InI64 x.1.1 ∧ InI64 x.1.2.1 ∧ InI64 x.1.2.2.1 ∧ Arr Rp.u8 h (.slice a3 x.1.2.2.2.1.length c3) x.1.2.2.2.1 ∧ Arr Rp.u8 h (.slice a4 x.1.2.2.2.2.1.length c4) x.1.2.2.2.2.1 ∧ InI64 x.2.1.1 ∧ InI64 x.2.1.2.1 ∧ InI64 x.2.1.2.2.1 ∧ Arr Rp.u8 h (.slice a8 x.2.1.2.2.2.1.length c8) x.2.1.2.2.2.1 ∧ Arr Rp.u8 h (.slice a9 x.2.1.2.2.2.2.1.length c9) x.2.1.2.2.2.2.1 := by
 obtain ⟨v3, v4, v8, v9, rfl, h0, h1, h2, h3, h4, h5, h6, h7, h8, h9⟩ := EvdRp.open r
 obtain ⟨a3, c3, rfl⟩ := h3.shape
 obtain ⟨a4, c4, rfl⟩ := h4.shape
 obtain ⟨a8, c8, rfl⟩ := h8.shape
 obtain ⟨a9, c9, rfl⟩ := h9.shape
 exact ⟨a3, a4, a8, a9, c3, c4, c8, c9, rfl, h0, h1, h2, h3, h4, h5, h6, h7, h8, h9⟩
theorem EvdRp.mk {h : Fr} {x0 : Int} {x1 : Int} {x2 : Int} {x3 : List UInt8} {v3 : Value} {x4 : List UInt8} {v4 : Value} {x5 : Int} {x6 : Int} {x7 : Int} {x8 : List UInt8} {v8 : Value} {x9 : List UInt8} {v9 : Value} (h0 : InI64 x0) (h1 : InI64 x1) (h2 : InI64 x2) (h3 : Arr Rp.u8 h v3 x3) (h4 : Arr Rp.u8 h v4 x4) (h5 : InI64 x5) (h6 : InI64 x6) (h7 : InI64 x7) (h8 : Arr Rp.u8 h v8 x8) (h9 : Arr Rp.u8 h v9 x9) : EvdRp.rel h [.int .i64 x0, .int .i64 x1, .int .i64 x2, v3, v4, .int .i64 x5, .int .i64 x6, .int .i64 x7, v8, v9] ((x0, x1, x2, x3, x4, ()), (x5, x6, x7, x8, x9, ()), ()) :=
 ⟨[.int .i64 x0, .int .i64 x1, .int .i64 x2, v3, v4], [.int .i64 x5, .int .i64 x6, .int .i64 x7, v8, v9], rfl, (RootRp.mk h0 h1 h2 h3 h4), ⟨[.int .i64 x5, .int .i64 x6, .int .i64 x7, v8, v9], [], rfl, (RootRp.mk h5 h6 h7 h8 h9), rfl⟩⟩
abbrev EvdL (τ : Tys) : Lp EvdT := Lp.prod (RootL τ) (Lp.prod (RootL τ) (Lp.unit))
def EvdOk (N : Nat) (x : EvdT) : Prop := x.1.2.2.2.1.length ≤ N ∧ x.1.2.2.2.2.1.length ≤ N ∧ x.2.1.2.2.2.1.length ≤ N ∧ x.2.1.2.2.2.2.1.length ≤ N
abbrev HeldT : Type := (List LeafT) × (List RootT) × (List EvdT) × (List Int) × Unit
abbrev HeldRp : Rp HeldT := Rp.prod (Rp.slice LeafRp) (Rp.prod (Rp.slice RootRp) (Rp.prod (Rp.slice EvdRp) (Rp.prod (Rp.slice Rp.i64) (Rp.unit))))
theorem HeldRp.open {h : Fr} {cs : List Value} {x : HeldT} (r : HeldRp.rel h cs x) : ∃ v0 v1 v2 v3, cs = [v0, v1, v2, v3] ∧ Arr LeafRp h v0 x.1 ∧ Arr RootRp h v1 x.2.1 ∧ Arr EvdRp h v2 x.2.2.1 ∧ Arr Rp.i64 h v3 x.2.2.2.1 := by
 obtain ⟨c0, d0, rfl, r0, r⟩ := r
 obtain ⟨c1, d1, rfl, r1, r⟩ := r
 obtain ⟨c2, d2, rfl, r2, r⟩ := r
 obtain ⟨c3, d3, rfl, r3, r⟩ := r
 obtain rfl : d3 = [] := r
 obtain ⟨v0, rfl, h0⟩ := r0
 obtain ⟨v1, rfl, h1⟩ := r1
 obtain ⟨v2, rfl, h2⟩ := r2
 obtain ⟨v3, rfl, h3⟩ := r3
 exact ⟨v0, v1, v2, v3, rfl, h0, h1, h2, h3⟩
theorem HeldRp.sh {h : Fr} {cs : List Value} {x : HeldT} (r : HeldRp.rel h cs x) : ∃ a0 a1 a2 a3 c0 c1 c2 c3, cs = [.slice a0 x.1.length c0, .slice a1 x.2.1.length c1, .slice a2 x.2.2.1.length c2, .slice a3 x.2.2.2.1.length c3] ∧ Arr LeafRp h (.slice a0 x.1.length c0) x.1 ∧ Arr RootRp h (.slice a1 x.2.1.length c1) x.2.1 ∧ Arr EvdRp h (.slice a2 x.2.2.1.length c2) x.2.2.1 ∧ Arr Rp.i64 h (.slice a3 x.2.2.2.1.length c3) x.2.2.2.1 := by
 obtain ⟨v0, v1, v2, v3, rfl, h0, h1, h2, h3⟩ := HeldRp.open r
 obtain ⟨a0, c0, rfl⟩ := h0.shape
 obtain ⟨a1, c1, rfl⟩ := h1.shape
 obtain ⟨a2, c2, rfl⟩ := h2.shape
 obtain ⟨a3, c3, rfl⟩ := h3.shape
 exact ⟨a0, a1, a2, a3, c0, c1, c2, c3, rfl, h0, h1, h2, h3⟩
theorem HeldRp.mk {h : Fr} {x0 : List LeafT} {v0 : Value} {x1 : List RootT} {v1 : Value} {x2 : List EvdT} {v2 : Value} {x3 : List Int} {v3 : Value} (h0 : Arr LeafRp h v0 x0) (h1 : Arr RootRp h v1 x1) (h2 : Arr EvdRp h v2 x2) (h3 : Arr Rp.i64 h v3 x3) : HeldRp.rel h [v0, v1, v2, v3] (x0, x1, x2, x3, ()) :=
 ⟨[v0], [v1, v2, v3], rfl, ⟨v0, rfl, h0⟩, ⟨[v1], [v2, v3], rfl, ⟨v1, rfl, h1⟩, ⟨[v2], [v3], rfl, ⟨v2, rfl, h2⟩, ⟨[v3], [], rfl, ⟨v3, rfl, h3⟩, rfl⟩⟩⟩⟩
abbrev HeldL (τ : Tys) : Lp HeldT := Lp.prod (Lp.list (LeafL τ) τ.leaf (markLeaf 1)) (Lp.prod (Lp.list (RootL τ) τ.root (markRoot 1)) (Lp.prod (Lp.list (EvdL τ) τ.evd (markEvd 1)) (Lp.prod (Lp.flat Rp.i64 τ.int (markZ 1)) (Lp.unit))))
theorem HeldL.mk4 {τ : Tys} {m : Fr}   (s : Sat [] m) : (Lp.unit).own [] () m := by
 exact rfl
theorem HeldL.mk3 {τ : Tys} {m : Fr} {x3 : List Int} {v3 : Value}  (s : Sat [LentQ Rp.i64 τ.int (markZ 1) v3 x3] m) : (Lp.prod (Lp.flat Rp.i64 τ.int (markZ 1)) (Lp.unit)).own [v3] (x3, ()) m := by
 obtain ⟨k1, k2, dj, s1, s2, o, st⟩ := s
 exact ⟨[v3], [], rfl, k1, k2, dj, s1, s2, ⟨v3, rfl, o⟩, k2, Fr.emp, Fr.disj_symm (Fr.emp_disj _), Fr.sub_refl _, Fr.emp_sub _, HeldL.mk4 (τ := τ)  st, trivial⟩
theorem HeldL.mk2 {τ : Tys} {m : Fr} {x2 : List EvdT} {v2 : Value} {x3 : List Int} {v3 : Value}  (s : Sat [LentL (EvdL τ) τ.evd (markEvd 1) v2 x2, LentQ Rp.i64 τ.int (markZ 1) v3 x3] m) : (Lp.prod (Lp.list (EvdL τ) τ.evd (markEvd 1)) (Lp.prod (Lp.flat Rp.i64 τ.int (markZ 1)) (Lp.unit))).own [v2, v3] (x2, x3, ()) m := by
 obtain ⟨k1, k2, dj, s1, s2, o, st⟩ := s
 exact ⟨[v2], [v3], rfl, k1, k2, dj, s1, s2, ⟨v2, rfl, o⟩, k2, Fr.emp, Fr.disj_symm (Fr.emp_disj _), Fr.sub_refl _, Fr.emp_sub _, HeldL.mk3 (τ := τ)  st, trivial⟩
theorem HeldL.mk1 {τ : Tys} {m : Fr} {x1 : List RootT} {v1 : Value} {x2 : List EvdT} {v2 : Value} {x3 : List Int} {v3 : Value}  (s : Sat [LentL (RootL τ) τ.root (markRoot 1) v1 x1, LentL (EvdL τ) τ.evd (markEvd 1) v2 x2, LentQ Rp.i64 τ.int (markZ 1) v3 x3] m) : (Lp.prod (Lp.list (RootL τ) τ.root (markRoot 1)) (Lp.prod (Lp.list (EvdL τ) τ.evd (markEvd 1)) (Lp.prod (Lp.flat Rp.i64 τ.int (markZ 1)) (Lp.unit)))).own [v1, v2, v3] (x1, x2, x3, ()) m := by
 obtain ⟨k1, k2, dj, s1, s2, o, st⟩ := s
 exact ⟨[v1], [v2, v3], rfl, k1, k2, dj, s1, s2, ⟨v1, rfl, o⟩, k2, Fr.emp, Fr.disj_symm (Fr.emp_disj _), Fr.sub_refl _, Fr.emp_sub _, HeldL.mk2 (τ := τ)  st, trivial⟩
theorem HeldL.mk {τ : Tys} {m : Fr} {x0 : List LeafT} {v0 : Value} {x1 : List RootT} {v1 : Value} {x2 : List EvdT} {v2 : Value} {x3 : List Int} {v3 : Value}  (s : Sat [LentL (LeafL τ) τ.leaf (markLeaf 1) v0 x0, LentL (RootL τ) τ.root (markRoot 1) v1 x1, LentL (EvdL τ) τ.evd (markEvd 1) v2 x2, LentQ Rp.i64 τ.int (markZ 1) v3 x3] m) : (Lp.prod (Lp.list (LeafL τ) τ.leaf (markLeaf 1)) (Lp.prod (Lp.list (RootL τ) τ.root (markRoot 1)) (Lp.prod (Lp.list (EvdL τ) τ.evd (markEvd 1)) (Lp.prod (Lp.flat Rp.i64 τ.int (markZ 1)) (Lp.unit))))).own [v0, v1, v2, v3] (x0, x1, x2, x3, ()) m := by
 obtain ⟨k1, k2, dj, s1, s2, o, st⟩ := s
 exact ⟨[v0], [v1, v2, v3], rfl, k1, k2, dj, s1, s2, ⟨v0, rfl, o⟩, k2, Fr.emp, Fr.disj_symm (Fr.emp_disj _), Fr.sub_refl _, Fr.emp_sub _, HeldL.mk1 (τ := τ)  st, trivial⟩
theorem HeldL.opn {τ : Tys} {h : Fr} {cs : List Value} {x : HeldT} (r : (HeldL τ).rd h cs x) : ∃ v0 v1 v2 v3, cs = [v0, v1, v2, v3] ∧ LentLA (LeafL τ) (markLeaf 1) h v0 x.1 ∧ LentLA (RootL τ) (markRoot 1) h v1 x.2.1 ∧ LentLA (EvdL τ) (markEvd 1) h v2 x.2.2.1 ∧ LentQA Rp.i64 (markZ 1) h v3 x.2.2.2.1 := by
 obtain ⟨c0, d0, rfl, r0, r⟩ := r
 obtain ⟨c1, d1, rfl, r1, r⟩ := r
 obtain ⟨c2, d2, rfl, r2, r⟩ := r
 obtain ⟨c3, d3, rfl, r3, r⟩ := r
 obtain rfl : d3 = [] := r
 obtain ⟨v0, rfl, h0⟩ := r0
 obtain ⟨v1, rfl, h1⟩ := r1
 obtain ⟨v2, rfl, h2⟩ := r2
 obtain ⟨v3, rfl, h3⟩ := r3
 exact ⟨v0, v1, v2, v3, rfl, h0, h1, h2, h3⟩
def HeldOk (N : Nat) (x : HeldT) : Prop := (x.1.length ≤ N ∧ ∀ y ∈ x.1, LeafOk N y) ∧ (x.2.1.length ≤ N ∧ ∀ y ∈ x.2.1, RootOk N y) ∧ (x.2.2.1.length ≤ N ∧ ∀ y ∈ x.2.2.1, EvdOk N y) ∧ x.2.2.2.1.length ≤ N
end Go.Sp
end
