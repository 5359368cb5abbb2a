/- Texts of this proof. -/
import Derived.Test.YtodhbhanmdfdeaaGreatQSpLent
import Derived.Laws.Strings2
set_option linter.unusedVariables false
namespace Go.Sp
structure Tys where
 u8 : TypeId
 int : TypeId
 bytes : TypeId
 dot : TypeId
 recd : TypeId
 leaf : TypeId
 stub : TypeId
 node : TypeId
 prf : TypeId
 root : TypeId
 evd : TypeId
 frm : TypeId
 held : TypeId
def byteOf (z : Int) : UInt8 := UInt8.ofNat (z % 256).toNat
def markZ (k i : Int) : Int := 1000003 * (k + 7) + i
def markB (k i : Int) : UInt8 := byteOf ((IntKind.u64.wrap (IntKind.u64.wrap (markZ k i) * 11400714819323198485)).fdiv (2 ^ min (56 : Int).toNat IntKind.u64.bits))
def markT (k i : Int) : List UInt8 := [35, byteOf k, byteOf (k.fdiv (2 ^ min (8 : Int).toNat IntKind.i64.bits)), byteOf (k.fdiv (2 ^ min (16 : Int).toNat IntKind.i64.bits)), 47, byteOf i, byteOf (i.fdiv (2 ^ min (8 : Int).toNat IntKind.i64.bits)), byteOf (i.fdiv (2 ^ min (16 : Int).toNat IntKind.i64.bits))]
@[simp] theorem markT_length (k i : Int) : (markT k i).length = 8 := rfl
abbrev DotT : Type := Int × Int × Unit
abbrev DotRp : Rp DotT := Rp.prod Rp.i64 (Rp.prod Rp.i64 (Rp.unit))
theorem DotRp.open {h : Fr} {cs : List Value} {x : DotT} (r : DotRp.rel h cs x) : cs = [.int .i64 x.1, .int .i64 x.2.1] ∧ InI64 x.1 ∧ InI64 x.2.1 := by
 obtain ⟨c0, d0, rfl, r0, r⟩ := r
 obtain ⟨c1, d1, rfl, r1, r⟩ := r
 obtain rfl : d1 = [] := r
 obtain ⟨rfl, h0⟩ := r0
 obtain ⟨rfl, h1⟩ := r1
 exact ⟨rfl, h0, h1⟩
theorem DotRp.mk {h : Fr} {x0 : Int} {x1 : Int} (h0 : InI64 x0) (h1 : InI64 x1) : DotRp.rel h [.int .i64 x0, .int .i64 x1] (x0, x1, ()) :=
 ⟨[.int .i64 x0], [.int .i64 x1], rfl, ⟨rfl, h0⟩, ⟨[.int .i64 x1], [], rfl, ⟨rfl, h1⟩, rfl⟩⟩
abbrev RecT : Type := (List UInt8) × Int × Int × (List DotT) × Bool × (List UInt8) × (List UInt8) × Unit
abbrev RecRp : Rp RecT := Rp.prod Rp.str (Rp.prod Rp.i64 (Rp.prod Rp.i64 (Rp.prod (Rp.slice DotRp) (Rp.prod Rp.bool (Rp.prod (Rp.slice Rp.u8) (Rp.prod (Rp.slice Rp.u8) (Rp.unit)))))))
theorem RecRp.open {h : Fr} {cs : List Value} {x : RecT} (r : RecRp.rel h cs x) : ∃ v3 v5 v6, cs = [.string (str x.1), .int .i64 x.2.1, .int .i64 x.2.2.1, v3, .bool x.2.2.2.2.1, v5, v6] ∧ x.1.length ≤ 9223372036854775807 ∧ InI64 x.2.1 ∧ InI64 x.2.2.1 ∧ Arr DotRp h v3 x.2.2.2.1 ∧ Arr Rp.u8 h v5 x.2.2.2.2.2.1 ∧ Arr Rp.u8 h v6 x.2.2.2.2.2.2.1 := by
 obtain ⟨c0, d0, rfl, r0, r⟩ := r
 obtain ⟨c1, d1, rfl, r1, r⟩ := r
 obtain ⟨c2, d2, rfl, r2, r⟩ := r
 obtain ⟨c3, d3, rfl, r3, r⟩ := r
 obtain ⟨c4, d4, rfl, r4, r⟩ := r
 obtain ⟨c5, d5, rfl, r5, r⟩ := r
 obtain ⟨c6, d6, rfl, r6, r⟩ := r
 obtain rfl : d6 = [] := r
 obtain ⟨rfl, h0⟩ := r0
 obtain ⟨rfl, h1⟩ := r1
 obtain ⟨rfl, h2⟩ := r2
 obtain ⟨v3, rfl, h3⟩ := r3
 obtain rfl : c4 = [.bool x.2.2.2.2.1] := r4
 obtain ⟨v5, rfl, h5⟩ := r5
 obtain ⟨v6, rfl, h6⟩ := r6
 exact ⟨v3, v5, v6, rfl, h0, h1, h2, h3, h5, h6⟩
theorem RecRp.sh {h : Fr} {cs : List Value} {x : RecT} (r : RecRp.rel h cs x) : ∃ a3 a5 a6 c3 c5 c6, cs = [.string (str x.1), .int .i64 x.2.1, .int .i64 x.2.2.1, .slice a3 x.2.2.2.1.length c3, .bool x.2.2.2.2.1, .slice a5 x.2.2.2.2.2.1.length c5, .slice a6 x.2.2.2.2.2.2.1.length c6] ∧ x.1.length ≤ 9223372036854775807 ∧ InI64 x.2.1 ∧ InI64 x.2.2.1 ∧ Arr DotRp h (.slice a3 x.2.2.2.1.length c3) x.2.2.2.1 ∧ Arr Rp.u8 h (.slice a5 x.2.2.2.2.2.1.length c5) x.2.2.2.2.2.1 ∧ Arr Rp.u8 h (.slice a6 x.2.2.2.2.2.2.1.length c6) x.2.2.2.2.2.2.1 := by
 obtain ⟨v3, v5, v6, rfl, h0, h1, h2, h3, h5, h6⟩ := RecRp.open r
 obtain ⟨a3, c3, rfl⟩ := h3.shape
 obtain ⟨a5, c5, rfl⟩ := h5.shape
 obtain ⟨a6, c6, rfl⟩ := h6.shape
 exact ⟨a3, a5, a6, c3, c5, c6, rfl, h0, h1, h2, h3, h5, h6⟩
theorem RecRp.mk {h : Fr} {x0 : List UInt8} {x1 : Int} {x2 : Int} {x3 : List DotT} {v3 : Value} {x4 : Bool} {x5 : List UInt8} {v5 : Value} {x6 : List UInt8} {v6 : Value} (h0 : x0.length ≤ 9223372036854775807) (h1 : InI64 x1) (h2 : InI64 x2) (h3 : Arr DotRp h v3 x3) (h5 : Arr Rp.u8 h v5 x5) (h6 : Arr Rp.u8 h v6 x6) : RecRp.rel h [.string (str x0), .int .i64 x1, .int .i64 x2, v3, .bool x4, v5, v6] (x0, x1, x2, x3, x4, x5, x6, ()) :=
 ⟨[.string (str x0)], [.int .i64 x1, .int .i64 x2, v3, .bool x4, v5, v6], rfl, ⟨rfl, h0⟩, ⟨[.int .i64 x1], [.int .i64 x2, v3, .bool x4, v5, v6], rfl, ⟨rfl, h1⟩, ⟨[.int .i64 x2], [v3, .bool x4, v5, v6], rfl, ⟨rfl, h2⟩, ⟨[v3], [.bool x4, v5, v6], rfl, ⟨v3, rfl, h3⟩, ⟨[.bool x4], [v5, v6], rfl, rfl, ⟨[v5], [v6], rfl, ⟨v5, rfl, h5⟩, ⟨[v6], [], rfl, ⟨v6, rfl, h6⟩, rfl⟩⟩⟩⟩⟩⟩⟩
abbrev RecG (τ : Tys) : Gp RecT := Gp.prod (Gp.pure Rp.str) (Gp.prod (Gp.pure Rp.i64) (Gp.prod (Gp.pure Rp.i64) (Gp.prod (Gp.row DotRp τ.dot) (Gp.prod (Gp.pure Rp.bool) (Gp.prod (Gp.row Rp.u8 τ.u8) (Gp.prod (Gp.row Rp.u8 τ.u8) (Gp.unit)))))))
theorem RecG.mk7 {τ : Tys} {m : Fr}   (s : Sat [] m) : (Gp.unit).own [] () m := by
 exact rfl
theorem RecG.mk6 {τ : Tys} {m : Fr} {x6 : List UInt8} {v6 : Value}  (s : Sat [OwnP Rp.u8 τ.u8 v6 x6] m) : (Gp.prod (Gp.row Rp.u8 τ.u8) (Gp.unit)).own [v6] (x6, ()) m := by
 obtain ⟨k1, k2, dj, s1, s2, o, st⟩ := s
 exact ⟨[v6], [], rfl, k1, k2, dj, s1, s2, ⟨v6, rfl, o⟩, k2, Fr.emp, Fr.disj_symm (Fr.emp_disj _), Fr.sub_refl _, Fr.emp_sub _, RecG.mk7 (τ := τ)  st, trivial⟩
theorem RecG.mk5 {τ : Tys} {m : Fr} {x5 : List UInt8} {v5 : Value} {x6 : List UInt8} {v6 : Value}  (s : Sat [OwnP Rp.u8 τ.u8 v5 x5, OwnP Rp.u8 τ.u8 v6 x6] m) : (Gp.prod (Gp.row Rp.u8 τ.u8) (Gp.prod (Gp.row Rp.u8 τ.u8) (Gp.unit))).own [v5, v6] (x5, x6, ()) m := by
 obtain ⟨k1, k2, dj, s1, s2, o, st⟩ := s
 exact ⟨[v5], [v6], rfl, k1, k2, dj, s1, s2, ⟨v5, rfl, o⟩, k2, Fr.emp, Fr.disj_symm (Fr.emp_disj _), Fr.sub_refl _, Fr.emp_sub _, RecG.mk6 (τ := τ)  st, trivial⟩
theorem RecG.mk4 {τ : Tys} {m : Fr} {x4 : Bool} {x5 : List UInt8} {v5 : Value} {x6 : List UInt8} {v6 : Value}  (s : Sat [OwnP Rp.u8 τ.u8 v5 x5, OwnP Rp.u8 τ.u8 v6 x6] m) : (Gp.prod (Gp.pure Rp.bool) (Gp.prod (Gp.row Rp.u8 τ.u8) (Gp.prod (Gp.row Rp.u8 τ.u8) (Gp.unit)))).own [.bool x4, v5, v6] (x4, x5, x6, ()) m := by
 exact Gp.own_pure_prod (T := Rp.bool) (c := [.bool x4]) rfl (RecG.mk5 (τ := τ)  s)
theorem RecG.mk3 {τ : Tys} {m : Fr} {x3 : List DotT} {v3 : Value} {x4 : Bool} {x5 : List UInt8} {v5 : Value} {x6 : List UInt8} {v6 : Value}  (s : Sat [OwnP DotRp τ.dot v3 x3, OwnP Rp.u8 τ.u8 v5 x5, OwnP Rp.u8 τ.u8 v6 x6] m) : (Gp.prod (Gp.row DotRp τ.dot) (Gp.prod (Gp.pure Rp.bool) (Gp.prod (Gp.row Rp.u8 τ.u8) (Gp.prod (Gp.row Rp.u8 τ.u8) (Gp.unit))))).own [v3, .bool x4, v5, v6] (x3, x4, x5, x6, ()) m := by
 obtain ⟨k1, k2, dj, s1, s2, o, st⟩ := s
 exact ⟨[v3], [.bool x4, v5, v6], rfl, k1, k2, dj, s1, s2, ⟨v3, rfl, o⟩, k2, Fr.emp, Fr.disj_symm (Fr.emp_disj _), Fr.sub_refl _, Fr.emp_sub _, RecG.mk4 (τ := τ)  st, trivial⟩
theorem RecG.mk2 {τ : Tys} {m : Fr} {x2 : Int} {x3 : List DotT} {v3 : Value} {x4 : Bool} {x5 : List UInt8} {v5 : Value} {x6 : List UInt8} {v6 : Value} (h2 : InI64 x2) (s : Sat [OwnP DotRp τ.dot v3 x3, OwnP Rp.u8 τ.u8 v5 x5, OwnP Rp.u8 τ.u8 v6 x6] m) : (Gp.prod (Gp.pure Rp.i64) (Gp.prod (Gp.row DotRp τ.dot) (Gp.prod (Gp.pure Rp.bool) (Gp.prod (Gp.row Rp.u8 τ.u8) (Gp.prod (Gp.row Rp.u8 τ.u8) (Gp.unit)))))).own [.int .i64 x2, v3, .bool x4, v5, v6] (x2, x3, x4, x5, x6, ()) m := by
 exact Gp.own_pure_prod (T := Rp.i64) (c := [.int .i64 x2]) ⟨rfl, h2⟩ (RecG.mk3 (τ := τ)  s)
theorem RecG.mk1 {τ : Tys} {m : Fr} {x1 : Int} {x2 : Int} {x3 : List DotT} {v3 : Value} {x4 : Bool} {x5 : List UInt8} {v5 : Value} {x6 : List UInt8} {v6 : Value} (h1 : InI64 x1) (h2 : InI64 x2) (s : Sat [OwnP DotRp τ.dot v3 x3, OwnP Rp.u8 τ.u8 v5 x5, OwnP Rp.u8 τ.u8 v6 x6] m) : (Gp.prod (Gp.pure Rp.i64) (Gp.prod (Gp.pure Rp.i64) (Gp.prod (Gp.row DotRp τ.dot) (Gp.prod (Gp.pure Rp.bool) (Gp.prod (Gp.row Rp.u8 τ.u8) (Gp.prod (Gp.row Rp.u8 τ.u8) (Gp.unit))))))).own [.int .i64 x1, .int .i64 x2, v3, .bool x4, v5, v6] (x1, x2, x3, x4, x5, x6, ()) m := by
 exact Gp.own_pure_prod (T := Rp.i64) (c := [.int .i64 x1]) ⟨rfl, h1⟩ (RecG.mk2 (τ := τ) h2 s)
theorem RecG.mk {τ : Tys} {m : Fr} {x0 : List UInt8} {x1 : Int} {x2 : Int} {x3 : List DotT} {v3 : Value} {x4 : Bool} {x5 : List UInt8} {v5 : Value} {x6 : List UInt8} {v6 : Value} (h0 : x0.length ≤ 9223372036854775807) (h1 : InI64 x1) (h2 : InI64 x2) (s : Sat [OwnP DotRp τ.dot v3 x3, OwnP Rp.u8 τ.u8 v5 x5, OwnP Rp.u8 τ.u8 v6 x6] m) : (Gp.prod (Gp.pure Rp.str) (Gp.prod (Gp.pure Rp.i64) (Gp.prod (Gp.pure Rp.i64) (Gp.prod (Gp.row DotRp τ.dot) (Gp.prod (Gp.pure Rp.bool) (Gp.prod (Gp.row Rp.u8 τ.u8) (Gp.prod (Gp.row Rp.u8 τ.u8) (Gp.unit)))))))).own [.string (str x0), .int .i64 x1, .int .i64 x2, v3, .bool x4, v5, v6] (x0, x1, x2, x3, x4, x5, x6, ()) m := by
 exact Gp.own_pure_prod (T := Rp.str) (c := [.string (str x0)]) ⟨rfl, h0⟩ (RecG.mk1 (τ := τ) h1 h2 s)
def RecOk (N : Nat) (x : RecT) : Prop := x.1.length ≤ N ∧ x.2.2.2.1.length ≤ N ∧ x.2.2.2.2.2.1.length ≤ N ∧ x.2.2.2.2.2.2.1.length ≤ N
abbrev LeafT : Type := (List UInt8) × (List RecT) × Unit
abbrev LeafRp : Rp LeafT := Rp.prod Rp.str (Rp.prod (Rp.slice RecRp) (Rp.unit))
theorem LeafRp.open {h : Fr} {cs : List Value} {x : LeafT} (r : LeafRp.rel h cs x) : ∃ v1, cs = [.string (str x.1), v1] ∧ x.1.length ≤ 9223372036854775807 ∧ Arr RecRp h v1 x.2.1 := by
 obtain ⟨c0, d0, rfl, r0, r⟩ := r
 obtain ⟨c1, d1, rfl, r1, r⟩ := r
 obtain rfl : d1 = [] := r
 obtain ⟨rfl, h0⟩ := r0
 obtain ⟨v1, rfl, h1⟩ := r1
 exact ⟨v1, rfl, h0, h1⟩
theorem LeafRp.sh {h : Fr} {cs : List Value} {x : LeafT} (r : LeafRp.rel h cs x) : ∃ a1 c1, cs = [.string (str x.1), .slice a1 x.2.1.length c1] ∧ x.1.length ≤ 9223372036854775807 ∧ Arr RecRp h (.slice a1 x.2.1.length c1) x.2.1 := by
 obtain ⟨v1, rfl, h0, h1⟩ := LeafRp.open r
 obtain ⟨a1, c1, rfl⟩ := h1.shape
 exact ⟨a1, c1, rfl, h0, h1⟩
abbrev LeafG (τ : Tys) : Gp LeafT := Gp.prod (Gp.pure Rp.str) (Gp.prod (Gp.list (RecG τ) τ.recd) (Gp.unit))
theorem LeafG.mk2 {τ : Tys} {m : Fr}   (s : Sat [] m) : (Gp.unit).own [] () m := by
 exact rfl
theorem LeafG.mk1 {τ : Tys} {m : Fr} {x1 : List RecT} {v1 : Value}  (s : Sat [ListP (RecG τ) τ.recd v1 x1] m) : (Gp.prod (Gp.list (RecG τ) τ.recd) (Gp.unit)).own [v1] (x1, ()) m := by
 obtain ⟨k1, k2, dj, s1, s2, o, st⟩ := s
 exact ⟨[v1], [], rfl, k1, k2, dj, s1, s2, ⟨v1, rfl, o⟩, k2, Fr.emp, Fr.disj_symm (Fr.emp_disj _), Fr.sub_refl _, Fr.emp_sub _, LeafG.mk2 (τ := τ)  st, trivial⟩
theorem LeafG.mk {τ : Tys} {m : Fr} {x0 : List UInt8} {x1 : List RecT} {v1 : Value} (h0 : x0.length ≤ 9223372036854775807) (s : Sat [ListP (RecG τ) τ.recd v1 x1] m) : (Gp.prod (Gp.pure Rp.str) (Gp.prod (Gp.list (RecG τ) τ.recd) (Gp.unit))).own [.string (str x0), v1] (x0, x1, ()) m := by
 exact Gp.own_pure_prod (T := Rp.str) (c := [.string (str x0)]) ⟨rfl, h0⟩ (LeafG.mk1 (τ := τ)  s)
def LeafOk (N : Nat) (x : LeafT) : Prop := x.1.length ≤ N ∧ (x.2.1.length ≤ N ∧ ∀ y ∈ x.2.1, RecOk N y)
abbrev StubT : Type := (List UInt8) × (List UInt8) × Unit
abbrev NodeT : Type := UInt8 × (List UInt8) × (List UInt8) × (List LeafT) × Unit
abbrev PrfT : Type := (List (List UInt8)) × (List StubT) × Unit
abbrev RootT : Type := Int × Int × Int × (List UInt8) × (List UInt8) × Unit
abbrev RootRp : Rp RootT := Rp.prod Rp.i64 (Rp.prod Rp.i64 (Rp.prod Rp.i64 (Rp.prod (Rp.slice Rp.u8) (Rp.prod (Rp.slice Rp.u8) (Rp.unit)))))
theorem RootRp.open {h : Fr} {cs : List Value} {x : RootT} (r : RootRp.rel h cs x) : ∃ v3 v4, cs = [.int .i64 x.1, .int .i64 x.2.1, .int .i64 x.2.2.1, v3, v4] ∧ InI64 x.1 ∧ InI64 x.2.1 ∧ InI64 x.2.2.1 ∧ Arr Rp.u8 h v3 x.2.2.2.1 ∧ Arr Rp.u8 h v4 x.2.2.2.2.1 := by
 obtain ⟨c0, d0, rfl, r0, r⟩ := r
 obtain ⟨c1, d1, rfl, r1, r⟩ := r
 obtain ⟨c2, d2, rfl, r2, r⟩ := r
 obtain ⟨c3, d3, rfl, r3, r⟩ := r
 obtain ⟨c4, d4, rfl, r4, r⟩ := r
 obtain rfl : d4 = [] := r
 obtain ⟨rfl, h0⟩ := r0
 obtain ⟨rfl, h1⟩ := r1
 obtain ⟨rfl, h2⟩ := r2
 obtain ⟨v3, rfl, h3⟩ := r3
 obtain ⟨v4, rfl, h4⟩ := r4
 exact ⟨v3, v4, rfl, h0, h1, h2, h3, h4⟩
theorem RootRp.sh {h : Fr} {cs : List Value} {x : RootT} (r : RootRp.rel h cs x) : ∃ a3 a4 c3 c4, cs = [.int .i64 x.1, .int .i64 x.2.1, .int .i64 x.2.2.1, .slice a3 x.2.2.2.1.length c3, .slice a4 x.2.2.2.2.1.length c4] ∧ InI64 x.1 ∧ InI64 x.2.1 ∧ InI64 x.2.2.1 ∧ Arr Rp.u8 h (.slice a3 x.2.2.2.1.length c3) x.2.2.2.1 ∧ Arr Rp.u8 h (.slice a4 x.2.2.2.2.1.length c4) x.2.2.2.2.1 := by
 obtain ⟨v3, v4, rfl, h0, h1, h2, h3, h4⟩ := RootRp.open r
 obtain ⟨a3, c3, rfl⟩ := h3.shape
 obtain ⟨a4, c4, rfl⟩ := h4.shape
 exact ⟨a3, a4, c3, c4, rfl, h0, h1, h2, h3, h4⟩
theorem RootRp.mk {h : Fr} {x0 : Int} {x1 : Int} {x2 : Int} {x3 : List UInt8} {v3 : Value} {x4 : List UInt8} {v4 : Value} (h0 : InI64 x0) (h1 : InI64 x1) (h2 : InI64 x2) (h3 : Arr Rp.u8 h v3 x3) (h4 : Arr Rp.u8 h v4 x4) : RootRp.rel h [.int .i64 x0, .int .i64 x1, .int .i64 x2, v3, v4] (x0, x1, x2, x3, x4, ()) :=
 ⟨[.int .i64 x0], [.int .i64 x1, .int .i64 x2, v3, v4], rfl, ⟨rfl, h0⟩, ⟨[.int .i64 x1], [.int .i64 x2, v3, v4], rfl, ⟨rfl, h1⟩, ⟨[.int .i64 x2], [v3, v4], rfl, ⟨rfl, h2⟩, ⟨[v3], [v4], rfl, ⟨v3, rfl, h3⟩, ⟨[v4], [], rfl, ⟨v4, rfl, h4⟩, rfl⟩⟩⟩⟩⟩
abbrev RootG (τ : Tys) : Gp RootT := Gp.prod (Gp.pure Rp.i64) (Gp.prod (Gp.pure Rp.i64) (Gp.prod (Gp.pure Rp.i64) (Gp.prod (Gp.row Rp.u8 τ.u8) (Gp.prod (Gp.row Rp.u8 τ.u8) (Gp.unit)))))
theorem RootG.mk5 {τ : Tys} {m : Fr}   (s : Sat [] m) : (Gp.unit).own [] () m := by
 exact rfl
theorem RootG.mk4 {τ : Tys} {m : Fr} {x4 : List UInt8} {v4 : Value}  (s : Sat [OwnP Rp.u8 τ.u8 v4 x4] m) : (Gp.prod (Gp.row Rp.u8 τ.u8) (Gp.unit)).own [v4] (x4, ()) m := by
 obtain ⟨k1, k2, dj, s1, s2, o, st⟩ := s
 exact ⟨[v4], [], rfl, k1, k2, dj, s1, s2, ⟨v4, rfl, o⟩, k2, Fr.emp, Fr.disj_symm (Fr.emp_disj _), Fr.sub_refl _, Fr.emp_sub _, RootG.mk5 (τ := τ)  st, trivial⟩
theorem RootG.mk3 {τ : Tys} {m : Fr} {x3 : List UInt8} {v3 : Value} {x4 : List UInt8} {v4 : Value}  (s : Sat [OwnP Rp.u8 τ.u8 v3 x3, OwnP Rp.u8 τ.u8 v4 x4] m) : (Gp.prod (Gp.row Rp.u8 τ.u8) (Gp.prod (Gp.row Rp.u8 τ.u8) (Gp.unit))).own [v3, v4] (x3, x4, ()) m := by
 obtain ⟨k1, k2, dj, s1, s2, o, st⟩ := s
 exact ⟨[v3], [v4], rfl, k1, k2, dj, s1, s2, ⟨v3, rfl, o⟩, k2, Fr.emp, Fr.disj_symm (Fr.emp_disj _), Fr.sub_refl _, Fr.emp_sub _, RootG.mk4 (τ := τ)  st, trivial⟩
theorem RootG.mk2 {τ : Tys} {m : Fr} {x2 : Int} {x3 : List UInt8} {v3 : Value} {x4 : List UInt8} {v4 : Value} (h2 : InI64 x2) (s : Sat [OwnP Rp.u8 τ.u8 v3 x3, OwnP Rp.u8 τ.u8 v4 x4] m) : (Gp.prod (Gp.pure Rp.i64) (Gp.prod (Gp.row Rp.u8 τ.u8) (Gp.prod (Gp.row Rp.u8 τ.u8) (Gp.unit)))).own [.int .i64 x2, v3, v4] (x2, x3, x4, ()) m := by
 exact Gp.own_pure_prod (T := Rp.i64) (c := [.int .i64 x2]) ⟨rfl, h2⟩ (RootG.mk3 (τ := τ)  s)
theorem RootG.mk1 {τ : Tys} {m : Fr} {x1 : Int} {x2 : Int} {x3 : List UInt8} {v3 : Value} {x4 : List UInt8} {v4 : Value} (h1 : InI64 x1) (h2 : InI64 x2) (s : Sat [OwnP Rp.u8 τ.u8 v3 x3, OwnP Rp.u8 τ.u8 v4 x4] m) : (Gp.prod (Gp.pure Rp.i64) (Gp.prod (Gp.pure Rp.i64) (Gp.prod (Gp.row Rp.u8 τ.u8) (Gp.prod (Gp.row Rp.u8 τ.u8) (Gp.unit))))).own [.int .i64 x1, .int .i64 x2, v3, v4] (x1, x2, x3, x4, ()) m := by
 exact Gp.own_pure_prod (T := Rp.i64) (c := [.int .i64 x1]) ⟨rfl, h1⟩ (RootG.mk2 (τ := τ) h2 s)
theorem RootG.mk {τ : Tys} {m : Fr} {x0 : Int} {x1 : Int} {x2 : Int} {x3 : List UInt8} {v3 : Value} {x4 : List UInt8} {v4 : Value} (h0 : InI64 x0) (h1 : InI64 x1) (h2 : InI64 x2) (s : Sat [OwnP Rp.u8 τ.u8 v3 x3, OwnP Rp.u8 τ.u8 v4 x4] m) : (Gp.prod (Gp.pure Rp.i64) (Gp.prod (Gp.pure Rp.i64) (Gp.prod (Gp.pure Rp.i64) (Gp.prod (Gp.row Rp.u8 τ.u8) (Gp.prod (Gp.row Rp.u8 τ.u8) (Gp.unit)))))).own [.int .i64 x0, .int .i64 x1, .int .i64 x2, v3, v4] (x0, x1, x2, x3, x4, ()) m := by
 exact Gp.own_pure_prod (T := Rp.i64) (c := [.int .i64 x0]) ⟨rfl, h0⟩ (RootG.mk1 (τ := τ) h1 h2 s)
def RootOk (N : Nat) (x : RootT) : Prop := x.2.2.2.1.length ≤ N ∧ x.2.2.2.2.1.length ≤ N
abbrev EvdT : Type := RootT × RootT × Unit
abbrev EvdRp : Rp EvdT := Rp.prod RootRp (Rp.prod RootRp (Rp.unit))
theorem EvdRp.open {h : Fr} {cs : List Value} {x : EvdT} (r : EvdRp.rel h cs x) : ∃ v3 v4 v8 v9, cs = [.int .i64 x.1.1, .int .i64 x.1.2.1, .int .i64 x.1.2.2.1, v3, v4, .int .i64 x.2.1.1, .int .i64 x.2.1.2.1, .int .i64 x.2.1.2.2.1, v8, v9] ∧ InI64 x.1.1 ∧ InI64 x.1.2.1 ∧ InI64 x.1.2.2.1 ∧ Arr Rp.u8 h v3 x.1.2.2.2.1 ∧ Arr Rp.u8 h v4 x.1.2.2.2.2.1 ∧ InI64 x.2.1.1 ∧ InI64 x.2.1.2.1 ∧ InI64 x.2.1.2.2.1 ∧ Arr Rp.u8 h v8 x.2.1.2.2.2.1 ∧ Arr Rp.u8 h v9 x.2.1.2.2.2.2.1 := by
 obtain ⟨c0, d0, rfl, r0, r⟩ := r
 obtain ⟨c1, d1, rfl, r1, r⟩ := r
 obtain rfl : d1 = [] := r
 obtain ⟨v3, v4, rfl, h0, h1, h2, h3, h4⟩ := RootRp.open r0
 obtain ⟨v8, v9, rfl, h5, h6, h7, h8, h9⟩ := RootRp.open r1
 exact ⟨v3, v4, v8, v9, rfl, h0, h1, h2, h3, h4, h5, h6, h7, h8, h9⟩
theorem EvdRp.sh {h : Fr} {cs : List Value} {x : EvdT} (r : EvdRp.rel h cs x) : ∃ a3 a4 a8 a9 c3 c4 c8 c9, cs = [.int .i64 x.1.1, .int .i64 x.1.2.1, .int .i64 x.1.2.2.1, .slice a3 x.1.2.2.2.1.length c3, .slice a4 x.1.2.2.2.2.1.length c4, .int .i64 x.2.1.1, .int .i64 x.2.1.2.1, .int .i64 x.2.1.2.2.1, .slice a8 x.2.1.2.2.2.1.length c8, .slice a9 x.2.1.2.2.2.2.1.length c9] ∧ InI64 x.1.1 ∧ InI64 x.1.2.1 ∧ InI64 x.1.2.2.1 ∧ Arr Rp.u8 h (.slice a3 x.1.2.2.2.1.length c3) x.1.2.2.2.1 ∧ Arr Rp.u8 h (.slice a4 x.1.2.2.2.2.1.length c4) x.1.2.2.2.2.1 ∧ InI64 x.2.1.1 ∧ InI64 x.2.1.2.1 ∧ InI64 x.2.1.2.2.1 ∧ Arr Rp.u8 h (.slice a8 x.2.1.2.2.2.1.length c8) x.2.1.2.2.2.1 ∧ Arr Rp.u8 h (.slice a9 x.2.1.2.2.2.2.1.length c9) x.2.1.2.2.2.2.1 := by
 obtain ⟨v3, v4, v8, v9, rfl, h0, h1, h2, h3, h4, h5, h6, h7, h8, h9⟩ := EvdRp.open r
 obtain ⟨a3, c3, rfl⟩ := h3.shape
 obtain ⟨a4, c4, rfl⟩ := h4.shape
 obtain ⟨a8, c8, rfl⟩ := h8.shape
 obtain ⟨a9, c9, rfl⟩ := h9.shape
 exact ⟨a3, a4, a8, a9, c3, c4, c8, c9, rfl, h0, h1, h2, h3, h4, h5, h6, h7, h8, h9⟩
theorem EvdRp.mk {h : Fr} {x0 : Int} {x1 : Int} {x2 : Int} {x3 : List UInt8} {v3 : Value} {x4 : List UInt8} {v4 : Value} {x5 : Int} {x6 : Int} {x7 : Int} {x8 : List UInt8} {v8 : Value} {x9 : List UInt8} {v9 : Value} (h0 : InI64 x0) (h1 : InI64 x1) (h2 : InI64 x2) (h3 : Arr Rp.u8 h v3 x3) (h4 : Arr Rp.u8 h v4 x4) (h5 : InI64 x5) (h6 : InI64 x6) (h7 : InI64 x7) (h8 : Arr Rp.u8 h v8 x8) (h9 : Arr Rp.u8 h v9 x9) : EvdRp.rel h [.int .i64 x0, .int .i64 x1, .int .i64 x2, v3, v4, .int .i64 x5, .int .i64 x6, .int .i64 x7, v8, v9] ((x0, x1, x2, x3, x4, ()), (x5, x6, x7, x8, x9, ()), ()) :=
 ⟨[.int .i64 x0, .int .i64 x1, .int .i64 x2, v3, v4], [.int .i64 x5, .int .i64 x6, .int .i64 x7, v8, v9], rfl, (RootRp.mk h0 h1 h2 h3 h4), ⟨[.int .i64 x5, .int .i64 x6, .int .i64 x7, v8, v9], [], rfl, (RootRp.mk h5 h6 h7 h8 h9), rfl⟩⟩
abbrev EvdG (τ : Tys) : Gp EvdT := Gp.prod (RootG τ) (Gp.prod (RootG τ) (Gp.unit))
theorem EvdG.mk2 {τ : Tys} {m : Fr}   (s : Sat [] m) : (Gp.unit).own [] () m := by
 exact rfl
theorem EvdG.mk1 {τ : Tys} {m : Fr} {x5 : Int} {x6 : Int} {x7 : Int} {x8 : List UInt8} {v8 : Value} {x9 : List UInt8} {v9 : Value} (h5 : InI64 x5) (h6 : InI64 x6) (h7 : InI64 x7) (s : Sat [OwnP Rp.u8 τ.u8 v8 x8, OwnP Rp.u8 τ.u8 v9 x9] m) : (Gp.prod (RootG τ) (Gp.unit)).own [.int .i64 x5, .int .i64 x6, .int .i64 x7, v8, v9] ((x5, x6, x7, x8, x9, ()), ()) m := by
 obtain ⟨k1, k2, dj, s1, s2, o, st⟩ := Sat.split (η := [OwnP Rp.u8 τ.u8 v8 x8, OwnP Rp.u8 τ.u8 v9 x9]) s
 exact ⟨[.int .i64 x5, .int .i64 x6, .int .i64 x7, v8, v9], [], rfl, k1, k2, dj, s1, s2, RootG.mk (τ := τ) h5 h6 h7 o, k2, Fr.emp, Fr.disj_symm (Fr.emp_disj _), Fr.sub_refl _, Fr.emp_sub _, EvdG.mk2 (τ := τ)  st, trivial⟩
theorem EvdG.mk {τ : Tys} {m : Fr} {x0 : Int} {x1 : Int} {x2 : Int} {x3 : List UInt8} {v3 : Value} {x4 : List UInt8} {v4 : Value} {x5 : Int} {x6 : Int} {x7 : Int} {x8 : List UInt8} {v8 : Value} {x9 : List UInt8} {v9 : Value} (h0 : InI64 x0) (h1 : InI64 x1) (h2 : InI64 x2) (h5 : InI64 x5) (h6 : InI64 x6) (h7 : InI64 x7) (s : Sat [OwnP Rp.u8 τ.u8 v3 x3, OwnP Rp.u8 τ.u8 v4 x4, OwnP Rp.u8 τ.u8 v8 x8, OwnP Rp.u8 τ.u8 v9 x9] m) : (Gp.prod (RootG τ) (Gp.prod (RootG τ) (Gp.unit))).own [.int .i64 x0, .int .i64 x1, .int .i64 x2, v3, v4, .int .i64 x5, .int .i64 x6, .int .i64 x7, v8, v9] ((x0, x1, x2, x3, x4, ()), (x5, x6, x7, x8, x9, ()), ()) m := by
 obtain ⟨k1, k2, dj, s1, s2, o, st⟩ := Sat.split (η := [OwnP Rp.u8 τ.u8 v3 x3, OwnP Rp.u8 τ.u8 v4 x4]) s
 exact ⟨[.int .i64 x0, .int .i64 x1, .int .i64 x2, v3, v4], [.int .i64 x5, .int .i64 x6, .int .i64 x7, v8, v9], rfl, k1, k2, dj, s1, s2, RootG.mk (τ := τ) h0 h1 h2 o, k2, Fr.emp, Fr.disj_symm (Fr.emp_disj _), Fr.sub_refl _, Fr.emp_sub _, EvdG.mk1 (τ := τ) h5 h6 h7 st, trivial⟩
def EvdOk (N : Nat) (x : EvdT) : Prop := x.1.2.2.2.1.length ≤ N ∧ x.1.2.2.2.2.1.length ≤ N ∧ x.2.1.2.2.2.1.length ≤ N ∧ x.2.1.2.2.2.2.1.length ≤ N
abbrev HeldT : Type := (List LeafT) × (List RootT) × (List EvdT) × (List Int) × Unit
abbrev HeldRp : Rp HeldT := Rp.prod (Rp.slice LeafRp) (Rp.prod (Rp.slice RootRp) (Rp.prod (Rp.slice EvdRp) (Rp.prod (Rp.slice Rp.i64) (Rp.unit))))
theorem HeldRp.open {h : Fr} {cs : List Value} {x : HeldT} (r : HeldRp.rel h cs x) : ∃ v0 v1 v2 v3, cs = [v0, v1, v2, v3] ∧ Arr LeafRp h v0 x.1 ∧ Arr RootRp h v1 x.2.1 ∧ Arr EvdRp h v2 x.2.2.1 ∧ Arr Rp.i64 h v3 x.2.2.2.1 := by
 obtain ⟨c0, d0, rfl, r0, r⟩ := r
 obtain ⟨c1, d1, rfl, r1, r⟩ := r
 obtain ⟨c2, d2, rfl, r2, r⟩ := r
 obtain ⟨c3, d3, rfl, r3, r⟩ := r
 obtain rfl : d3 = [] := r
 obtain ⟨v0, rfl, h0⟩ := r0
 obtain ⟨v1, rfl, h1⟩ := r1
 obtain ⟨v2, rfl, h2⟩ := r2
 obtain ⟨v3, rfl, h3⟩ := r3
 exact ⟨v0, v1, v2, v3, rfl, h0, h1, h2, h3⟩
theorem HeldRp.sh {h : Fr} {cs : List Value} {x : HeldT} (r : HeldRp.rel h cs x) : ∃ a0 a1 a2 a3 c0 c1 c2 c3, cs = [.slice a0 x.1.length c0, .slice a1 x.2.1.length c1, .slice a2 x.2.2.1.length c2, .slice a3 x.2.2.2.1.length c3] ∧ Arr LeafRp h (.slice a0 x.1.length c0) x.1 ∧ Arr RootRp h (.slice a1 x.2.1.length c1) x.2.1 ∧ Arr EvdRp h (.slice a2 x.2.2.1.length c2) x.2.2.1 ∧ Arr Rp.i64 h (.slice a3 x.2.2.2.1.length c3) x.2.2.2.1 := by
 obtain ⟨v0, v1, v2, v3, rfl, h0, h1, h2, h3⟩ := HeldRp.open r
 obtain ⟨a0, c0, rfl⟩ := h0.shape
 obtain ⟨a1, c1, rfl⟩ := h1.shape
 obtain ⟨a2, c2, rfl⟩ := h2.shape
 obtain ⟨a3, c3, rfl⟩ := h3.shape
 exact ⟨a0, a1, a2, a3, c0, c1, c2, c3, rfl, h0, h1, h2, h3⟩
theorem HeldRp.mk {h : Fr} {x0 : List LeafT} {v0 : Value} {x1 : List RootT} {v1 : Value} {x2 : List EvdT} {v2 : Value} {x3 : List Int} {v3 : Value} (h0 : Arr LeafRp h v0 x0) (h1 : Arr RootRp h v1 x1) (h2 : Arr EvdRp h v2 x2) (h3 : Arr Rp.i64 h v3 x3) : HeldRp.rel h [v0, v1, v2, v3] (x0, x1, x2, x3, ()) :=
 ⟨[v0], [v1, v2, v3], rfl, ⟨v0, rfl, h0⟩, ⟨[v1], [v2, v3], rfl, ⟨v1, rfl, h1⟩, ⟨[v2], [v3], rfl, ⟨v2, rfl, h2⟩, ⟨[v3], [], rfl, ⟨v3, rfl, h3⟩, rfl⟩⟩⟩⟩
def HeldOk (N : Nat) (x : HeldT) : Prop := (x.1.length ≤ N ∧ ∀ y ∈ x.1, LeafOk N y) ∧ (x.2.1.length ≤ N ∧ ∀ y ∈ x.2.1, RootOk N y) ∧ (x.2.2.1.length ≤ N ∧ ∀ y ∈ x.2.2.1, EvdOk N y) ∧ x.2.2.2.1.length ≤ N
end Go.Sp
