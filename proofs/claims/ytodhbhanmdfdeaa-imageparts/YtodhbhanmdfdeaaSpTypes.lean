import Derived.Test.YtodhbhanmdfdeaaSpLent
import Derived.Test.YtodhbhanmdfdeaaSpFlat
/- The structs of package api: how they read, how they are one's own, how they are lent; their marks. (Printed by tools/mk_types.py.) -/
set_option linter.unusedVariables false
namespace Go.Sp
/-- numbers of types -/
structure Tys where
  u8 : TypeId
  int : TypeId
  bytes : TypeId
  dot : TypeId
  recd : TypeId
  leaf : TypeId
  stub : TypeId
  node : TypeId
  prf : TypeId
  root : TypeId
  evd : TypeId
  frm : TypeId
  held : TypeId
/-- a byte of a number -/
def byteOf (z : Int) : UInt8 := UInt8.ofNat (z % 256).toNat
theorem wrapB (z : Int) : Value.int .u8 (IntKind.u8.wrap z) = byteV (byteOf z) := by
  rw [byteV, wrap_u8_eq]
  have : ((byteOf z).toNat : Int) = z % 256 := by simp [byteOf]; omega
  rw [this]
/-- marks -/
def markZ (k i : Int) : Int := 1000003 * (k + 7) + i
def markB (k i : Int) : UInt8 := byteOf ((IntKind.u64.wrap (IntKind.u64.wrap (markZ k i) * 11400714819323198485)).fdiv (2 ^ min (56 : Int).toNat IntKind.u64.bits))
def markT (k i : Int) : List UInt8 := [35, byteOf k, byteOf (k.fdiv (2 ^ min (8 : Int).toNat IntKind.i64.bits)), byteOf (k.fdiv (2 ^ min (16 : Int).toNat IntKind.i64.bits)), 47, byteOf i, byteOf (i.fdiv (2 ^ min (8 : Int).toNat IntKind.i64.bits)), byteOf (i.fdiv (2 ^ min (16 : Int).toNat IntKind.i64.bits))]
@[simp] theorem markT_length (k i : Int) : (markT k i).length = 8 := rfl
abbrev marks1 (n : Nat) : List UInt8 := mks (markB 1) n
theorem marks1_length (n : Nat) : (marks1 n).length = n := by simp
theorem marks1_succ (n : Nat) : marks1 n ++ [markB 1 (n : Int)] = marks1 (n + 1) := mks_succ _ n
/-- bytes that are lent: marks behind them, in their room -/
abbrev LentP (e : TypeId) (v : Value) (xs : List UInt8) : SProp := LentQ Rp.u8 e (markB 1) v xs
abbrev LentA (h : Fr) (v : Value) (xs : List UInt8) : Prop := LentQA Rp.u8 (markB 1) h v xs
/-- a number that a mark takes -/
def Mk (k : Int) : Prop := 0 ≤ k ∧ k ≤ 1000000000000
theorem markZ64 {k i : Int} (hk : Mk k) (hi : Mk i) : InI64 (markZ k i) := by
  obtain ⟨h1, h2⟩ := hk
  obtain ⟨h3, h4⟩ := hi
  unfold markZ
  constructor <;> omega
/-! buttress/api.Dot -/
abbrev DotT : Type := Int × Int × Unit
abbrev DotRp : Rp DotT := Rp.prod Rp.i64 (Rp.prod Rp.i64 (Rp.unit))
def markDot (k i : Int) : DotT := (0, markZ k i, ())
theorem DotRp.open {h : Fr} {cs : List Value} {x : DotT} (r : DotRp.rel h cs x) : cs = [.int .i64 x.1, .int .i64 x.2.1] ∧ InI64 x.1 ∧ InI64 x.2.1 := by
  obtain ⟨c0, d0, rfl, r0, r⟩ := r
  obtain ⟨c1, d1, rfl, r1, r⟩ := r
  obtain rfl : d1 = [] := r
  obtain ⟨rfl, h0⟩ := r0
  obtain ⟨rfl, h1⟩ := r1
  exact ⟨rfl, h0, h1⟩
theorem DotRp.mk {h : Fr} {x0 : Int} {x1 : Int} (h0 : InI64 x0) (h1 : InI64 x1) : DotRp.rel h [.int .i64 x0, .int .i64 x1] (x0, x1, ()) :=
  ⟨[.int .i64 x0], [.int .i64 x1], rfl, ⟨rfl, h0⟩, ⟨[.int .i64 x1], [], rfl, ⟨rfl, h1⟩, rfl⟩⟩
theorem pure_Dot : DotRp.Pure := fun _ _ _ h => h
theorem DotRp.k_eq : DotRp.k = 2 := rfl
def DotOk (N : Nat) (x : DotT) : Prop := True
theorem DotOk.mono {N M : Nat} {x : DotT} (hM : N ≤ M) (h : DotOk N x) : DotOk M x := trivial
/-! buttress/api.Record -/
abbrev RecT : Type := (List UInt8) × Int × Int × (List DotT) × Bool × (List UInt8) × (List UInt8) × Unit
abbrev RecRp : Rp RecT := Rp.prod Rp.str (Rp.prod Rp.i64 (Rp.prod Rp.i64 (Rp.prod (Rp.slice DotRp) (Rp.prod Rp.bool (Rp.prod (Rp.slice Rp.u8) (Rp.prod (Rp.slice Rp.u8) (Rp.unit)))))))
def markRec (k i : Int) : RecT := ([], 0, markZ k i, [], false, [], [], ())
theorem RecRp.open {h : Fr} {cs : List Value} {x : RecT} (r : RecRp.rel h cs x) : ∃ v3 v5 v6, cs = [.string (str x.1), .int .i64 x.2.1, .int .i64 x.2.2.1, v3, .bool x.2.2.2.2.1, v5, v6] ∧ x.1.length ≤ 9223372036854775807 ∧ InI64 x.2.1 ∧ InI64 x.2.2.1 ∧ Arr DotRp h v3 x.2.2.2.1 ∧ Arr Rp.u8 h v5 x.2.2.2.2.2.1 ∧ Arr Rp.u8 h v6 x.2.2.2.2.2.2.1 := by
  obtain ⟨c0, d0, rfl, r0, r⟩ := r
  obtain ⟨c1, d1, rfl, r1, r⟩ := r
  obtain ⟨c2, d2, rfl, r2, r⟩ := r
  obtain ⟨c3, d3, rfl, r3, r⟩ := r
  obtain ⟨c4, d4, rfl, r4, r⟩ := r
  obtain ⟨c5, d5, rfl, r5, r⟩ := r
  obtain ⟨c6, d6, rfl, r6, r⟩ := r
  obtain rfl : d6 = [] := r
  obtain ⟨rfl, h0⟩ := r0
  obtain ⟨rfl, h1⟩ := r1
  obtain ⟨rfl, h2⟩ := r2
  obtain ⟨v3, rfl, h3⟩ := r3
  obtain rfl : c4 = [.bool x.2.2.2.2.1] := r4
  obtain ⟨v5, rfl, h5⟩ := r5
  obtain ⟨v6, rfl, h6⟩ := r6
  exact ⟨v3, v5, v6, rfl, h0, h1, h2, h3, h5, h6⟩
theorem RecRp.sh {h : Fr} {cs : List Value} {x : RecT} (r : RecRp.rel h cs x) : ∃ a3 a5 a6 c3 c5 c6, cs = [.string (str x.1), .int .i64 x.2.1, .int .i64 x.2.2.1, .slice a3 x.2.2.2.1.length c3, .bool x.2.2.2.2.1, .slice a5 x.2.2.2.2.2.1.length c5, .slice a6 x.2.2.2.2.2.2.1.length c6] ∧ x.1.length ≤ 9223372036854775807 ∧ InI64 x.2.1 ∧ InI64 x.2.2.1 ∧ Arr DotRp h (.slice a3 x.2.2.2.1.length c3) x.2.2.2.1 ∧ Arr Rp.u8 h (.slice a5 x.2.2.2.2.2.1.length c5) x.2.2.2.2.2.1 ∧ Arr Rp.u8 h (.slice a6 x.2.2.2.2.2.2.1.length c6) x.2.2.2.2.2.2.1 := by
  obtain ⟨v3, v5, v6, rfl, h0, h1, h2, h3, h5, h6⟩ := RecRp.open r
  obtain ⟨a3, c3, rfl⟩ := h3.shape
  obtain ⟨a5, c5, rfl⟩ := h5.shape
  obtain ⟨a6, c6, rfl⟩ := h6.shape
  exact ⟨a3, a5, a6, c3, c5, c6, rfl, h0, h1, h2, h3, h5, h6⟩
theorem RecRp.mk {h : Fr} {x0 : List UInt8} {x1 : Int} {x2 : Int} {x3 : List DotT} {v3 : Value} {x4 : Bool} {x5 : List UInt8} {v5 : Value} {x6 : List UInt8} {v6 : Value} (h0 : x0.length ≤ 9223372036854775807) (h1 : InI64 x1) (h2 : InI64 x2) (h3 : Arr DotRp h v3 x3) (h5 : Arr Rp.u8 h v5 x5) (h6 : Arr Rp.u8 h v6 x6) : RecRp.rel h [.string (str x0), .int .i64 x1, .int .i64 x2, v3, .bool x4, v5, v6] (x0, x1, x2, x3, x4, x5, x6, ()) :=
  ⟨[.string (str x0)], [.int .i64 x1, .int .i64 x2, v3, .bool x4, v5, v6], rfl, ⟨rfl, h0⟩, ⟨[.int .i64 x1], [.int .i64 x2, v3, .bool x4, v5, v6], rfl, ⟨rfl, h1⟩, ⟨[.int .i64 x2], [v3, .bool x4, v5, v6], rfl, ⟨rfl, h2⟩, ⟨[v3], [.bool x4, v5, v6], rfl, ⟨v3, rfl, h3⟩, ⟨[.bool x4], [v5, v6], rfl, rfl, ⟨[v5], [v6], rfl, ⟨v5, rfl, h5⟩, ⟨[v6], [], rfl, ⟨v6, rfl, h6⟩, rfl⟩⟩⟩⟩⟩⟩⟩
theorem RecRp.k_eq : RecRp.k = 7 := rfl
abbrev RecG (τ : Tys) : Gp RecT := Gp.prod (Gp.pure Rp.str) (Gp.prod (Gp.pure Rp.i64) (Gp.prod (Gp.pure Rp.i64) (Gp.prod (Gp.row DotRp τ.dot) (Gp.prod (Gp.pure Rp.bool) (Gp.prod (Gp.row Rp.u8 τ.u8) (Gp.prod (Gp.row Rp.u8 τ.u8) (Gp.unit)))))))
abbrev RecL (τ : Tys) : Lp RecT := Lp.prod (Lp.pure Rp.str) (Lp.prod (Lp.pure Rp.i64) (Lp.prod (Lp.pure Rp.i64) (Lp.prod (Lp.flat DotRp τ.dot (markDot 1)) (Lp.prod (Lp.pure Rp.bool) (Lp.prod (Lp.flat Rp.u8 τ.u8 (markB 1)) (Lp.prod (Lp.flat Rp.u8 τ.u8 (markB 1)) (Lp.unit)))))))
theorem RecG.open7 {τ : Tys} {cs : List Value} {x : Unit} {m : Fr} (r : (Gp.unit).own cs x m) : cs = [] ∧ Sat [] m := by
  exact ⟨r, trivial⟩
theorem RecG.open6 {τ : Tys} {cs : List Value} {x : (List UInt8) × Unit} {m : Fr} (r : (Gp.prod (Gp.row Rp.u8 τ.u8) (Gp.unit)).own cs x m) : ∃ v6, cs = [v6] ∧ Sat [OwnP Rp.u8 τ.u8 v6 x.1] m := by
  obtain ⟨c, d, rfl, k1, k2, dj, s1, s2, o, k3, k4, _, t1, _, r, _⟩ := r
  obtain ⟨rfl, st⟩ := RecG.open7 (τ := τ) r
  obtain ⟨v, rfl, o⟩ := o
  exact ⟨v, rfl, ⟨k1, k3, Fr.disj_sub dj (Fr.sub_refl _) t1, s1, Fr.sub_trans t1 s2, o, st⟩⟩
theorem RecG.open5 {τ : Tys} {cs : List Value} {x : (List UInt8) × (List UInt8) × Unit} {m : Fr} (r : (Gp.prod (Gp.row Rp.u8 τ.u8) (Gp.prod (Gp.row Rp.u8 τ.u8) (Gp.unit))).own cs x m) : ∃ v5 v6, cs = [v5, v6] ∧ Sat [OwnP Rp.u8 τ.u8 v5 x.1, OwnP Rp.u8 τ.u8 v6 x.2.1] m := by
  obtain ⟨c, d, rfl, k1, k2, dj, s1, s2, o, k3, k4, _, t1, _, r, _⟩ := r
  obtain ⟨v6, rfl, st⟩ := RecG.open6 (τ := τ) r
  obtain ⟨v, rfl, o⟩ := o
  exact ⟨v, v6, rfl, ⟨k1, k3, Fr.disj_sub dj (Fr.sub_refl _) t1, s1, Fr.sub_trans t1 s2, o, st⟩⟩
theorem RecG.open4 {τ : Tys} {cs : List Value} {x : Bool × (List UInt8) × (List UInt8) × Unit} {m : Fr} (r : (Gp.prod (Gp.pure Rp.bool) (Gp.prod (Gp.row Rp.u8 τ.u8) (Gp.prod (Gp.row Rp.u8 τ.u8) (Gp.unit)))).own cs x m) : ∃ v5 v6, cs = [.bool x.1, v5, v6] ∧ Sat [OwnP Rp.u8 τ.u8 v5 x.2.1, OwnP Rp.u8 τ.u8 v6 x.2.2.1] m := by
  obtain ⟨c, d, rfl, k1, k2, dj, s1, s2, o, k3, k4, _, t1, _, r, _⟩ := r
  obtain ⟨v5, v6, rfl, st⟩ := RecG.open5 (τ := τ) r
  obtain rfl : c = [.bool x.1] := o
  exact ⟨v5, v6, rfl, Sat.mono (Fr.sub_trans t1 s2) st⟩
theorem RecG.open3 {τ : Tys} {cs : List Value} {x : (List DotT) × Bool × (List UInt8) × (List UInt8) × Unit} {m : Fr} (r : (Gp.prod (Gp.row DotRp τ.dot) (Gp.prod (Gp.pure Rp.bool) (Gp.prod (Gp.row Rp.u8 τ.u8) (Gp.prod (Gp.row Rp.u8 τ.u8) (Gp.unit))))).own cs x m) : ∃ v3 v5 v6, cs = [v3, .bool x.2.1, v5, v6] ∧ Sat [OwnP DotRp τ.dot v3 x.1, OwnP Rp.u8 τ.u8 v5 x.2.2.1, OwnP Rp.u8 τ.u8 v6 x.2.2.2.1] m := by
  obtain ⟨c, d, rfl, k1, k2, dj, s1, s2, o, k3, k4, _, t1, _, r, _⟩ := r
  obtain ⟨v5, v6, rfl, st⟩ := RecG.open4 (τ := τ) r
  obtain ⟨v, rfl, o⟩ := o
  exact ⟨v, v5, v6, rfl, ⟨k1, k3, Fr.disj_sub dj (Fr.sub_refl _) t1, s1, Fr.sub_trans t1 s2, o, st⟩⟩
theorem RecG.open2 {τ : Tys} {cs : List Value} {x : Int × (List DotT) × Bool × (List UInt8) × (List UInt8) × Unit} {m : Fr} (r : (Gp.prod (Gp.pure Rp.i64) (Gp.prod (Gp.row DotRp τ.dot) (Gp.prod (Gp.pure Rp.bool) (Gp.prod (Gp.row Rp.u8 τ.u8) (Gp.prod (Gp.row Rp.u8 τ.u8) (Gp.unit)))))).own cs x m) : ∃ v3 v5 v6, cs = [.int .i64 x.1, v3, .bool x.2.2.1, v5, v6] ∧ InI64 x.1 ∧ Sat [OwnP DotRp τ.dot v3 x.2.1, OwnP Rp.u8 τ.u8 v5 x.2.2.2.1, OwnP Rp.u8 τ.u8 v6 x.2.2.2.2.1] m := by
  obtain ⟨c, d, rfl, k1, k2, dj, s1, s2, o, k3, k4, _, t1, _, r, _⟩ := r
  obtain ⟨v3, v5, v6, rfl, st⟩ := RecG.open3 (τ := τ) r
  obtain ⟨rfl, hh⟩ := o
  exact ⟨v3, v5, v6, rfl, hh, Sat.mono (Fr.sub_trans t1 s2) st⟩
theorem RecG.open1 {τ : Tys} {cs : List Value} {x : Int × Int × (List DotT) × Bool × (List UInt8) × (List UInt8) × Unit} {m : Fr} (r : (Gp.prod (Gp.pure Rp.i64) (Gp.prod (Gp.pure Rp.i64) (Gp.prod (Gp.row DotRp τ.dot) (Gp.prod (Gp.pure Rp.bool) (Gp.prod (Gp.row Rp.u8 τ.u8) (Gp.prod (Gp.row Rp.u8 τ.u8) (Gp.unit))))))).own cs x m) : ∃ v3 v5 v6, cs = [.int .i64 x.1, .int .i64 x.2.1, v3, .bool x.2.2.2.1, v5, v6] ∧ InI64 x.1 ∧ InI64 x.2.1 ∧ Sat [OwnP DotRp τ.dot v3 x.2.2.1, OwnP Rp.u8 τ.u8 v5 x.2.2.2.2.1, OwnP Rp.u8 τ.u8 v6 x.2.2.2.2.2.1] m := by
  obtain ⟨c, d, rfl, k1, k2, dj, s1, s2, o, k3, k4, _, t1, _, r, _⟩ := r
  obtain ⟨v3, v5, v6, rfl, h2, st⟩ := RecG.open2 (τ := τ) r
  obtain ⟨rfl, hh⟩ := o
  exact ⟨v3, v5, v6, rfl, hh, h2, Sat.mono (Fr.sub_trans t1 s2) st⟩
theorem RecG.open {τ : Tys} {cs : List Value} {x : (List UInt8) × Int × Int × (List DotT) × Bool × (List UInt8) × (List UInt8) × Unit} {m : Fr} (r : (Gp.prod (Gp.pure Rp.str) (Gp.prod (Gp.pure Rp.i64) (Gp.prod (Gp.pure Rp.i64) (Gp.prod (Gp.row DotRp τ.dot) (Gp.prod (Gp.pure Rp.bool) (Gp.prod (Gp.row Rp.u8 τ.u8) (Gp.prod (Gp.row Rp.u8 τ.u8) (Gp.unit)))))))).own cs x m) : ∃ v3 v5 v6, cs = [.string (str x.1), .int .i64 x.2.1, .int .i64 x.2.2.1, v3, .bool x.2.2.2.2.1, v5, v6] ∧ x.1.length ≤ 9223372036854775807 ∧ InI64 x.2.1 ∧ InI64 x.2.2.1 ∧ Sat [OwnP DotRp τ.dot v3 x.2.2.2.1, OwnP Rp.u8 τ.u8 v5 x.2.2.2.2.2.1, OwnP Rp.u8 τ.u8 v6 x.2.2.2.2.2.2.1] m := by
  obtain ⟨c, d, rfl, k1, k2, dj, s1, s2, o, k3, k4, _, t1, _, r, _⟩ := r
  obtain ⟨v3, v5, v6, rfl, h1, h2, st⟩ := RecG.open1 (τ := τ) r
  obtain ⟨rfl, hh⟩ := o
  exact ⟨v3, v5, v6, rfl, hh, h1, h2, Sat.mono (Fr.sub_trans t1 s2) st⟩
theorem RecG.mk7 {τ : Tys} {m : Fr}   (s : Sat [] m) : (Gp.unit).own [] () m := by
  exact rfl
theorem RecG.mk6 {τ : Tys} {m : Fr} {x6 : List UInt8} {v6 : Value}  (s : Sat [OwnP Rp.u8 τ.u8 v6 x6] m) : (Gp.prod (Gp.row Rp.u8 τ.u8) (Gp.unit)).own [v6] (x6, ()) m := by
  obtain ⟨k1, k2, dj, s1, s2, o, st⟩ := s
  exact ⟨[v6], [], rfl, k1, k2, dj, s1, s2, ⟨v6, rfl, o⟩, k2, Fr.emp, Fr.disj_symm (Fr.emp_disj _), Fr.sub_refl _, Fr.emp_sub _, RecG.mk7 (τ := τ)  st, trivial⟩
theorem RecG.mk5 {τ : Tys} {m : Fr} {x5 : List UInt8} {v5 : Value} {x6 : List UInt8} {v6 : Value}  (s : Sat [OwnP Rp.u8 τ.u8 v5 x5, OwnP Rp.u8 τ.u8 v6 x6] m) : (Gp.prod (Gp.row Rp.u8 τ.u8) (Gp.prod (Gp.row Rp.u8 τ.u8) (Gp.unit))).own [v5, v6] (x5, x6, ()) m := by
  obtain ⟨k1, k2, dj, s1, s2, o, st⟩ := s
  exact ⟨[v5], [v6], rfl, k1, k2, dj, s1, s2, ⟨v5, rfl, o⟩, k2, Fr.emp, Fr.disj_symm (Fr.emp_disj _), Fr.sub_refl _, Fr.emp_sub _, RecG.mk6 (τ := τ)  st, trivial⟩
theorem RecG.mk4 {τ : Tys} {m : Fr} {x4 : Bool} {x5 : List UInt8} {v5 : Value} {x6 : List UInt8} {v6 : Value}  (s : Sat [OwnP Rp.u8 τ.u8 v5 x5, OwnP Rp.u8 τ.u8 v6 x6] m) : (Gp.prod (Gp.pure Rp.bool) (Gp.prod (Gp.row Rp.u8 τ.u8) (Gp.prod (Gp.row Rp.u8 τ.u8) (Gp.unit)))).own [.bool x4, v5, v6] (x4, x5, x6, ()) m := by
  exact Gp.own_pure_prod (T := Rp.bool) (c := [.bool x4]) rfl (RecG.mk5 (τ := τ)  s)
theorem RecG.mk3 {τ : Tys} {m : Fr} {x3 : List DotT} {v3 : Value} {x4 : Bool} {x5 : List UInt8} {v5 : Value} {x6 : List UInt8} {v6 : Value}  (s : Sat [OwnP DotRp τ.dot v3 x3, OwnP Rp.u8 τ.u8 v5 x5, OwnP Rp.u8 τ.u8 v6 x6] m) : (Gp.prod (Gp.row DotRp τ.dot) (Gp.prod (Gp.pure Rp.bool) (Gp.prod (Gp.row Rp.u8 τ.u8) (Gp.prod (Gp.row Rp.u8 τ.u8) (Gp.unit))))).own [v3, .bool x4, v5, v6] (x3, x4, x5, x6, ()) m := by
  obtain ⟨k1, k2, dj, s1, s2, o, st⟩ := s
  exact ⟨[v3], [.bool x4, v5, v6], rfl, k1, k2, dj, s1, s2, ⟨v3, rfl, o⟩, k2, Fr.emp, Fr.disj_symm (Fr.emp_disj _), Fr.sub_refl _, Fr.emp_sub _, RecG.mk4 (τ := τ)  st, trivial⟩
theorem RecG.mk2 {τ : Tys} {m : Fr} {x2 : Int} {x3 : List DotT} {v3 : Value} {x4 : Bool} {x5 : List UInt8} {v5 : Value} {x6 : List UInt8} {v6 : Value} (h2 : InI64 x2) (s : Sat [OwnP DotRp τ.dot v3 x3, OwnP Rp.u8 τ.u8 v5 x5, OwnP Rp.u8 τ.u8 v6 x6] m) : (Gp.prod (Gp.pure Rp.i64) (Gp.prod (Gp.row DotRp τ.dot) (Gp.prod (Gp.pure Rp.bool) (Gp.prod (Gp.row Rp.u8 τ.u8) (Gp.prod (Gp.row Rp.u8 τ.u8) (Gp.unit)))))).own [.int .i64 x2, v3, .bool x4, v5, v6] (x2, x3, x4, x5, x6, ()) m := by
  exact Gp.own_pure_prod (T := Rp.i64) (c := [.int .i64 x2]) ⟨rfl, h2⟩ (RecG.mk3 (τ := τ)  s)
theorem RecG.mk1 {τ : Tys} {m : Fr} {x1 : Int} {x2 : Int} {x3 : List DotT} {v3 : Value} {x4 : Bool} {x5 : List UInt8} {v5 : Value} {x6 : List UInt8} {v6 : Value} (h1 : InI64 x1) (h2 : InI64 x2) (s : Sat [OwnP DotRp τ.dot v3 x3, OwnP Rp.u8 τ.u8 v5 x5, OwnP Rp.u8 τ.u8 v6 x6] m) : (Gp.prod (Gp.pure Rp.i64) (Gp.prod (Gp.pure Rp.i64) (Gp.prod (Gp.row DotRp τ.dot) (Gp.prod (Gp.pure Rp.bool) (Gp.prod (Gp.row Rp.u8 τ.u8) (Gp.prod (Gp.row Rp.u8 τ.u8) (Gp.unit))))))).own [.int .i64 x1, .int .i64 x2, v3, .bool x4, v5, v6] (x1, x2, x3, x4, x5, x6, ()) m := by
  exact Gp.own_pure_prod (T := Rp.i64) (c := [.int .i64 x1]) ⟨rfl, h1⟩ (RecG.mk2 (τ := τ) h2 s)
theorem RecG.mk {τ : Tys} {m : Fr} {x0 : List UInt8} {x1 : Int} {x2 : Int} {x3 : List DotT} {v3 : Value} {x4 : Bool} {x5 : List UInt8} {v5 : Value} {x6 : List UInt8} {v6 : Value} (h0 : x0.length ≤ 9223372036854775807) (h1 : InI64 x1) (h2 : InI64 x2) (s : Sat [OwnP DotRp τ.dot v3 x3, OwnP Rp.u8 τ.u8 v5 x5, OwnP Rp.u8 τ.u8 v6 x6] m) : (Gp.prod (Gp.pure Rp.str) (Gp.prod (Gp.pure Rp.i64) (Gp.prod (Gp.pure Rp.i64) (Gp.prod (Gp.row DotRp τ.dot) (Gp.prod (Gp.pure Rp.bool) (Gp.prod (Gp.row Rp.u8 τ.u8) (Gp.prod (Gp.row Rp.u8 τ.u8) (Gp.unit)))))))).own [.string (str x0), .int .i64 x1, .int .i64 x2, v3, .bool x4, v5, v6] (x0, x1, x2, x3, x4, x5, x6, ()) m := by
  exact Gp.own_pure_prod (T := Rp.str) (c := [.string (str x0)]) ⟨rfl, h0⟩ (RecG.mk1 (τ := τ) h1 h2 s)
theorem RecL.open7 {τ : Tys} {cs : List Value} {x : Unit} {m : Fr} (r : (Lp.unit).own cs x m) : cs = [] ∧ Sat [] m := by
  exact ⟨r, trivial⟩
theorem RecL.open6 {τ : Tys} {cs : List Value} {x : (List UInt8) × Unit} {m : Fr} (r : (Lp.prod (Lp.flat Rp.u8 τ.u8 (markB 1)) (Lp.unit)).own cs x m) : ∃ v6, cs = [v6] ∧ Sat [LentQ Rp.u8 τ.u8 (markB 1) v6 x.1] m := by
  obtain ⟨c, d, rfl, k1, k2, dj, s1, s2, o, k3, k4, _, t1, _, r, _⟩ := r
  obtain ⟨rfl, st⟩ := RecL.open7 (τ := τ) r
  obtain ⟨v, rfl, o⟩ := o
  exact ⟨v, rfl, ⟨k1, k3, Fr.disj_sub dj (Fr.sub_refl _) t1, s1, Fr.sub_trans t1 s2, o, st⟩⟩
theorem RecL.open5 {τ : Tys} {cs : List Value} {x : (List UInt8) × (List UInt8) × Unit} {m : Fr} (r : (Lp.prod (Lp.flat Rp.u8 τ.u8 (markB 1)) (Lp.prod (Lp.flat Rp.u8 τ.u8 (markB 1)) (Lp.unit))).own cs x m) : ∃ v5 v6, cs = [v5, v6] ∧ Sat [LentQ Rp.u8 τ.u8 (markB 1) v5 x.1, LentQ Rp.u8 τ.u8 (markB 1) v6 x.2.1] m := by
  obtain ⟨c, d, rfl, k1, k2, dj, s1, s2, o, k3, k4, _, t1, _, r, _⟩ := r
  obtain ⟨v6, rfl, st⟩ := RecL.open6 (τ := τ) r
  obtain ⟨v, rfl, o⟩ := o
  exact ⟨v, v6, rfl, ⟨k1, k3, Fr.disj_sub dj (Fr.sub_refl _) t1, s1, Fr.sub_trans t1 s2, o, st⟩⟩
theorem RecL.open4 {τ : Tys} {cs : List Value} {x : Bool × (List UInt8) × (List UInt8) × Unit} {m : Fr} (r : (Lp.prod (Lp.pure Rp.bool) (Lp.prod (Lp.flat Rp.u8 τ.u8 (markB 1)) (Lp.prod (Lp.flat Rp.u8 τ.u8 (markB 1)) (Lp.unit)))).own cs x m) : ∃ v5 v6, cs = [.bool x.1, v5, v6] ∧ Sat [LentQ Rp.u8 τ.u8 (markB 1) v5 x.2.1, LentQ Rp.u8 τ.u8 (markB 1) v6 x.2.2.1] m := by
  obtain ⟨c, d, rfl, k1, k2, dj, s1, s2, o, k3, k4, _, t1, _, r, _⟩ := r
  obtain ⟨v5, v6, rfl, st⟩ := RecL.open5 (τ := τ) r
  obtain rfl : c = [.bool x.1] := o
  exact ⟨v5, v6, rfl, Sat.mono (Fr.sub_trans t1 s2) st⟩
theorem RecL.open3 {τ : Tys} {cs : List Value} {x : (List DotT) × Bool × (List UInt8) × (List UInt8) × Unit} {m : Fr} (r : (Lp.prod (Lp.flat DotRp τ.dot (markDot 1)) (Lp.prod (Lp.pure Rp.bool) (Lp.prod (Lp.flat Rp.u8 τ.u8 (markB 1)) (Lp.prod (Lp.flat Rp.u8 τ.u8 (markB 1)) (Lp.unit))))).own cs x m) : ∃ v3 v5 v6, cs = [v3, .bool x.2.1, v5, v6] ∧ Sat [LentQ DotRp τ.dot (markDot 1) v3 x.1, LentQ Rp.u8 τ.u8 (markB 1) v5 x.2.2.1, LentQ Rp.u8 τ.u8 (markB 1) v6 x.2.2.2.1] m := by
  obtain ⟨c, d, rfl, k1, k2, dj, s1, s2, o, k3, k4, _, t1, _, r, _⟩ := r
  obtain ⟨v5, v6, rfl, st⟩ := RecL.open4 (τ := τ) r
  obtain ⟨v, rfl, o⟩ := o
  exact ⟨v, v5, v6, rfl, ⟨k1, k3, Fr.disj_sub dj (Fr.sub_refl _) t1, s1, Fr.sub_trans t1 s2, o, st⟩⟩
theorem RecL.open2 {τ : Tys} {cs : List Value} {x : Int × (List DotT) × Bool × (List UInt8) × (List UInt8) × Unit} {m : Fr} (r : (Lp.prod (Lp.pure Rp.i64) (Lp.prod (Lp.flat DotRp τ.dot (markDot 1)) (Lp.prod (Lp.pure Rp.bool) (Lp.prod (Lp.flat Rp.u8 τ.u8 (markB 1)) (Lp.prod (Lp.flat Rp.u8 τ.u8 (markB 1)) (Lp.unit)))))).own cs x m) : ∃ v3 v5 v6, cs = [.int .i64 x.1, v3, .bool x.2.2.1, v5, v6] ∧ InI64 x.1 ∧ Sat [LentQ DotRp τ.dot (markDot 1) v3 x.2.1, LentQ Rp.u8 τ.u8 (markB 1) v5 x.2.2.2.1, LentQ Rp.u8 τ.u8 (markB 1) v6 x.2.2.2.2.1] m := by
  obtain ⟨c, d, rfl, k1, k2, dj, s1, s2, o, k3, k4, _, t1, _, r, _⟩ := r
  obtain ⟨v3, v5, v6, rfl, st⟩ := RecL.open3 (τ := τ) r
  obtain ⟨rfl, hh⟩ := o
  exact ⟨v3, v5, v6, rfl, hh, Sat.mono (Fr.sub_trans t1 s2) st⟩
theorem RecL.open1 {τ : Tys} {cs : List Value} {x : Int × Int × (List DotT) × Bool × (List UInt8) × (List UInt8) × Unit} {m : Fr} (r : (Lp.prod (Lp.pure Rp.i64) (Lp.prod (Lp.pure Rp.i64) (Lp.prod (Lp.flat DotRp τ.dot (markDot 1)) (Lp.prod (Lp.pure Rp.bool) (Lp.prod (Lp.flat Rp.u8 τ.u8 (markB 1)) (Lp.prod (Lp.flat Rp.u8 τ.u8 (markB 1)) (Lp.unit))))))).own cs x m) : ∃ v3 v5 v6, cs = [.int .i64 x.1, .int .i64 x.2.1, v3, .bool x.2.2.2.1, v5, v6] ∧ InI64 x.1 ∧ InI64 x.2.1 ∧ Sat [LentQ DotRp τ.dot (markDot 1) v3 x.2.2.1, LentQ Rp.u8 τ.u8 (markB 1) v5 x.2.2.2.2.1, LentQ Rp.u8 τ.u8 (markB 1) v6 x.2.2.2.2.2.1] m := by
  obtain ⟨c, d, rfl, k1, k2, dj, s1, s2, o, k3, k4, _, t1, _, r, _⟩ := r
  obtain ⟨v3, v5, v6, rfl, h2, st⟩ := RecL.open2 (τ := τ) r
  obtain ⟨rfl, hh⟩ := o
  exact ⟨v3, v5, v6, rfl, hh, h2, Sat.mono (Fr.sub_trans t1 s2) st⟩
theorem RecL.open {τ : Tys} {cs : List Value} {x : (List UInt8) × Int × Int × (List DotT) × Bool × (List UInt8) × (List UInt8) × Unit} {m : Fr} (r : (Lp.prod (Lp.pure Rp.str) (Lp.prod (Lp.pure Rp.i64) (Lp.prod (Lp.pure Rp.i64) (Lp.prod (Lp.flat DotRp τ.dot (markDot 1)) (Lp.prod (Lp.pure Rp.bool) (Lp.prod (Lp.flat Rp.u8 τ.u8 (markB 1)) (Lp.prod (Lp.flat Rp.u8 τ.u8 (markB 1)) (Lp.unit)))))))).own cs x m) : ∃ v3 v5 v6, cs = [.string (str x.1), .int .i64 x.2.1, .int .i64 x.2.2.1, v3, .bool x.2.2.2.2.1, v5, v6] ∧ x.1.length ≤ 9223372036854775807 ∧ InI64 x.2.1 ∧ InI64 x.2.2.1 ∧ Sat [LentQ DotRp τ.dot (markDot 1) v3 x.2.2.2.1, LentQ Rp.u8 τ.u8 (markB 1) v5 x.2.2.2.2.2.1, LentQ Rp.u8 τ.u8 (markB 1) v6 x.2.2.2.2.2.2.1] m := by
  obtain ⟨c, d, rfl, k1, k2, dj, s1, s2, o, k3, k4, _, t1, _, r, _⟩ := r
  obtain ⟨v3, v5, v6, rfl, h1, h2, st⟩ := RecL.open1 (τ := τ) r
  obtain ⟨rfl, hh⟩ := o
  exact ⟨v3, v5, v6, rfl, hh, h1, h2, Sat.mono (Fr.sub_trans t1 s2) st⟩
theorem RecL.mk7 {τ : Tys} {m : Fr}   (s : Sat [] m) : (Lp.unit).own [] () m := by
  exact rfl
theorem RecL.mk6 {τ : Tys} {m : Fr} {x6 : List UInt8} {v6 : Value}  (s : Sat [LentQ Rp.u8 τ.u8 (markB 1) v6 x6] m) : (Lp.prod (Lp.flat Rp.u8 τ.u8 (markB 1)) (Lp.unit)).own [v6] (x6, ()) m := by
  obtain ⟨k1, k2, dj, s1, s2, o, st⟩ := s
  exact ⟨[v6], [], rfl, k1, k2, dj, s1, s2, ⟨v6, rfl, o⟩, k2, Fr.emp, Fr.disj_symm (Fr.emp_disj _), Fr.sub_refl _, Fr.emp_sub _, RecL.mk7 (τ := τ)  st, trivial⟩
theorem RecL.mk5 {τ : Tys} {m : Fr} {x5 : List UInt8} {v5 : Value} {x6 : List UInt8} {v6 : Value}  (s : Sat [LentQ Rp.u8 τ.u8 (markB 1) v5 x5, LentQ Rp.u8 τ.u8 (markB 1) v6 x6] m) : (Lp.prod (Lp.flat Rp.u8 τ.u8 (markB 1)) (Lp.prod (Lp.flat Rp.u8 τ.u8 (markB 1)) (Lp.unit))).own [v5, v6] (x5, x6, ()) m := by
  obtain ⟨k1, k2, dj, s1, s2, o, st⟩ := s
  exact ⟨[v5], [v6], rfl, k1, k2, dj, s1, s2, ⟨v5, rfl, o⟩, k2, Fr.emp, Fr.disj_symm (Fr.emp_disj _), Fr.sub_refl _, Fr.emp_sub _, RecL.mk6 (τ := τ)  st, trivial⟩
theorem RecL.mk4 {τ : Tys} {m : Fr} {x4 : Bool} {x5 : List UInt8} {v5 : Value} {x6 : List UInt8} {v6 : Value}  (s : Sat [LentQ Rp.u8 τ.u8 (markB 1) v5 x5, LentQ Rp.u8 τ.u8 (markB 1) v6 x6] m) : (Lp.prod (Lp.pure Rp.bool) (Lp.prod (Lp.flat Rp.u8 τ.u8 (markB 1)) (Lp.prod (Lp.flat Rp.u8 τ.u8 (markB 1)) (Lp.unit)))).own [.bool x4, v5, v6] (x4, x5, x6, ()) m := by
  exact Lp.own_pure_prod (T := Rp.bool) (c := [.bool x4]) rfl (RecL.mk5 (τ := τ)  s)
theorem RecL.mk3 {τ : Tys} {m : Fr} {x3 : List DotT} {v3 : Value} {x4 : Bool} {x5 : List UInt8} {v5 : Value} {x6 : List UInt8} {v6 : Value}  (s : Sat [LentQ DotRp τ.dot (markDot 1) v3 x3, LentQ Rp.u8 τ.u8 (markB 1) v5 x5, LentQ Rp.u8 τ.u8 (markB 1) v6 x6] m) : (Lp.prod (Lp.flat DotRp τ.dot (markDot 1)) (Lp.prod (Lp.pure Rp.bool) (Lp.prod (Lp.flat Rp.u8 τ.u8 (markB 1)) (Lp.prod (Lp.flat Rp.u8 τ.u8 (markB 1)) (Lp.unit))))).own [v3, .bool x4, v5, v6] (x3, x4, x5, x6, ()) m := by
  obtain ⟨k1, k2, dj, s1, s2, o, st⟩ := s
  exact ⟨[v3], [.bool x4, v5, v6], rfl, k1, k2, dj, s1, s2, ⟨v3, rfl, o⟩, k2, Fr.emp, Fr.disj_symm (Fr.emp_disj _), Fr.sub_refl _, Fr.emp_sub _, RecL.mk4 (τ := τ)  st, trivial⟩
theorem RecL.mk2 {τ : Tys} {m : Fr} {x2 : Int} {x3 : List DotT} {v3 : Value} {x4 : Bool} {x5 : List UInt8} {v5 : Value} {x6 : List UInt8} {v6 : Value} (h2 : InI64 x2) (s : Sat [LentQ DotRp τ.dot (markDot 1) v3 x3, LentQ Rp.u8 τ.u8 (markB 1) v5 x5, LentQ Rp.u8 τ.u8 (markB 1) v6 x6] m) : (Lp.prod (Lp.pure Rp.i64) (Lp.prod (Lp.flat DotRp τ.dot (markDot 1)) (Lp.prod (Lp.pure Rp.bool) (Lp.prod (Lp.flat Rp.u8 τ.u8 (markB 1)) (Lp.prod (Lp.flat Rp.u8 τ.u8 (markB 1)) (Lp.unit)))))).own [.int .i64 x2, v3, .bool x4, v5, v6] (x2, x3, x4, x5, x6, ()) m := by
  exact Lp.own_pure_prod (T := Rp.i64) (c := [.int .i64 x2]) ⟨rfl, h2⟩ (RecL.mk3 (τ := τ)  s)
theorem RecL.mk1 {τ : Tys} {m : Fr} {x1 : Int} {x2 : Int} {x3 : List DotT} {v3 : Value} {x4 : Bool} {x5 : List UInt8} {v5 : Value} {x6 : List UInt8} {v6 : Value} (h1 : InI64 x1) (h2 : InI64 x2) (s : Sat [LentQ DotRp τ.dot (markDot 1) v3 x3, LentQ Rp.u8 τ.u8 (markB 1) v5 x5, LentQ Rp.u8 τ.u8 (markB 1) v6 x6] m) : (Lp.prod (Lp.pure Rp.i64) (Lp.prod (Lp.pure Rp.i64) (Lp.prod (Lp.flat DotRp τ.dot (markDot 1)) (Lp.prod (Lp.pure Rp.bool) (Lp.prod (Lp.flat Rp.u8 τ.u8 (markB 1)) (Lp.prod (Lp.flat Rp.u8 τ.u8 (markB 1)) (Lp.unit))))))).own [.int .i64 x1, .int .i64 x2, v3, .bool x4, v5, v6] (x1, x2, x3, x4, x5, x6, ()) m := by
  exact Lp.own_pure_prod (T := Rp.i64) (c := [.int .i64 x1]) ⟨rfl, h1⟩ (RecL.mk2 (τ := τ) h2 s)
theorem RecL.mk {τ : Tys} {m : Fr} {x0 : List UInt8} {x1 : Int} {x2 : Int} {x3 : List DotT} {v3 : Value} {x4 : Bool} {x5 : List UInt8} {v5 : Value} {x6 : List UInt8} {v6 : Value} (h0 : x0.length ≤ 9223372036854775807) (h1 : InI64 x1) (h2 : InI64 x2) (s : Sat [LentQ DotRp τ.dot (markDot 1) v3 x3, LentQ Rp.u8 τ.u8 (markB 1) v5 x5, LentQ Rp.u8 τ.u8 (markB 1) v6 x6] m) : (Lp.prod (Lp.pure Rp.str) (Lp.prod (Lp.pure Rp.i64) (Lp.prod (Lp.pure Rp.i64) (Lp.prod (Lp.flat DotRp τ.dot (markDot 1)) (Lp.prod (Lp.pure Rp.bool) (Lp.prod (Lp.flat Rp.u8 τ.u8 (markB 1)) (Lp.prod (Lp.flat Rp.u8 τ.u8 (markB 1)) (Lp.unit)))))))).own [.string (str x0), .int .i64 x1, .int .i64 x2, v3, .bool x4, v5, v6] (x0, x1, x2, x3, x4, x5, x6, ()) m := by
  exact Lp.own_pure_prod (T := Rp.str) (c := [.string (str x0)]) ⟨rfl, h0⟩ (RecL.mk1 (τ := τ) h1 h2 s)
theorem RecL.opn {τ : Tys} {h : Fr} {cs : List Value} {x : RecT} (r : (RecL τ).rd h cs x) : ∃ v3 v5 v6, cs = [.string (str x.1), .int .i64 x.2.1, .int .i64 x.2.2.1, v3, .bool x.2.2.2.2.1, v5, v6] ∧ x.1.length ≤ 9223372036854775807 ∧ InI64 x.2.1 ∧ InI64 x.2.2.1 ∧ LentQA DotRp (markDot 1) h v3 x.2.2.2.1 ∧ LentQA Rp.u8 (markB 1) h v5 x.2.2.2.2.2.1 ∧ LentQA Rp.u8 (markB 1) h v6 x.2.2.2.2.2.2.1 := by
  obtain ⟨c0, d0, rfl, r0, r⟩ := r
  obtain ⟨c1, d1, rfl, r1, r⟩ := r
  obtain ⟨c2, d2, rfl, r2, r⟩ := r
  obtain ⟨c3, d3, rfl, r3, r⟩ := r
  obtain ⟨c4, d4, rfl, r4, r⟩ := r
  obtain ⟨c5, d5, rfl, r5, r⟩ := r
  obtain ⟨c6, d6, rfl, r6, r⟩ := r
  obtain rfl : d6 = [] := r
  obtain ⟨rfl, h0⟩ := r0
  obtain ⟨rfl, h1⟩ := r1
  obtain ⟨rfl, h2⟩ := r2
  obtain ⟨v3, rfl, h3⟩ := r3
  obtain rfl : c4 = [.bool x.2.2.2.2.1] := r4
  obtain ⟨v5, rfl, h5⟩ := r5
  obtain ⟨v6, rfl, h6⟩ := r6
  exact ⟨v3, v5, v6, rfl, h0, h1, h2, h3, h5, h6⟩
def RecOk (N : Nat) (x : RecT) : Prop := x.1.length ≤ N ∧ x.2.2.2.1.length ≤ N ∧ x.2.2.2.2.2.1.length ≤ N ∧ x.2.2.2.2.2.2.1.length ≤ N
theorem RecOk.mono {N M : Nat} {x : RecT} (hM : N ≤ M) (h : RecOk N x) : RecOk M x := by
  obtain ⟨h0, h1, h2, h3⟩ := h
  exact ⟨Nat.le_trans h0 hM, Nat.le_trans h1 hM, Nat.le_trans h2 hM, Nat.le_trans h3 hM⟩
/-! buttress/api.Leaf -/
abbrev LeafT : Type := (List UInt8) × (List RecT) × Unit
abbrev LeafRp : Rp LeafT := Rp.prod Rp.str (Rp.prod (Rp.slice RecRp) (Rp.unit))
def markLeaf (k i : Int) : LeafT := (markT k i, [], ())
theorem LeafRp.open {h : Fr} {cs : List Value} {x : LeafT} (r : LeafRp.rel h cs x) : ∃ v1, cs = [.string (str x.1), v1] ∧ x.1.length ≤ 9223372036854775807 ∧ Arr RecRp h v1 x.2.1 := by
  obtain ⟨c0, d0, rfl, r0, r⟩ := r
  obtain ⟨c1, d1, rfl, r1, r⟩ := r
  obtain rfl : d1 = [] := r
  obtain ⟨rfl, h0⟩ := r0
  obtain ⟨v1, rfl, h1⟩ := r1
  exact ⟨v1, rfl, h0, h1⟩
theorem LeafRp.sh {h : Fr} {cs : List Value} {x : LeafT} (r : LeafRp.rel h cs x) : ∃ a1 c1, cs = [.string (str x.1), .slice a1 x.2.1.length c1] ∧ x.1.length ≤ 9223372036854775807 ∧ Arr RecRp h (.slice a1 x.2.1.length c1) x.2.1 := by
  obtain ⟨v1, rfl, h0, h1⟩ := LeafRp.open r
  obtain ⟨a1, c1, rfl⟩ := h1.shape
  exact ⟨a1, c1, rfl, h0, h1⟩
theorem LeafRp.mk {h : Fr} {x0 : List UInt8} {x1 : List RecT} {v1 : Value} (h0 : x0.length ≤ 9223372036854775807) (h1 : Arr RecRp h v1 x1) : LeafRp.rel h [.string (str x0), v1] (x0, x1, ()) :=
  ⟨[.string (str x0)], [v1], rfl, ⟨rfl, h0⟩, ⟨[v1], [], rfl, ⟨v1, rfl, h1⟩, rfl⟩⟩
theorem LeafRp.k_eq : LeafRp.k = 2 := rfl
abbrev LeafG (τ : Tys) : Gp LeafT := Gp.prod (Gp.pure Rp.str) (Gp.prod (Gp.list (RecG τ) τ.recd) (Gp.unit))
abbrev LeafL (τ : Tys) : Lp LeafT := Lp.prod (Lp.pure Rp.str) (Lp.prod (Lp.list (RecL τ) τ.recd (markRec 1)) (Lp.unit))
theorem LeafG.open2 {τ : Tys} {cs : List Value} {x : Unit} {m : Fr} (r : (Gp.unit).own cs x m) : cs = [] ∧ Sat [] m := by
  exact ⟨r, trivial⟩
theorem LeafG.open1 {τ : Tys} {cs : List Value} {x : (List RecT) × Unit} {m : Fr} (r : (Gp.prod (Gp.list (RecG τ) τ.recd) (Gp.unit)).own cs x m) : ∃ v1, cs = [v1] ∧ Sat [ListP (RecG τ) τ.recd v1 x.1] m := by
  obtain ⟨c, d, rfl, k1, k2, dj, s1, s2, o, k3, k4, _, t1, _, r, _⟩ := r
  obtain ⟨rfl, st⟩ := LeafG.open2 (τ := τ) r
  obtain ⟨v, rfl, o⟩ := o
  exact ⟨v, rfl, ⟨k1, k3, Fr.disj_sub dj (Fr.sub_refl _) t1, s1, Fr.sub_trans t1 s2, o, st⟩⟩
theorem LeafG.open {τ : Tys} {cs : List Value} {x : (List UInt8) × (List RecT) × Unit} {m : Fr} (r : (Gp.prod (Gp.pure Rp.str) (Gp.prod (Gp.list (RecG τ) τ.recd) (Gp.unit))).own cs x m) : ∃ v1, cs = [.string (str x.1), v1] ∧ x.1.length ≤ 9223372036854775807 ∧ Sat [ListP (RecG τ) τ.recd v1 x.2.1] m := by
  obtain ⟨c, d, rfl, k1, k2, dj, s1, s2, o, k3, k4, _, t1, _, r, _⟩ := r
  obtain ⟨v1, rfl, st⟩ := LeafG.open1 (τ := τ) r
  obtain ⟨rfl, hh⟩ := o
  exact ⟨v1, rfl, hh, Sat.mono (Fr.sub_trans t1 s2) st⟩
theorem LeafG.mk2 {τ : Tys} {m : Fr}   (s : Sat [] m) : (Gp.unit).own [] () m := by
  exact rfl
theorem LeafG.mk1 {τ : Tys} {m : Fr} {x1 : List RecT} {v1 : Value}  (s : Sat [ListP (RecG τ) τ.recd v1 x1] m) : (Gp.prod (Gp.list (RecG τ) τ.recd) (Gp.unit)).own [v1] (x1, ()) m := by
  obtain ⟨k1, k2, dj, s1, s2, o, st⟩ := s
  exact ⟨[v1], [], rfl, k1, k2, dj, s1, s2, ⟨v1, rfl, o⟩, k2, Fr.emp, Fr.disj_symm (Fr.emp_disj _), Fr.sub_refl _, Fr.emp_sub _, LeafG.mk2 (τ := τ)  st, trivial⟩
theorem LeafG.mk {τ : Tys} {m : Fr} {x0 : List UInt8} {x1 : List RecT} {v1 : Value} (h0 : x0.length ≤ 9223372036854775807) (s : Sat [ListP (RecG τ) τ.recd v1 x1] m) : (Gp.prod (Gp.pure Rp.str) (Gp.prod (Gp.list (RecG τ) τ.recd) (Gp.unit))).own [.string (str x0), v1] (x0, x1, ()) m := by
  exact Gp.own_pure_prod (T := Rp.str) (c := [.string (str x0)]) ⟨rfl, h0⟩ (LeafG.mk1 (τ := τ)  s)
theorem LeafL.open2 {τ : Tys} {cs : List Value} {x : Unit} {m : Fr} (r : (Lp.unit).own cs x m) : cs = [] ∧ Sat [] m := by
  exact ⟨r, trivial⟩
theorem LeafL.open1 {τ : Tys} {cs : List Value} {x : (List RecT) × Unit} {m : Fr} (r : (Lp.prod (Lp.list (RecL τ) τ.recd (markRec 1)) (Lp.unit)).own cs x m) : ∃ v1, cs = [v1] ∧ Sat [LentL (RecL τ) τ.recd (markRec 1) v1 x.1] m := by
  obtain ⟨c, d, rfl, k1, k2, dj, s1, s2, o, k3, k4, _, t1, _, r, _⟩ := r
  obtain ⟨rfl, st⟩ := LeafL.open2 (τ := τ) r
  obtain ⟨v, rfl, o⟩ := o
  exact ⟨v, rfl, ⟨k1, k3, Fr.disj_sub dj (Fr.sub_refl _) t1, s1, Fr.sub_trans t1 s2, o, st⟩⟩
theorem LeafL.open {τ : Tys} {cs : List Value} {x : (List UInt8) × (List RecT) × Unit} {m : Fr} (r : (Lp.prod (Lp.pure Rp.str) (Lp.prod (Lp.list (RecL τ) τ.recd (markRec 1)) (Lp.unit))).own cs x m) : ∃ v1, cs = [.string (str x.1), v1] ∧ x.1.length ≤ 9223372036854775807 ∧ Sat [LentL (RecL τ) τ.recd (markRec 1) v1 x.2.1] m := by
  obtain ⟨c, d, rfl, k1, k2, dj, s1, s2, o, k3, k4, _, t1, _, r, _⟩ := r
  obtain ⟨v1, rfl, st⟩ := LeafL.open1 (τ := τ) r
  obtain ⟨rfl, hh⟩ := o
  exact ⟨v1, rfl, hh, Sat.mono (Fr.sub_trans t1 s2) st⟩
theorem LeafL.mk2 {τ : Tys} {m : Fr}   (s : Sat [] m) : (Lp.unit).own [] () m := by
  exact rfl
theorem LeafL.mk1 {τ : Tys} {m : Fr} {x1 : List RecT} {v1 : Value}  (s : Sat [LentL (RecL τ) τ.recd (markRec 1) v1 x1] m) : (Lp.prod (Lp.list (RecL τ) τ.recd (markRec 1)) (Lp.unit)).own [v1] (x1, ()) m := by
  obtain ⟨k1, k2, dj, s1, s2, o, st⟩ := s
  exact ⟨[v1], [], rfl, k1, k2, dj, s1, s2, ⟨v1, rfl, o⟩, k2, Fr.emp, Fr.disj_symm (Fr.emp_disj _), Fr.sub_refl _, Fr.emp_sub _, LeafL.mk2 (τ := τ)  st, trivial⟩
theorem LeafL.mk {τ : Tys} {m : Fr} {x0 : List UInt8} {x1 : List RecT} {v1 : Value} (h0 : x0.length ≤ 9223372036854775807) (s : Sat [LentL (RecL τ) τ.recd (markRec 1) v1 x1] m) : (Lp.prod (Lp.pure Rp.str) (Lp.prod (Lp.list (RecL τ) τ.recd (markRec 1)) (Lp.unit))).own [.string (str x0), v1] (x0, x1, ()) m := by
  exact Lp.own_pure_prod (T := Rp.str) (c := [.string (str x0)]) ⟨rfl, h0⟩ (LeafL.mk1 (τ := τ)  s)
theorem LeafL.opn {τ : Tys} {h : Fr} {cs : List Value} {x : LeafT} (r : (LeafL τ).rd h cs x) : ∃ v1, cs = [.string (str x.1), v1] ∧ x.1.length ≤ 9223372036854775807 ∧ LentLA (RecL τ) (markRec 1) h v1 x.2.1 := by
  obtain ⟨c0, d0, rfl, r0, r⟩ := r
  obtain ⟨c1, d1, rfl, r1, r⟩ := r
  obtain rfl : d1 = [] := r
  obtain ⟨rfl, h0⟩ := r0
  obtain ⟨v1, rfl, h1⟩ := r1
  exact ⟨v1, rfl, h0, h1⟩
def LeafOk (N : Nat) (x : LeafT) : Prop := x.1.length ≤ N ∧ (x.2.1.length ≤ N ∧ ∀ y ∈ x.2.1, RecOk N y)
theorem LeafOk.mono {N M : Nat} {x : LeafT} (hM : N ≤ M) (h : LeafOk N x) : LeafOk M x := by
  obtain ⟨h0, h1⟩ := h
  exact ⟨Nat.le_trans h0 hM, ⟨Nat.le_trans h1.1 hM, fun y hy => (RecOk.mono hM (h1.2 y hy))⟩⟩
/-! buttress/api.Stub -/
abbrev StubT : Type := (List UInt8) × (List UInt8) × Unit
abbrev StubRp : Rp StubT := Rp.prod Rp.str (Rp.prod (Rp.slice Rp.u8) (Rp.unit))
def markStub (k i : Int) : StubT := (markT k i, [], ())
theorem StubRp.open {h : Fr} {cs : List Value} {x : StubT} (r : StubRp.rel h cs x) : ∃ v1, cs = [.string (str x.1), v1] ∧ x.1.length ≤ 9223372036854775807 ∧ Arr Rp.u8 h v1 x.2.1 := by
  obtain ⟨c0, d0, rfl, r0, r⟩ := r
  obtain ⟨c1, d1, rfl, r1, r⟩ := r
  obtain rfl : d1 = [] := r
  obtain ⟨rfl, h0⟩ := r0
  obtain ⟨v1, rfl, h1⟩ := r1
  exact ⟨v1, rfl, h0, h1⟩
theorem StubRp.sh {h : Fr} {cs : List Value} {x : StubT} (r : StubRp.rel h cs x) : ∃ a1 c1, cs = [.string (str x.1), .slice a1 x.2.1.length c1] ∧ x.1.length ≤ 9223372036854775807 ∧ Arr Rp.u8 h (.slice a1 x.2.1.length c1) x.2.1 := by
  obtain ⟨v1, rfl, h0, h1⟩ := StubRp.open r
  obtain ⟨a1, c1, rfl⟩ := h1.shape
  exact ⟨a1, c1, rfl, h0, h1⟩
theorem StubRp.mk {h : Fr} {x0 : List UInt8} {x1 : List UInt8} {v1 : Value} (h0 : x0.length ≤ 9223372036854775807) (h1 : Arr Rp.u8 h v1 x1) : StubRp.rel h [.string (str x0), v1] (x0, x1, ()) :=
  ⟨[.string (str x0)], [v1], rfl, ⟨rfl, h0⟩, ⟨[v1], [], rfl, ⟨v1, rfl, h1⟩, rfl⟩⟩
theorem StubRp.k_eq : StubRp.k = 2 := rfl
abbrev StubG (τ : Tys) : Gp StubT := Gp.prod (Gp.pure Rp.str) (Gp.prod (Gp.row Rp.u8 τ.u8) (Gp.unit))
abbrev StubL (τ : Tys) : Lp StubT := Lp.prod (Lp.pure Rp.str) (Lp.prod (Lp.flat Rp.u8 τ.u8 (markB 1)) (Lp.unit))
theorem StubG.open2 {τ : Tys} {cs : List Value} {x : Unit} {m : Fr} (r : (Gp.unit).own cs x m) : cs = [] ∧ Sat [] m := by
  exact ⟨r, trivial⟩
theorem StubG.open1 {τ : Tys} {cs : List Value} {x : (List UInt8) × Unit} {m : Fr} (r : (Gp.prod (Gp.row Rp.u8 τ.u8) (Gp.unit)).own cs x m) : ∃ v1, cs = [v1] ∧ Sat [OwnP Rp.u8 τ.u8 v1 x.1] m := by
  obtain ⟨c, d, rfl, k1, k2, dj, s1, s2, o, k3, k4, _, t1, _, r, _⟩ := r
  obtain ⟨rfl, st⟩ := StubG.open2 (τ := τ) r
  obtain ⟨v, rfl, o⟩ := o
  exact ⟨v, rfl, ⟨k1, k3, Fr.disj_sub dj (Fr.sub_refl _) t1, s1, Fr.sub_trans t1 s2, o, st⟩⟩
theorem StubG.open {τ : Tys} {cs : List Value} {x : (List UInt8) × (List UInt8) × Unit} {m : Fr} (r : (Gp.prod (Gp.pure Rp.str) (Gp.prod (Gp.row Rp.u8 τ.u8) (Gp.unit))).own cs x m) : ∃ v1, cs = [.string (str x.1), v1] ∧ x.1.length ≤ 9223372036854775807 ∧ Sat [OwnP Rp.u8 τ.u8 v1 x.2.1] m := by
  obtain ⟨c, d, rfl, k1, k2, dj, s1, s2, o, k3, k4, _, t1, _, r, _⟩ := r
  obtain ⟨v1, rfl, st⟩ := StubG.open1 (τ := τ) r
  obtain ⟨rfl, hh⟩ := o
  exact ⟨v1, rfl, hh, Sat.mono (Fr.sub_trans t1 s2) st⟩
theorem StubG.mk2 {τ : Tys} {m : Fr}   (s : Sat [] m) : (Gp.unit).own [] () m := by
  exact rfl
theorem StubG.mk1 {τ : Tys} {m : Fr} {x1 : List UInt8} {v1 : Value}  (s : Sat [OwnP Rp.u8 τ.u8 v1 x1] m) : (Gp.prod (Gp.row Rp.u8 τ.u8) (Gp.unit)).own [v1] (x1, ()) m := by
  obtain ⟨k1, k2, dj, s1, s2, o, st⟩ := s
  exact ⟨[v1], [], rfl, k1, k2, dj, s1, s2, ⟨v1, rfl, o⟩, k2, Fr.emp, Fr.disj_symm (Fr.emp_disj _), Fr.sub_refl _, Fr.emp_sub _, StubG.mk2 (τ := τ)  st, trivial⟩
theorem StubG.mk {τ : Tys} {m : Fr} {x0 : List UInt8} {x1 : List UInt8} {v1 : Value} (h0 : x0.length ≤ 9223372036854775807) (s : Sat [OwnP Rp.u8 τ.u8 v1 x1] m) : (Gp.prod (Gp.pure Rp.str) (Gp.prod (Gp.row Rp.u8 τ.u8) (Gp.unit))).own [.string (str x0), v1] (x0, x1, ()) m := by
  exact Gp.own_pure_prod (T := Rp.str) (c := [.string (str x0)]) ⟨rfl, h0⟩ (StubG.mk1 (τ := τ)  s)
theorem StubL.open2 {τ : Tys} {cs : List Value} {x : Unit} {m : Fr} (r : (Lp.unit).own cs x m) : cs = [] ∧ Sat [] m := by
  exact ⟨r, trivial⟩
theorem StubL.open1 {τ : Tys} {cs : List Value} {x : (List UInt8) × Unit} {m : Fr} (r : (Lp.prod (Lp.flat Rp.u8 τ.u8 (markB 1)) (Lp.unit)).own cs x m) : ∃ v1, cs = [v1] ∧ Sat [LentQ Rp.u8 τ.u8 (markB 1) v1 x.1] m := by
  obtain ⟨c, d, rfl, k1, k2, dj, s1, s2, o, k3, k4, _, t1, _, r, _⟩ := r
  obtain ⟨rfl, st⟩ := StubL.open2 (τ := τ) r
  obtain ⟨v, rfl, o⟩ := o
  exact ⟨v, rfl, ⟨k1, k3, Fr.disj_sub dj (Fr.sub_refl _) t1, s1, Fr.sub_trans t1 s2, o, st⟩⟩
theorem StubL.open {τ : Tys} {cs : List Value} {x : (List UInt8) × (List UInt8) × Unit} {m : Fr} (r : (Lp.prod (Lp.pure Rp.str) (Lp.prod (Lp.flat Rp.u8 τ.u8 (markB 1)) (Lp.unit))).own cs x m) : ∃ v1, cs = [.string (str x.1), v1] ∧ x.1.length ≤ 9223372036854775807 ∧ Sat [LentQ Rp.u8 τ.u8 (markB 1) v1 x.2.1] m := by
  obtain ⟨c, d, rfl, k1, k2, dj, s1, s2, o, k3, k4, _, t1, _, r, _⟩ := r
  obtain ⟨v1, rfl, st⟩ := StubL.open1 (τ := τ) r
  obtain ⟨rfl, hh⟩ := o
  exact ⟨v1, rfl, hh, Sat.mono (Fr.sub_trans t1 s2) st⟩
theorem StubL.mk2 {τ : Tys} {m : Fr}   (s : Sat [] m) : (Lp.unit).own [] () m := by
  exact rfl
theorem StubL.mk1 {τ : Tys} {m : Fr} {x1 : List UInt8} {v1 : Value}  (s : Sat [LentQ Rp.u8 τ.u8 (markB 1) v1 x1] m) : (Lp.prod (Lp.flat Rp.u8 τ.u8 (markB 1)) (Lp.unit)).own [v1] (x1, ()) m := by
  obtain ⟨k1, k2, dj, s1, s2, o, st⟩ := s
  exact ⟨[v1], [], rfl, k1, k2, dj, s1, s2, ⟨v1, rfl, o⟩, k2, Fr.emp, Fr.disj_symm (Fr.emp_disj _), Fr.sub_refl _, Fr.emp_sub _, StubL.mk2 (τ := τ)  st, trivial⟩
theorem StubL.mk {τ : Tys} {m : Fr} {x0 : List UInt8} {x1 : List UInt8} {v1 : Value} (h0 : x0.length ≤ 9223372036854775807) (s : Sat [LentQ Rp.u8 τ.u8 (markB 1) v1 x1] m) : (Lp.prod (Lp.pure Rp.str) (Lp.prod (Lp.flat Rp.u8 τ.u8 (markB 1)) (Lp.unit))).own [.string (str x0), v1] (x0, x1, ()) m := by
  exact Lp.own_pure_prod (T := Rp.str) (c := [.string (str x0)]) ⟨rfl, h0⟩ (StubL.mk1 (τ := τ)  s)
theorem StubL.opn {τ : Tys} {h : Fr} {cs : List Value} {x : StubT} (r : (StubL τ).rd h cs x) : ∃ v1, cs = [.string (str x.1), v1] ∧ x.1.length ≤ 9223372036854775807 ∧ LentQA Rp.u8 (markB 1) h v1 x.2.1 := by
  obtain ⟨c0, d0, rfl, r0, r⟩ := r
  obtain ⟨c1, d1, rfl, r1, r⟩ := r
  obtain rfl : d1 = [] := r
  obtain ⟨rfl, h0⟩ := r0
  obtain ⟨v1, rfl, h1⟩ := r1
  exact ⟨v1, rfl, h0, h1⟩
def StubOk (N : Nat) (x : StubT) : Prop := x.1.length ≤ N ∧ x.2.1.length ≤ N
theorem StubOk.mono {N M : Nat} {x : StubT} (hM : N ≤ M) (h : StubOk N x) : StubOk M x := by
  obtain ⟨h0, h1⟩ := h
  exact ⟨Nat.le_trans h0 hM, Nat.le_trans h1 hM⟩
/-! buttress/api.Node -/
abbrev NodeT : Type := UInt8 × (List UInt8) × (List UInt8) × (List LeafT) × Unit
abbrev NodeRp : Rp NodeT := Rp.prod Rp.u8 (Rp.prod (Rp.slice Rp.u8) (Rp.prod (Rp.slice Rp.u8) (Rp.prod (Rp.slice LeafRp) (Rp.unit))))
def markNode (k i : Int) : NodeT := (0, markT k i, [], [], ())
theorem NodeRp.open {h : Fr} {cs : List Value} {x : NodeT} (r : NodeRp.rel h cs x) : ∃ v1 v2 v3, cs = [byteV x.1, v1, v2, v3] ∧ Arr Rp.u8 h v1 x.2.1 ∧ Arr Rp.u8 h v2 x.2.2.1 ∧ Arr LeafRp h v3 x.2.2.2.1 := by
  obtain ⟨c0, d0, rfl, r0, r⟩ := r
  obtain ⟨c1, d1, rfl, r1, r⟩ := r
  obtain ⟨c2, d2, rfl, r2, r⟩ := r
  obtain ⟨c3, d3, rfl, r3, r⟩ := r
  obtain rfl : d3 = [] := r
  obtain rfl : c0 = [byteV x.1] := r0
  obtain ⟨v1, rfl, h1⟩ := r1
  obtain ⟨v2, rfl, h2⟩ := r2
  obtain ⟨v3, rfl, h3⟩ := r3
  exact ⟨v1, v2, v3, rfl, h1, h2, h3⟩
theorem NodeRp.sh {h : Fr} {cs : List Value} {x : NodeT} (r : NodeRp.rel h cs x) : ∃ a1 a2 a3 c1 c2 c3, cs = [byteV x.1, .slice a1 x.2.1.length c1, .slice a2 x.2.2.1.length c2, .slice a3 x.2.2.2.1.length c3] ∧ Arr Rp.u8 h (.slice a1 x.2.1.length c1) x.2.1 ∧ Arr Rp.u8 h (.slice a2 x.2.2.1.length c2) x.2.2.1 ∧ Arr LeafRp h (.slice a3 x.2.2.2.1.length c3) x.2.2.2.1 := by
  obtain ⟨v1, v2, v3, rfl, h1, h2, h3⟩ := NodeRp.open r
  obtain ⟨a1, c1, rfl⟩ := h1.shape
  obtain ⟨a2, c2, rfl⟩ := h2.shape
  obtain ⟨a3, c3, rfl⟩ := h3.shape
  exact ⟨a1, a2, a3, c1, c2, c3, rfl, h1, h2, h3⟩
theorem NodeRp.mk {h : Fr} {x0 : UInt8} {x1 : List UInt8} {v1 : Value} {x2 : List UInt8} {v2 : Value} {x3 : List LeafT} {v3 : Value} (h1 : Arr Rp.u8 h v1 x1) (h2 : Arr Rp.u8 h v2 x2) (h3 : Arr LeafRp h v3 x3) : NodeRp.rel h [byteV x0, v1, v2, v3] (x0, x1, x2, x3, ()) :=
  ⟨[byteV x0], [v1, v2, v3], rfl, rfl, ⟨[v1], [v2, v3], rfl, ⟨v1, rfl, h1⟩, ⟨[v2], [v3], rfl, ⟨v2, rfl, h2⟩, ⟨[v3], [], rfl, ⟨v3, rfl, h3⟩, rfl⟩⟩⟩⟩
theorem NodeRp.k_eq : NodeRp.k = 4 := rfl
abbrev NodeG (τ : Tys) : Gp NodeT := Gp.prod (Gp.pure Rp.u8) (Gp.prod (Gp.row Rp.u8 τ.u8) (Gp.prod (Gp.row Rp.u8 τ.u8) (Gp.prod (Gp.list (LeafG τ) τ.leaf) (Gp.unit))))
abbrev NodeL (τ : Tys) : Lp NodeT := Lp.prod (Lp.pure Rp.u8) (Lp.prod (Lp.flat Rp.u8 τ.u8 (markB 1)) (Lp.prod (Lp.flat Rp.u8 τ.u8 (markB 1)) (Lp.prod (Lp.list (LeafL τ) τ.leaf (markLeaf 1)) (Lp.unit))))
theorem NodeG.open4 {τ : Tys} {cs : List Value} {x : Unit} {m : Fr} (r : (Gp.unit).own cs x m) : cs = [] ∧ Sat [] m := by
  exact ⟨r, trivial⟩
theorem NodeG.open3 {τ : Tys} {cs : List Value} {x : (List LeafT) × Unit} {m : Fr} (r : (Gp.prod (Gp.list (LeafG τ) τ.leaf) (Gp.unit)).own cs x m) : ∃ v3, cs = [v3] ∧ Sat [ListP (LeafG τ) τ.leaf v3 x.1] m := by
  obtain ⟨c, d, rfl, k1, k2, dj, s1, s2, o, k3, k4, _, t1, _, r, _⟩ := r
  obtain ⟨rfl, st⟩ := NodeG.open4 (τ := τ) r
  obtain ⟨v, rfl, o⟩ := o
  exact ⟨v, rfl, ⟨k1, k3, Fr.disj_sub dj (Fr.sub_refl _) t1, s1, Fr.sub_trans t1 s2, o, st⟩⟩
theorem NodeG.open2 {τ : Tys} {cs : List Value} {x : (List UInt8) × (List LeafT) × Unit} {m : Fr} (r : (Gp.prod (Gp.row Rp.u8 τ.u8) (Gp.prod (Gp.list (LeafG τ) τ.leaf) (Gp.unit))).own cs x m) : ∃ v2 v3, cs = [v2, v3] ∧ Sat [OwnP Rp.u8 τ.u8 v2 x.1, ListP (LeafG τ) τ.leaf v3 x.2.1] m := by
  obtain ⟨c, d, rfl, k1, k2, dj, s1, s2, o, k3, k4, _, t1, _, r, _⟩ := r
  obtain ⟨v3, rfl, st⟩ := NodeG.open3 (τ := τ) r
  obtain ⟨v, rfl, o⟩ := o
  exact ⟨v, v3, rfl, ⟨k1, k3, Fr.disj_sub dj (Fr.sub_refl _) t1, s1, Fr.sub_trans t1 s2, o, st⟩⟩
theorem NodeG.open1 {τ : Tys} {cs : List Value} {x : (List UInt8) × (List UInt8) × (List LeafT) × Unit} {m : Fr} (r : (Gp.prod (Gp.row Rp.u8 τ.u8) (Gp.prod (Gp.row Rp.u8 τ.u8) (Gp.prod (Gp.list (LeafG τ) τ.leaf) (Gp.unit)))).own cs x m) : ∃ v1 v2 v3, cs = [v1, v2, v3] ∧ Sat [OwnP Rp.u8 τ.u8 v1 x.1, OwnP Rp.u8 τ.u8 v2 x.2.1, ListP (LeafG τ) τ.leaf v3 x.2.2.1] m := by
  obtain ⟨c, d, rfl, k1, k2, dj, s1, s2, o, k3, k4, _, t1, _, r, _⟩ := r
  obtain ⟨v2, v3, rfl, st⟩ := NodeG.open2 (τ := τ) r
  obtain ⟨v, rfl, o⟩ := o
  exact ⟨v, v2, v3, rfl, ⟨k1, k3, Fr.disj_sub dj (Fr.sub_refl _) t1, s1, Fr.sub_trans t1 s2, o, st⟩⟩
theorem NodeG.open {τ : Tys} {cs : List Value} {x : UInt8 × (List UInt8) × (List UInt8) × (List LeafT) × Unit} {m : Fr} (r : (Gp.prod (Gp.pure Rp.u8) (Gp.prod (Gp.row Rp.u8 τ.u8) (Gp.prod (Gp.row Rp.u8 τ.u8) (Gp.prod (Gp.list (LeafG τ) τ.leaf) (Gp.unit))))).own cs x m) : ∃ v1 v2 v3, cs = [byteV x.1, v1, v2, v3] ∧ Sat [OwnP Rp.u8 τ.u8 v1 x.2.1, OwnP Rp.u8 τ.u8 v2 x.2.2.1, ListP (LeafG τ) τ.leaf v3 x.2.2.2.1] m := by
  obtain ⟨c, d, rfl, k1, k2, dj, s1, s2, o, k3, k4, _, t1, _, r, _⟩ := r
  obtain ⟨v1, v2, v3, rfl, st⟩ := NodeG.open1 (τ := τ) r
  obtain rfl : c = [byteV x.1] := o
  exact ⟨v1, v2, v3, rfl, Sat.mono (Fr.sub_trans t1 s2) st⟩
theorem NodeG.mk4 {τ : Tys} {m : Fr}   (s : Sat [] m) : (Gp.unit).own [] () m := by
  exact rfl
theorem NodeG.mk3 {τ : Tys} {m : Fr} {x3 : List LeafT} {v3 : Value}  (s : Sat [ListP (LeafG τ) τ.leaf v3 x3] m) : (Gp.prod (Gp.list (LeafG τ) τ.leaf) (Gp.unit)).own [v3] (x3, ()) m := by
  obtain ⟨k1, k2, dj, s1, s2, o, st⟩ := s
  exact ⟨[v3], [], rfl, k1, k2, dj, s1, s2, ⟨v3, rfl, o⟩, k2, Fr.emp, Fr.disj_symm (Fr.emp_disj _), Fr.sub_refl _, Fr.emp_sub _, NodeG.mk4 (τ := τ)  st, trivial⟩
theorem NodeG.mk2 {τ : Tys} {m : Fr} {x2 : List UInt8} {v2 : Value} {x3 : List LeafT} {v3 : Value}  (s : Sat [OwnP Rp.u8 τ.u8 v2 x2, ListP (LeafG τ) τ.leaf v3 x3] m) : (Gp.prod (Gp.row Rp.u8 τ.u8) (Gp.prod (Gp.list (LeafG τ) τ.leaf) (Gp.unit))).own [v2, v3] (x2, x3, ()) m := by
  obtain ⟨k1, k2, dj, s1, s2, o, st⟩ := s
  exact ⟨[v2], [v3], rfl, k1, k2, dj, s1, s2, ⟨v2, rfl, o⟩, k2, Fr.emp, Fr.disj_symm (Fr.emp_disj _), Fr.sub_refl _, Fr.emp_sub _, NodeG.mk3 (τ := τ)  st, trivial⟩
theorem NodeG.mk1 {τ : Tys} {m : Fr} {x1 : List UInt8} {v1 : Value} {x2 : List UInt8} {v2 : Value} {x3 : List LeafT} {v3 : Value}  (s : Sat [OwnP Rp.u8 τ.u8 v1 x1, OwnP Rp.u8 τ.u8 v2 x2, ListP (LeafG τ) τ.leaf v3 x3] m) : (Gp.prod (Gp.row Rp.u8 τ.u8) (Gp.prod (Gp.row Rp.u8 τ.u8) (Gp.prod (Gp.list (LeafG τ) τ.leaf) (Gp.unit)))).own [v1, v2, v3] (x1, x2, x3, ()) m := by
  obtain ⟨k1, k2, dj, s1, s2, o, st⟩ := s
  exact ⟨[v1], [v2, v3], rfl, k1, k2, dj, s1, s2, ⟨v1, rfl, o⟩, k2, Fr.emp, Fr.disj_symm (Fr.emp_disj _), Fr.sub_refl _, Fr.emp_sub _, NodeG.mk2 (τ := τ)  st, trivial⟩
theorem NodeG.mk {τ : Tys} {m : Fr} {x0 : UInt8} {x1 : List UInt8} {v1 : Value} {x2 : List UInt8} {v2 : Value} {x3 : List LeafT} {v3 : Value}  (s : Sat [OwnP Rp.u8 τ.u8 v1 x1, OwnP Rp.u8 τ.u8 v2 x2, ListP (LeafG τ) τ.leaf v3 x3] m) : (Gp.prod (Gp.pure Rp.u8) (Gp.prod (Gp.row Rp.u8 τ.u8) (Gp.prod (Gp.row Rp.u8 τ.u8) (Gp.prod (Gp.list (LeafG τ) τ.leaf) (Gp.unit))))).own [byteV x0, v1, v2, v3] (x0, x1, x2, x3, ()) m := by
  exact Gp.own_pure_prod (T := Rp.u8) (c := [byteV x0]) rfl (NodeG.mk1 (τ := τ)  s)
theorem NodeL.open4 {τ : Tys} {cs : List Value} {x : Unit} {m : Fr} (r : (Lp.unit).own cs x m) : cs = [] ∧ Sat [] m := by
  exact ⟨r, trivial⟩
theorem NodeL.open3 {τ : Tys} {cs : List Value} {x : (List LeafT) × Unit} {m : Fr} (r : (Lp.prod (Lp.list (LeafL τ) τ.leaf (markLeaf 1)) (Lp.unit)).own cs x m) : ∃ v3, cs = [v3] ∧ Sat [LentL (LeafL τ) τ.leaf (markLeaf 1) v3 x.1] m := by
  obtain ⟨c, d, rfl, k1, k2, dj, s1, s2, o, k3, k4, _, t1, _, r, _⟩ := r
  obtain ⟨rfl, st⟩ := NodeL.open4 (τ := τ) r
  obtain ⟨v, rfl, o⟩ := o
  exact ⟨v, rfl, ⟨k1, k3, Fr.disj_sub dj (Fr.sub_refl _) t1, s1, Fr.sub_trans t1 s2, o, st⟩⟩
theorem NodeL.open2 {τ : Tys} {cs : List Value} {x : (List UInt8) × (List LeafT) × Unit} {m : Fr} (r : (Lp.prod (Lp.flat Rp.u8 τ.u8 (markB 1)) (Lp.prod (Lp.list (LeafL τ) τ.leaf (markLeaf 1)) (Lp.unit))).own cs x m) : ∃ v2 v3, cs = [v2, v3] ∧ Sat [LentQ Rp.u8 τ.u8 (markB 1) v2 x.1, LentL (LeafL τ) τ.leaf (markLeaf 1) v3 x.2.1] m := by
  obtain ⟨c, d, rfl, k1, k2, dj, s1, s2, o, k3, k4, _, t1, _, r, _⟩ := r
  obtain ⟨v3, rfl, st⟩ := NodeL.open3 (τ := τ) r
  obtain ⟨v, rfl, o⟩ := o
  exact ⟨v, v3, rfl, ⟨k1, k3, Fr.disj_sub dj (Fr.sub_refl _) t1, s1, Fr.sub_trans t1 s2, o, st⟩⟩
theorem NodeL.open1 {τ : Tys} {cs : List Value} {x : (List UInt8) × (List UInt8) × (List LeafT) × Unit} {m : Fr} (r : (Lp.prod (Lp.flat Rp.u8 τ.u8 (markB 1)) (Lp.prod (Lp.flat Rp.u8 τ.u8 (markB 1)) (Lp.prod (Lp.list (LeafL τ) τ.leaf (markLeaf 1)) (Lp.unit)))).own cs x m) : ∃ v1 v2 v3, cs = [v1, v2, v3] ∧ Sat [LentQ Rp.u8 τ.u8 (markB 1) v1 x.1, LentQ Rp.u8 τ.u8 (markB 1) v2 x.2.1, LentL (LeafL τ) τ.leaf (markLeaf 1) v3 x.2.2.1] m := by
  obtain ⟨c, d, rfl, k1, k2, dj, s1, s2, o, k3, k4, _, t1, _, r, _⟩ := r
  obtain ⟨v2, v3, rfl, st⟩ := NodeL.open2 (τ := τ) r
  obtain ⟨v, rfl, o⟩ := o
  exact ⟨v, v2, v3, rfl, ⟨k1, k3, Fr.disj_sub dj (Fr.sub_refl _) t1, s1, Fr.sub_trans t1 s2, o, st⟩⟩
theorem NodeL.open {τ : Tys} {cs : List Value} {x : UInt8 × (List UInt8) × (List UInt8) × (List LeafT) × Unit} {m : Fr} (r : (Lp.prod (Lp.pure Rp.u8) (Lp.prod (Lp.flat Rp.u8 τ.u8 (markB 1)) (Lp.prod (Lp.flat Rp.u8 τ.u8 (markB 1)) (Lp.prod (Lp.list (LeafL τ) τ.leaf (markLeaf 1)) (Lp.unit))))).own cs x m) : ∃ v1 v2 v3, cs = [byteV x.1, v1, v2, v3] ∧ Sat [LentQ Rp.u8 τ.u8 (markB 1) v1 x.2.1, LentQ Rp.u8 τ.u8 (markB 1) v2 x.2.2.1, LentL (LeafL τ) τ.leaf (markLeaf 1) v3 x.2.2.2.1] m := by
  obtain ⟨c, d, rfl, k1, k2, dj, s1, s2, o, k3, k4, _, t1, _, r, _⟩ := r
  obtain ⟨v1, v2, v3, rfl, st⟩ := NodeL.open1 (τ := τ) r
  obtain rfl : c = [byteV x.1] := o
  exact ⟨v1, v2, v3, rfl, Sat.mono (Fr.sub_trans t1 s2) st⟩
theorem NodeL.mk4 {τ : Tys} {m : Fr}   (s : Sat [] m) : (Lp.unit).own [] () m := by
  exact rfl
theorem NodeL.mk3 {τ : Tys} {m : Fr} {x3 : List LeafT} {v3 : Value}  (s : Sat [LentL (LeafL τ) τ.leaf (markLeaf 1) v3 x3] m) : (Lp.prod (Lp.list (LeafL τ) τ.leaf (markLeaf 1)) (Lp.unit)).own [v3] (x3, ()) m := by
  obtain ⟨k1, k2, dj, s1, s2, o, st⟩ := s
  exact ⟨[v3], [], rfl, k1, k2, dj, s1, s2, ⟨v3, rfl, o⟩, k2, Fr.emp, Fr.disj_symm (Fr.emp_disj _), Fr.sub_refl _, Fr.emp_sub _, NodeL.mk4 (τ := τ)  st, trivial⟩
theorem NodeL.mk2 {τ : Tys} {m : Fr} {x2 : List UInt8} {v2 : Value} {x3 : List LeafT} {v3 : Value}  (s : Sat [LentQ Rp.u8 τ.u8 (markB 1) v2 x2, LentL (LeafL τ) τ.leaf (markLeaf 1) v3 x3] m) : (Lp.prod (Lp.flat Rp.u8 τ.u8 (markB 1)) (Lp.prod (Lp.list (LeafL τ) τ.leaf (markLeaf 1)) (Lp.unit))).own [v2, v3] (x2, x3, ()) m := by
  obtain ⟨k1, k2, dj, s1, s2, o, st⟩ := s
  exact ⟨[v2], [v3], rfl, k1, k2, dj, s1, s2, ⟨v2, rfl, o⟩, k2, Fr.emp, Fr.disj_symm (Fr.emp_disj _), Fr.sub_refl _, Fr.emp_sub _, NodeL.mk3 (τ := τ)  st, trivial⟩
theorem NodeL.mk1 {τ : Tys} {m : Fr} {x1 : List UInt8} {v1 : Value} {x2 : List UInt8} {v2 : Value} {x3 : List LeafT} {v3 : Value}  (s : Sat [LentQ Rp.u8 τ.u8 (markB 1) v1 x1, LentQ Rp.u8 τ.u8 (markB 1) v2 x2, LentL (LeafL τ) τ.leaf (markLeaf 1) v3 x3] m) : (Lp.prod (Lp.flat Rp.u8 τ.u8 (markB 1)) (Lp.prod (Lp.flat Rp.u8 τ.u8 (markB 1)) (Lp.prod (Lp.list (LeafL τ) τ.leaf (markLeaf 1)) (Lp.unit)))).own [v1, v2, v3] (x1, x2, x3, ()) m := by
  obtain ⟨k1, k2, dj, s1, s2, o, st⟩ := s
  exact ⟨[v1], [v2, v3], rfl, k1, k2, dj, s1, s2, ⟨v1, rfl, o⟩, k2, Fr.emp, Fr.disj_symm (Fr.emp_disj _), Fr.sub_refl _, Fr.emp_sub _, NodeL.mk2 (τ := τ)  st, trivial⟩
theorem NodeL.mk {τ : Tys} {m : Fr} {x0 : UInt8} {x1 : List UInt8} {v1 : Value} {x2 : List UInt8} {v2 : Value} {x3 : List LeafT} {v3 : Value}  (s : Sat [LentQ Rp.u8 τ.u8 (markB 1) v1 x1, LentQ Rp.u8 τ.u8 (markB 1) v2 x2, LentL (LeafL τ) τ.leaf (markLeaf 1) v3 x3] m) : (Lp.prod (Lp.pure Rp.u8) (Lp.prod (Lp.flat Rp.u8 τ.u8 (markB 1)) (Lp.prod (Lp.flat Rp.u8 τ.u8 (markB 1)) (Lp.prod (Lp.list (LeafL τ) τ.leaf (markLeaf 1)) (Lp.unit))))).own [byteV x0, v1, v2, v3] (x0, x1, x2, x3, ()) m := by
  exact Lp.own_pure_prod (T := Rp.u8) (c := [byteV x0]) rfl (NodeL.mk1 (τ := τ)  s)
theorem NodeL.opn {τ : Tys} {h : Fr} {cs : List Value} {x : NodeT} (r : (NodeL τ).rd h cs x) : ∃ v1 v2 v3, cs = [byteV x.1, v1, v2, v3] ∧ LentQA Rp.u8 (markB 1) h v1 x.2.1 ∧ LentQA Rp.u8 (markB 1) h v2 x.2.2.1 ∧ LentLA (LeafL τ) (markLeaf 1) h v3 x.2.2.2.1 := by
  obtain ⟨c0, d0, rfl, r0, r⟩ := r
  obtain ⟨c1, d1, rfl, r1, r⟩ := r
  obtain ⟨c2, d2, rfl, r2, r⟩ := r
  obtain ⟨c3, d3, rfl, r3, r⟩ := r
  obtain rfl : d3 = [] := r
  obtain rfl : c0 = [byteV x.1] := r0
  obtain ⟨v1, rfl, h1⟩ := r1
  obtain ⟨v2, rfl, h2⟩ := r2
  obtain ⟨v3, rfl, h3⟩ := r3
  exact ⟨v1, v2, v3, rfl, h1, h2, h3⟩
def NodeOk (N : Nat) (x : NodeT) : Prop := x.2.1.length ≤ N ∧ x.2.2.1.length ≤ N ∧ (x.2.2.2.1.length ≤ N ∧ ∀ y ∈ x.2.2.2.1, LeafOk N y)
theorem NodeOk.mono {N M : Nat} {x : NodeT} (hM : N ≤ M) (h : NodeOk N x) : NodeOk M x := by
  obtain ⟨h0, h1, h2⟩ := h
  exact ⟨Nat.le_trans h0 hM, Nat.le_trans h1 hM, ⟨Nat.le_trans h2.1 hM, fun y hy => (LeafOk.mono hM (h2.2 y hy))⟩⟩
/-! buttress/api.Proof -/
abbrev PrfT : Type := (List (List UInt8)) × (List StubT) × Unit
abbrev PrfRp : Rp PrfT := Rp.prod (Rp.slice (Rp.slice Rp.u8)) (Rp.prod (Rp.slice StubRp) (Rp.unit))
def markPrf (k i : Int) : PrfT := ([], [(markT k i, [], ())], ())
theorem PrfRp.open {h : Fr} {cs : List Value} {x : PrfT} (r : PrfRp.rel h cs x) : ∃ v0 v1, cs = [v0, v1] ∧ Arr (Rp.slice Rp.u8) h v0 x.1 ∧ Arr StubRp h v1 x.2.1 := by
  obtain ⟨c0, d0, rfl, r0, r⟩ := r
  obtain ⟨c1, d1, rfl, r1, r⟩ := r
  obtain rfl : d1 = [] := r
  obtain ⟨v0, rfl, h0⟩ := r0
  obtain ⟨v1, rfl, h1⟩ := r1
  exact ⟨v0, v1, rfl, h0, h1⟩
theorem PrfRp.sh {h : Fr} {cs : List Value} {x : PrfT} (r : PrfRp.rel h cs x) : ∃ a0 a1 c0 c1, cs = [.slice a0 x.1.length c0, .slice a1 x.2.1.length c1] ∧ Arr (Rp.slice Rp.u8) h (.slice a0 x.1.length c0) x.1 ∧ Arr StubRp h (.slice a1 x.2.1.length c1) x.2.1 := by
  obtain ⟨v0, v1, rfl, h0, h1⟩ := PrfRp.open r
  obtain ⟨a0, c0, rfl⟩ := h0.shape
  obtain ⟨a1, c1, rfl⟩ := h1.shape
  exact ⟨a0, a1, c0, c1, rfl, h0, h1⟩
theorem PrfRp.mk {h : Fr} {x0 : List (List UInt8)} {v0 : Value} {x1 : List StubT} {v1 : Value} (h0 : Arr (Rp.slice Rp.u8) h v0 x0) (h1 : Arr StubRp h v1 x1) : PrfRp.rel h [v0, v1] (x0, x1, ()) :=
  ⟨[v0], [v1], rfl, ⟨v0, rfl, h0⟩, ⟨[v1], [], rfl, ⟨v1, rfl, h1⟩, rfl⟩⟩
theorem PrfRp.k_eq : PrfRp.k = 2 := rfl
abbrev PrfG (τ : Tys) : Gp PrfT := Gp.prod (Gp.list (Gp.row Rp.u8 τ.u8) τ.bytes) (Gp.prod (Gp.list (StubG τ) τ.stub) (Gp.unit))
abbrev PrfL (τ : Tys) : Lp PrfT := Lp.prod (Lp.list (Lp.flat Rp.u8 τ.u8 (markB 1)) τ.bytes (markT 1)) (Lp.prod (Lp.list (StubL τ) τ.stub (markStub 1)) (Lp.unit))
theorem PrfG.open2 {τ : Tys} {cs : List Value} {x : Unit} {m : Fr} (r : (Gp.unit).own cs x m) : cs = [] ∧ Sat [] m := by
  exact ⟨r, trivial⟩
theorem PrfG.open1 {τ : Tys} {cs : List Value} {x : (List StubT) × Unit} {m : Fr} (r : (Gp.prod (Gp.list (StubG τ) τ.stub) (Gp.unit)).own cs x m) : ∃ v1, cs = [v1] ∧ Sat [ListP (StubG τ) τ.stub v1 x.1] m := by
  obtain ⟨c, d, rfl, k1, k2, dj, s1, s2, o, k3, k4, _, t1, _, r, _⟩ := r
  obtain ⟨rfl, st⟩ := PrfG.open2 (τ := τ) r
  obtain ⟨v, rfl, o⟩ := o
  exact ⟨v, rfl, ⟨k1, k3, Fr.disj_sub dj (Fr.sub_refl _) t1, s1, Fr.sub_trans t1 s2, o, st⟩⟩
theorem PrfG.open {τ : Tys} {cs : List Value} {x : (List (List UInt8)) × (List StubT) × Unit} {m : Fr} (r : (Gp.prod (Gp.list (Gp.row Rp.u8 τ.u8) τ.bytes) (Gp.prod (Gp.list (StubG τ) τ.stub) (Gp.unit))).own cs x m) : ∃ v0 v1, cs = [v0, v1] ∧ Sat [ListP (Gp.row Rp.u8 τ.u8) τ.bytes v0 x.1, ListP (StubG τ) τ.stub v1 x.2.1] m := by
  obtain ⟨c, d, rfl, k1, k2, dj, s1, s2, o, k3, k4, _, t1, _, r, _⟩ := r
  obtain ⟨v1, rfl, st⟩ := PrfG.open1 (τ := τ) r
  obtain ⟨v, rfl, o⟩ := o
  exact ⟨v, v1, rfl, ⟨k1, k3, Fr.disj_sub dj (Fr.sub_refl _) t1, s1, Fr.sub_trans t1 s2, o, st⟩⟩
theorem PrfG.mk2 {τ : Tys} {m : Fr}   (s : Sat [] m) : (Gp.unit).own [] () m := by
  exact rfl
theorem PrfG.mk1 {τ : Tys} {m : Fr} {x1 : List StubT} {v1 : Value}  (s : Sat [ListP (StubG τ) τ.stub v1 x1] m) : (Gp.prod (Gp.list (StubG τ) τ.stub) (Gp.unit)).own [v1] (x1, ()) m := by
  obtain ⟨k1, k2, dj, s1, s2, o, st⟩ := s
  exact ⟨[v1], [], rfl, k1, k2, dj, s1, s2, ⟨v1, rfl, o⟩, k2, Fr.emp, Fr.disj_symm (Fr.emp_disj _), Fr.sub_refl _, Fr.emp_sub _, PrfG.mk2 (τ := τ)  st, trivial⟩
theorem PrfG.mk {τ : Tys} {m : Fr} {x0 : List (List UInt8)} {v0 : Value} {x1 : List StubT} {v1 : Value}  (s : Sat [ListP (Gp.row Rp.u8 τ.u8) τ.bytes v0 x0, ListP (StubG τ) τ.stub v1 x1] m) : (Gp.prod (Gp.list (Gp.row Rp.u8 τ.u8) τ.bytes) (Gp.prod (Gp.list (StubG τ) τ.stub) (Gp.unit))).own [v0, v1] (x0, x1, ()) m := by
  obtain ⟨k1, k2, dj, s1, s2, o, st⟩ := s
  exact ⟨[v0], [v1], rfl, k1, k2, dj, s1, s2, ⟨v0, rfl, o⟩, k2, Fr.emp, Fr.disj_symm (Fr.emp_disj _), Fr.sub_refl _, Fr.emp_sub _, PrfG.mk1 (τ := τ)  st, trivial⟩
theorem PrfL.open2 {τ : Tys} {cs : List Value} {x : Unit} {m : Fr} (r : (Lp.unit).own cs x m) : cs = [] ∧ Sat [] m := by
  exact ⟨r, trivial⟩
theorem PrfL.open1 {τ : Tys} {cs : List Value} {x : (List StubT) × Unit} {m : Fr} (r : (Lp.prod (Lp.list (StubL τ) τ.stub (markStub 1)) (Lp.unit)).own cs x m) : ∃ v1, cs = [v1] ∧ Sat [LentL (StubL τ) τ.stub (markStub 1) v1 x.1] m := by
  obtain ⟨c, d, rfl, k1, k2, dj, s1, s2, o, k3, k4, _, t1, _, r, _⟩ := r
  obtain ⟨rfl, st⟩ := PrfL.open2 (τ := τ) r
  obtain ⟨v, rfl, o⟩ := o
  exact ⟨v, rfl, ⟨k1, k3, Fr.disj_sub dj (Fr.sub_refl _) t1, s1, Fr.sub_trans t1 s2, o, st⟩⟩
theorem PrfL.open {τ : Tys} {cs : List Value} {x : (List (List UInt8)) × (List StubT) × Unit} {m : Fr} (r : (Lp.prod (Lp.list (Lp.flat Rp.u8 τ.u8 (markB 1)) τ.bytes (markT 1)) (Lp.prod (Lp.list (StubL τ) τ.stub (markStub 1)) (Lp.unit))).own cs x m) : ∃ v0 v1, cs = [v0, v1] ∧ Sat [LentL (Lp.flat Rp.u8 τ.u8 (markB 1)) τ.bytes (markT 1) v0 x.1, LentL (StubL τ) τ.stub (markStub 1) v1 x.2.1] m := by
  obtain ⟨c, d, rfl, k1, k2, dj, s1, s2, o, k3, k4, _, t1, _, r, _⟩ := r
  obtain ⟨v1, rfl, st⟩ := PrfL.open1 (τ := τ) r
  obtain ⟨v, rfl, o⟩ := o
  exact ⟨v, v1, rfl, ⟨k1, k3, Fr.disj_sub dj (Fr.sub_refl _) t1, s1, Fr.sub_trans t1 s2, o, st⟩⟩
theorem PrfL.mk2 {τ : Tys} {m : Fr}   (s : Sat [] m) : (Lp.unit).own [] () m := by
  exact rfl
theorem PrfL.mk1 {τ : Tys} {m : Fr} {x1 : List StubT} {v1 : Value}  (s : Sat [LentL (StubL τ) τ.stub (markStub 1) v1 x1] m) : (Lp.prod (Lp.list (StubL τ) τ.stub (markStub 1)) (Lp.unit)).own [v1] (x1, ()) m := by
  obtain ⟨k1, k2, dj, s1, s2, o, st⟩ := s
  exact ⟨[v1], [], rfl, k1, k2, dj, s1, s2, ⟨v1, rfl, o⟩, k2, Fr.emp, Fr.disj_symm (Fr.emp_disj _), Fr.sub_refl _, Fr.emp_sub _, PrfL.mk2 (τ := τ)  st, trivial⟩
theorem PrfL.mk {τ : Tys} {m : Fr} {x0 : List (List UInt8)} {v0 : Value} {x1 : List StubT} {v1 : Value}  (s : Sat [LentL (Lp.flat Rp.u8 τ.u8 (markB 1)) τ.bytes (markT 1) v0 x0, LentL (StubL τ) τ.stub (markStub 1) v1 x1] m) : (Lp.prod (Lp.list (Lp.flat Rp.u8 τ.u8 (markB 1)) τ.bytes (markT 1)) (Lp.prod (Lp.list (StubL τ) τ.stub (markStub 1)) (Lp.unit))).own [v0, v1] (x0, x1, ()) m := by
  obtain ⟨k1, k2, dj, s1, s2, o, st⟩ := s
  exact ⟨[v0], [v1], rfl, k1, k2, dj, s1, s2, ⟨v0, rfl, o⟩, k2, Fr.emp, Fr.disj_symm (Fr.emp_disj _), Fr.sub_refl _, Fr.emp_sub _, PrfL.mk1 (τ := τ)  st, trivial⟩
theorem PrfL.opn {τ : Tys} {h : Fr} {cs : List Value} {x : PrfT} (r : (PrfL τ).rd h cs x) : ∃ v0 v1, cs = [v0, v1] ∧ LentLA (Lp.flat Rp.u8 τ.u8 (markB 1)) (markT 1) h v0 x.1 ∧ LentLA (StubL τ) (markStub 1) h v1 x.2.1 := by
  obtain ⟨c0, d0, rfl, r0, r⟩ := r
  obtain ⟨c1, d1, rfl, r1, r⟩ := r
  obtain rfl : d1 = [] := r
  obtain ⟨v0, rfl, h0⟩ := r0
  obtain ⟨v1, rfl, h1⟩ := r1
  exact ⟨v0, v1, rfl, h0, h1⟩
def PrfOk (N : Nat) (x : PrfT) : Prop := (x.1.length ≤ N ∧ ∀ y ∈ x.1, y.length ≤ N) ∧ (x.2.1.length ≤ N ∧ ∀ y ∈ x.2.1, StubOk N y)
theorem PrfOk.mono {N M : Nat} {x : PrfT} (hM : N ≤ M) (h : PrfOk N x) : PrfOk M x := by
  obtain ⟨h0, h1⟩ := h
  exact ⟨⟨Nat.le_trans h0.1 hM, fun y hy => Nat.le_trans (h0.2 y hy) hM⟩, ⟨Nat.le_trans h1.1 hM, fun y hy => (StubOk.mono hM (h1.2 y hy))⟩⟩
/-! buttress/api.Root -/
abbrev RootT : Type := Int × Int × Int × (List UInt8) × (List UInt8) × Unit
abbrev RootRp : Rp RootT := Rp.prod Rp.i64 (Rp.prod Rp.i64 (Rp.prod Rp.i64 (Rp.prod (Rp.slice Rp.u8) (Rp.prod (Rp.slice Rp.u8) (Rp.unit)))))
def markRoot (k i : Int) : RootT := (0, 0, markZ k i, [], [], ())
theorem RootRp.open {h : Fr} {cs : List Value} {x : RootT} (r : RootRp.rel h cs x) : ∃ v3 v4, cs = [.int .i64 x.1, .int .i64 x.2.1, .int .i64 x.2.2.1, v3, v4] ∧ InI64 x.1 ∧ InI64 x.2.1 ∧ InI64 x.2.2.1 ∧ Arr Rp.u8 h v3 x.2.2.2.1 ∧ Arr Rp.u8 h v4 x.2.2.2.2.1 := by
  obtain ⟨c0, d0, rfl, r0, r⟩ := r
  obtain ⟨c1, d1, rfl, r1, r⟩ := r
  obtain ⟨c2, d2, rfl, r2, r⟩ := r
  obtain ⟨c3, d3, rfl, r3, r⟩ := r
  obtain ⟨c4, d4, rfl, r4, r⟩ := r
  obtain rfl : d4 = [] := r
  obtain ⟨rfl, h0⟩ := r0
  obtain ⟨rfl, h1⟩ := r1
  obtain ⟨rfl, h2⟩ := r2
  obtain ⟨v3, rfl, h3⟩ := r3
  obtain ⟨v4, rfl, h4⟩ := r4
  exact ⟨v3, v4, rfl, h0, h1, h2, h3, h4⟩
theorem RootRp.sh {h : Fr} {cs : List Value} {x : RootT} (r : RootRp.rel h cs x) : ∃ a3 a4 c3 c4, cs = [.int .i64 x.1, .int .i64 x.2.1, .int .i64 x.2.2.1, .slice a3 x.2.2.2.1.length c3, .slice a4 x.2.2.2.2.1.length c4] ∧ InI64 x.1 ∧ InI64 x.2.1 ∧ InI64 x.2.2.1 ∧ Arr Rp.u8 h (.slice a3 x.2.2.2.1.length c3) x.2.2.2.1 ∧ Arr Rp.u8 h (.slice a4 x.2.2.2.2.1.length c4) x.2.2.2.2.1 := by
  obtain ⟨v3, v4, rfl, h0, h1, h2, h3, h4⟩ := RootRp.open r
  obtain ⟨a3, c3, rfl⟩ := h3.shape
  obtain ⟨a4, c4, rfl⟩ := h4.shape
  exact ⟨a3, a4, c3, c4, rfl, h0, h1, h2, h3, h4⟩
theorem RootRp.mk {h : Fr} {x0 : Int} {x1 : Int} {x2 : Int} {x3 : List UInt8} {v3 : Value} {x4 : List UInt8} {v4 : Value} (h0 : InI64 x0) (h1 : InI64 x1) (h2 : InI64 x2) (h3 : Arr Rp.u8 h v3 x3) (h4 : Arr Rp.u8 h v4 x4) : RootRp.rel h [.int .i64 x0, .int .i64 x1, .int .i64 x2, v3, v4] (x0, x1, x2, x3, x4, ()) :=
  ⟨[.int .i64 x0], [.int .i64 x1, .int .i64 x2, v3, v4], rfl, ⟨rfl, h0⟩, ⟨[.int .i64 x1], [.int .i64 x2, v3, v4], rfl, ⟨rfl, h1⟩, ⟨[.int .i64 x2], [v3, v4], rfl, ⟨rfl, h2⟩, ⟨[v3], [v4], rfl, ⟨v3, rfl, h3⟩, ⟨[v4], [], rfl, ⟨v4, rfl, h4⟩, rfl⟩⟩⟩⟩⟩
theorem RootRp.k_eq : RootRp.k = 5 := rfl
abbrev RootG (τ : Tys) : Gp RootT := Gp.prod (Gp.pure Rp.i64) (Gp.prod (Gp.pure Rp.i64) (Gp.prod (Gp.pure Rp.i64) (Gp.prod (Gp.row Rp.u8 τ.u8) (Gp.prod (Gp.row Rp.u8 τ.u8) (Gp.unit)))))
abbrev RootL (τ : Tys) : Lp RootT := Lp.prod (Lp.pure Rp.i64) (Lp.prod (Lp.pure Rp.i64) (Lp.prod (Lp.pure Rp.i64) (Lp.prod (Lp.flat Rp.u8 τ.u8 (markB 1)) (Lp.prod (Lp.flat Rp.u8 τ.u8 (markB 1)) (Lp.unit)))))
theorem RootG.open5 {τ : Tys} {cs : List Value} {x : Unit} {m : Fr} (r : (Gp.unit).own cs x m) : cs = [] ∧ Sat [] m := by
  exact ⟨r, trivial⟩
theorem RootG.open4 {τ : Tys} {cs : List Value} {x : (List UInt8) × Unit} {m : Fr} (r : (Gp.prod (Gp.row Rp.u8 τ.u8) (Gp.unit)).own cs x m) : ∃ v4, cs = [v4] ∧ Sat [OwnP Rp.u8 τ.u8 v4 x.1] m := by
  obtain ⟨c, d, rfl, k1, k2, dj, s1, s2, o, k3, k4, _, t1, _, r, _⟩ := r
  obtain ⟨rfl, st⟩ := RootG.open5 (τ := τ) r
  obtain ⟨v, rfl, o⟩ := o
  exact ⟨v, rfl, ⟨k1, k3, Fr.disj_sub dj (Fr.sub_refl _) t1, s1, Fr.sub_trans t1 s2, o, st⟩⟩
theorem RootG.open3 {τ : Tys} {cs : List Value} {x : (List UInt8) × (List UInt8) × Unit} {m : Fr} (r : (Gp.prod (Gp.row Rp.u8 τ.u8) (Gp.prod (Gp.row Rp.u8 τ.u8) (Gp.unit))).own cs x m) : ∃ v3 v4, cs = [v3, v4] ∧ Sat [OwnP Rp.u8 τ.u8 v3 x.1, OwnP Rp.u8 τ.u8 v4 x.2.1] m := by
  obtain ⟨c, d, rfl, k1, k2, dj, s1, s2, o, k3, k4, _, t1, _, r, _⟩ := r
  obtain ⟨v4, rfl, st⟩ := RootG.open4 (τ := τ) r
  obtain ⟨v, rfl, o⟩ := o
  exact ⟨v, v4, rfl, ⟨k1, k3, Fr.disj_sub dj (Fr.sub_refl _) t1, s1, Fr.sub_trans t1 s2, o, st⟩⟩
theorem RootG.open2 {τ : Tys} {cs : List Value} {x : Int × (List UInt8) × (List UInt8) × Unit} {m : Fr} (r : (Gp.prod (Gp.pure Rp.i64) (Gp.prod (Gp.row Rp.u8 τ.u8) (Gp.prod (Gp.row Rp.u8 τ.u8) (Gp.unit)))).own cs x m) : ∃ v3 v4, cs = [.int .i64 x.1, v3, v4] ∧ InI64 x.1 ∧ Sat [OwnP Rp.u8 τ.u8 v3 x.2.1, OwnP Rp.u8 τ.u8 v4 x.2.2.1] m := by
  obtain ⟨c, d, rfl, k1, k2, dj, s1, s2, o, k3, k4, _, t1, _, r, _⟩ := r
  obtain ⟨v3, v4, rfl, st⟩ := RootG.open3 (τ := τ) r
  obtain ⟨rfl, hh⟩ := o
  exact ⟨v3, v4, rfl, hh, Sat.mono (Fr.sub_trans t1 s2) st⟩
theorem RootG.open1 {τ : Tys} {cs : List Value} {x : Int × Int × (List UInt8) × (List UInt8) × Unit} {m : Fr} (r : (Gp.prod (Gp.pure Rp.i64) (Gp.prod (Gp.pure Rp.i64) (Gp.prod (Gp.row Rp.u8 τ.u8) (Gp.prod (Gp.row Rp.u8 τ.u8) (Gp.unit))))).own cs x m) : ∃ v3 v4, cs = [.int .i64 x.1, .int .i64 x.2.1, v3, v4] ∧ InI64 x.1 ∧ InI64 x.2.1 ∧ Sat [OwnP Rp.u8 τ.u8 v3 x.2.2.1, OwnP Rp.u8 τ.u8 v4 x.2.2.2.1] m := by
  obtain ⟨c, d, rfl, k1, k2, dj, s1, s2, o, k3, k4, _, t1, _, r, _⟩ := r
  obtain ⟨v3, v4, rfl, h2, st⟩ := RootG.open2 (τ := τ) r
  obtain ⟨rfl, hh⟩ := o
  exact ⟨v3, v4, rfl, hh, h2, Sat.mono (Fr.sub_trans t1 s2) st⟩
theorem RootG.open {τ : Tys} {cs : List Value} {x : Int × Int × Int × (List UInt8) × (List UInt8) × Unit} {m : Fr} (r : (Gp.prod (Gp.pure Rp.i64) (Gp.prod (Gp.pure Rp.i64) (Gp.prod (Gp.pure Rp.i64) (Gp.prod (Gp.row Rp.u8 τ.u8) (Gp.prod (Gp.row Rp.u8 τ.u8) (Gp.unit)))))).own cs x m) : ∃ v3 v4, cs = [.int .i64 x.1, .int .i64 x.2.1, .int .i64 x.2.2.1, v3, v4] ∧ InI64 x.1 ∧ InI64 x.2.1 ∧ InI64 x.2.2.1 ∧ Sat [OwnP Rp.u8 τ.u8 v3 x.2.2.2.1, OwnP Rp.u8 τ.u8 v4 x.2.2.2.2.1] m := by
  obtain ⟨c, d, rfl, k1, k2, dj, s1, s2, o, k3, k4, _, t1, _, r, _⟩ := r
  obtain ⟨v3, v4, rfl, h1, h2, st⟩ := RootG.open1 (τ := τ) r
  obtain ⟨rfl, hh⟩ := o
  exact ⟨v3, v4, rfl, hh, h1, h2, Sat.mono (Fr.sub_trans t1 s2) st⟩
theorem RootG.mk5 {τ : Tys} {m : Fr}   (s : Sat [] m) : (Gp.unit).own [] () m := by
  exact rfl
theorem RootG.mk4 {τ : Tys} {m : Fr} {x4 : List UInt8} {v4 : Value}  (s : Sat [OwnP Rp.u8 τ.u8 v4 x4] m) : (Gp.prod (Gp.row Rp.u8 τ.u8) (Gp.unit)).own [v4] (x4, ()) m := by
  obtain ⟨k1, k2, dj, s1, s2, o, st⟩ := s
  exact ⟨[v4], [], rfl, k1, k2, dj, s1, s2, ⟨v4, rfl, o⟩, k2, Fr.emp, Fr.disj_symm (Fr.emp_disj _), Fr.sub_refl _, Fr.emp_sub _, RootG.mk5 (τ := τ)  st, trivial⟩
theorem RootG.mk3 {τ : Tys} {m : Fr} {x3 : List UInt8} {v3 : Value} {x4 : List UInt8} {v4 : Value}  (s : Sat [OwnP Rp.u8 τ.u8 v3 x3, OwnP Rp.u8 τ.u8 v4 x4] m) : (Gp.prod (Gp.row Rp.u8 τ.u8) (Gp.prod (Gp.row Rp.u8 τ.u8) (Gp.unit))).own [v3, v4] (x3, x4, ()) m := by
  obtain ⟨k1, k2, dj, s1, s2, o, st⟩ := s
  exact ⟨[v3], [v4], rfl, k1, k2, dj, s1, s2, ⟨v3, rfl, o⟩, k2, Fr.emp, Fr.disj_symm (Fr.emp_disj _), Fr.sub_refl _, Fr.emp_sub _, RootG.mk4 (τ := τ)  st, trivial⟩
theorem RootG.mk2 {τ : Tys} {m : Fr} {x2 : Int} {x3 : List UInt8} {v3 : Value} {x4 : List UInt8} {v4 : Value} (h2 : InI64 x2) (s : Sat [OwnP Rp.u8 τ.u8 v3 x3, OwnP Rp.u8 τ.u8 v4 x4] m) : (Gp.prod (Gp.pure Rp.i64) (Gp.prod (Gp.row Rp.u8 τ.u8) (Gp.prod (Gp.row Rp.u8 τ.u8) (Gp.unit)))).own [.int .i64 x2, v3, v4] (x2, x3, x4, ()) m := by
  exact Gp.own_pure_prod (T := Rp.i64) (c := [.int .i64 x2]) ⟨rfl, h2⟩ (RootG.mk3 (τ := τ)  s)
theorem RootG.mk1 {τ : Tys} {m : Fr} {x1 : Int} {x2 : Int} {x3 : List UInt8} {v3 : Value} {x4 : List UInt8} {v4 : Value} (h1 : InI64 x1) (h2 : InI64 x2) (s : Sat [OwnP Rp.u8 τ.u8 v3 x3, OwnP Rp.u8 τ.u8 v4 x4] m) : (Gp.prod (Gp.pure Rp.i64) (Gp.prod (Gp.pure Rp.i64) (Gp.prod (Gp.row Rp.u8 τ.u8) (Gp.prod (Gp.row Rp.u8 τ.u8) (Gp.unit))))).own [.int .i64 x1, .int .i64 x2, v3, v4] (x1, x2, x3, x4, ()) m := by
  exact Gp.own_pure_prod (T := Rp.i64) (c := [.int .i64 x1]) ⟨rfl, h1⟩ (RootG.mk2 (τ := τ) h2 s)
theorem RootG.mk {τ : Tys} {m : Fr} {x0 : Int} {x1 : Int} {x2 : Int} {x3 : List UInt8} {v3 : Value} {x4 : List UInt8} {v4 : Value} (h0 : InI64 x0) (h1 : InI64 x1) (h2 : InI64 x2) (s : Sat [OwnP Rp.u8 τ.u8 v3 x3, OwnP Rp.u8 τ.u8 v4 x4] m) : (Gp.prod (Gp.pure Rp.i64) (Gp.prod (Gp.pure Rp.i64) (Gp.prod (Gp.pure Rp.i64) (Gp.prod (Gp.row Rp.u8 τ.u8) (Gp.prod (Gp.row Rp.u8 τ.u8) (Gp.unit)))))).own [.int .i64 x0, .int .i64 x1, .int .i64 x2, v3, v4] (x0, x1, x2, x3, x4, ()) m := by
  exact Gp.own_pure_prod (T := Rp.i64) (c := [.int .i64 x0]) ⟨rfl, h0⟩ (RootG.mk1 (τ := τ) h1 h2 s)
theorem RootL.open5 {τ : Tys} {cs : List Value} {x : Unit} {m : Fr} (r : (Lp.unit).own cs x m) : cs = [] ∧ Sat [] m := by
  exact ⟨r, trivial⟩
theorem RootL.open4 {τ : Tys} {cs : List Value} {x : (List UInt8) × Unit} {m : Fr} (r : (Lp.prod (Lp.flat Rp.u8 τ.u8 (markB 1)) (Lp.unit)).own cs x m) : ∃ v4, cs = [v4] ∧ Sat [LentQ Rp.u8 τ.u8 (markB 1) v4 x.1] m := by
  obtain ⟨c, d, rfl, k1, k2, dj, s1, s2, o, k3, k4, _, t1, _, r, _⟩ := r
  obtain ⟨rfl, st⟩ := RootL.open5 (τ := τ) r
  obtain ⟨v, rfl, o⟩ := o
  exact ⟨v, rfl, ⟨k1, k3, Fr.disj_sub dj (Fr.sub_refl _) t1, s1, Fr.sub_trans t1 s2, o, st⟩⟩
theorem RootL.open3 {τ : Tys} {cs : List Value} {x : (List UInt8) × (List UInt8) × Unit} {m : Fr} (r : (Lp.prod (Lp.flat Rp.u8 τ.u8 (markB 1)) (Lp.prod (Lp.flat Rp.u8 τ.u8 (markB 1)) (Lp.unit))).own cs x m) : ∃ v3 v4, cs = [v3, v4] ∧ Sat [LentQ Rp.u8 τ.u8 (markB 1) v3 x.1, LentQ Rp.u8 τ.u8 (markB 1) v4 x.2.1] m := by
  obtain ⟨c, d, rfl, k1, k2, dj, s1, s2, o, k3, k4, _, t1, _, r, _⟩ := r
  obtain ⟨v4, rfl, st⟩ := RootL.open4 (τ := τ) r
  obtain ⟨v, rfl, o⟩ := o
  exact ⟨v, v4, rfl, ⟨k1, k3, Fr.disj_sub dj (Fr.sub_refl _) t1, s1, Fr.sub_trans t1 s2, o, st⟩⟩
theorem RootL.open2 {τ : Tys} {cs : List Value} {x : Int × (List UInt8) × (List UInt8) × Unit} {m : Fr} (r : (Lp.prod (Lp.pure Rp.i64) (Lp.prod (Lp.flat Rp.u8 τ.u8 (markB 1)) (Lp.prod (Lp.flat Rp.u8 τ.u8 (markB 1)) (Lp.unit)))).own cs x m) : ∃ v3 v4, cs = [.int .i64 x.1, v3, v4] ∧ InI64 x.1 ∧ Sat [LentQ Rp.u8 τ.u8 (markB 1) v3 x.2.1, LentQ Rp.u8 τ.u8 (markB 1) v4 x.2.2.1] m := by
  obtain ⟨c, d, rfl, k1, k2, dj, s1, s2, o, k3, k4, _, t1, _, r, _⟩ := r
  obtain ⟨v3, v4, rfl, st⟩ := RootL.open3 (τ := τ) r
  obtain ⟨rfl, hh⟩ := o
  exact ⟨v3, v4, rfl, hh, Sat.mono (Fr.sub_trans t1 s2) st⟩
theorem RootL.open1 {τ : Tys} {cs : List Value} {x : Int × Int × (List UInt8) × (List UInt8) × Unit} {m : Fr} (r : (Lp.prod (Lp.pure Rp.i64) (Lp.prod (Lp.pure Rp.i64) (Lp.prod (Lp.flat Rp.u8 τ.u8 (markB 1)) (Lp.prod (Lp.flat Rp.u8 τ.u8 (markB 1)) (Lp.unit))))).own cs x m) : ∃ v3 v4, cs = [.int .i64 x.1, .int .i64 x.2.1, v3, v4] ∧ InI64 x.1 ∧ InI64 x.2.1 ∧ Sat [LentQ Rp.u8 τ.u8 (markB 1) v3 x.2.2.1, LentQ Rp.u8 τ.u8 (markB 1) v4 x.2.2.2.1] m := by
  obtain ⟨c, d, rfl, k1, k2, dj, s1, s2, o, k3, k4, _, t1, _, r, _⟩ := r
  obtain ⟨v3, v4, rfl, h2, st⟩ := RootL.open2 (τ := τ) r
  obtain ⟨rfl, hh⟩ := o
  exact ⟨v3, v4, rfl, hh, h2, Sat.mono (Fr.sub_trans t1 s2) st⟩
theorem RootL.open {τ : Tys} {cs : List Value} {x : Int × Int × Int × (List UInt8) × (List UInt8) × Unit} {m : Fr} (r : (Lp.prod (Lp.pure Rp.i64) (Lp.prod (Lp.pure Rp.i64) (Lp.prod (Lp.pure Rp.i64) (Lp.prod (Lp.flat Rp.u8 τ.u8 (markB 1)) (Lp.prod (Lp.flat Rp.u8 τ.u8 (markB 1)) (Lp.unit)))))).own cs x m) : ∃ v3 v4, cs = [.int .i64 x.1, .int .i64 x.2.1, .int .i64 x.2.2.1, v3, v4] ∧ InI64 x.1 ∧ InI64 x.2.1 ∧ InI64 x.2.2.1 ∧ Sat [LentQ Rp.u8 τ.u8 (markB 1) v3 x.2.2.2.1, LentQ Rp.u8 τ.u8 (markB 1) v4 x.2.2.2.2.1] m := by
  obtain ⟨c, d, rfl, k1, k2, dj, s1, s2, o, k3, k4, _, t1, _, r, _⟩ := r
  obtain ⟨v3, v4, rfl, h1, h2, st⟩ := RootL.open1 (τ := τ) r
  obtain ⟨rfl, hh⟩ := o
  exact ⟨v3, v4, rfl, hh, h1, h2, Sat.mono (Fr.sub_trans t1 s2) st⟩
theorem RootL.mk5 {τ : Tys} {m : Fr}   (s : Sat [] m) : (Lp.unit).own [] () m := by
  exact rfl
theorem RootL.mk4 {τ : Tys} {m : Fr} {x4 : List UInt8} {v4 : Value}  (s : Sat [LentQ Rp.u8 τ.u8 (markB 1) v4 x4] m) : (Lp.prod (Lp.flat Rp.u8 τ.u8 (markB 1)) (Lp.unit)).own [v4] (x4, ()) m := by
  obtain ⟨k1, k2, dj, s1, s2, o, st⟩ := s
  exact ⟨[v4], [], rfl, k1, k2, dj, s1, s2, ⟨v4, rfl, o⟩, k2, Fr.emp, Fr.disj_symm (Fr.emp_disj _), Fr.sub_refl _, Fr.emp_sub _, RootL.mk5 (τ := τ)  st, trivial⟩
theorem RootL.mk3 {τ : Tys} {m : Fr} {x3 : List UInt8} {v3 : Value} {x4 : List UInt8} {v4 : Value}  (s : Sat [LentQ Rp.u8 τ.u8 (markB 1) v3 x3, LentQ Rp.u8 τ.u8 (markB 1) v4 x4] m) : (Lp.prod (Lp.flat Rp.u8 τ.u8 (markB 1)) (Lp.prod (Lp.flat Rp.u8 τ.u8 (markB 1)) (Lp.unit))).own [v3, v4] (x3, x4, ()) m := by
  obtain ⟨k1, k2, dj, s1, s2, o, st⟩ := s
  exact ⟨[v3], [v4], rfl, k1, k2, dj, s1, s2, ⟨v3, rfl, o⟩, k2, Fr.emp, Fr.disj_symm (Fr.emp_disj _), Fr.sub_refl _, Fr.emp_sub _, RootL.mk4 (τ := τ)  st, trivial⟩
theorem RootL.mk2 {τ : Tys} {m : Fr} {x2 : Int} {x3 : List UInt8} {v3 : Value} {x4 : List UInt8} {v4 : Value} (h2 : InI64 x2) (s : Sat [LentQ Rp.u8 τ.u8 (markB 1) v3 x3, LentQ Rp.u8 τ.u8 (markB 1) v4 x4] m) : (Lp.prod (Lp.pure Rp.i64) (Lp.prod (Lp.flat Rp.u8 τ.u8 (markB 1)) (Lp.prod (Lp.flat Rp.u8 τ.u8 (markB 1)) (Lp.unit)))).own [.int .i64 x2, v3, v4] (x2, x3, x4, ()) m := by
  exact Lp.own_pure_prod (T := Rp.i64) (c := [.int .i64 x2]) ⟨rfl, h2⟩ (RootL.mk3 (τ := τ)  s)
theorem RootL.mk1 {τ : Tys} {m : Fr} {x1 : Int} {x2 : Int} {x3 : List UInt8} {v3 : Value} {x4 : List UInt8} {v4 : Value} (h1 : InI64 x1) (h2 : InI64 x2) (s : Sat [LentQ Rp.u8 τ.u8 (markB 1) v3 x3, LentQ Rp.u8 τ.u8 (markB 1) v4 x4] m) : (Lp.prod (Lp.pure Rp.i64) (Lp.prod (Lp.pure Rp.i64) (Lp.prod (Lp.flat Rp.u8 τ.u8 (markB 1)) (Lp.prod (Lp.flat Rp.u8 τ.u8 (markB 1)) (Lp.unit))))).own [.int .i64 x1, .int .i64 x2, v3, v4] (x1, x2, x3, x4, ()) m := by
  exact Lp.own_pure_prod (T := Rp.i64) (c := [.int .i64 x1]) ⟨rfl, h1⟩ (RootL.mk2 (τ := τ) h2 s)
theorem RootL.mk {τ : Tys} {m : Fr} {x0 : Int} {x1 : Int} {x2 : Int} {x3 : List UInt8} {v3 : Value} {x4 : List UInt8} {v4 : Value} (h0 : InI64 x0) (h1 : InI64 x1) (h2 : InI64 x2) (s : Sat [LentQ Rp.u8 τ.u8 (markB 1) v3 x3, LentQ Rp.u8 τ.u8 (markB 1) v4 x4] m) : (Lp.prod (Lp.pure Rp.i64) (Lp.prod (Lp.pure Rp.i64) (Lp.prod (Lp.pure Rp.i64) (Lp.prod (Lp.flat Rp.u8 τ.u8 (markB 1)) (Lp.prod (Lp.flat Rp.u8 τ.u8 (markB 1)) (Lp.unit)))))).own [.int .i64 x0, .int .i64 x1, .int .i64 x2, v3, v4] (x0, x1, x2, x3, x4, ()) m := by
  exact Lp.own_pure_prod (T := Rp.i64) (c := [.int .i64 x0]) ⟨rfl, h0⟩ (RootL.mk1 (τ := τ) h1 h2 s)
theorem RootL.opn {τ : Tys} {h : Fr} {cs : List Value} {x : RootT} (r : (RootL τ).rd h cs x) : ∃ v3 v4, cs = [.int .i64 x.1, .int .i64 x.2.1, .int .i64 x.2.2.1, v3, v4] ∧ InI64 x.1 ∧ InI64 x.2.1 ∧ InI64 x.2.2.1 ∧ LentQA Rp.u8 (markB 1) h v3 x.2.2.2.1 ∧ LentQA Rp.u8 (markB 1) h v4 x.2.2.2.2.1 := by
  obtain ⟨c0, d0, rfl, r0, r⟩ := r
  obtain ⟨c1, d1, rfl, r1, r⟩ := r
  obtain ⟨c2, d2, rfl, r2, r⟩ := r
  obtain ⟨c3, d3, rfl, r3, r⟩ := r
  obtain ⟨c4, d4, rfl, r4, r⟩ := r
  obtain rfl : d4 = [] := r
  obtain ⟨rfl, h0⟩ := r0
  obtain ⟨rfl, h1⟩ := r1
  obtain ⟨rfl, h2⟩ := r2
  obtain ⟨v3, rfl, h3⟩ := r3
  obtain ⟨v4, rfl, h4⟩ := r4
  exact ⟨v3, v4, rfl, h0, h1, h2, h3, h4⟩
def RootOk (N : Nat) (x : RootT) : Prop := x.2.2.2.1.length ≤ N ∧ x.2.2.2.2.1.length ≤ N
theorem RootOk.mono {N M : Nat} {x : RootT} (hM : N ≤ M) (h : RootOk N x) : RootOk M x := by
  obtain ⟨h0, h1⟩ := h
  exact ⟨Nat.le_trans h0 hM, Nat.le_trans h1 hM⟩
/-! buttress/api.Evidence -/
abbrev EvdT : Type := RootT × RootT × Unit
abbrev EvdRp : Rp EvdT := Rp.prod RootRp (Rp.prod RootRp (Rp.unit))
def markEvd (k i : Int) : EvdT := ((0, 0, markZ k i, [], [], ()), (0, 0, 0, [], [], ()), ())
theorem EvdRp.open {h : Fr} {cs : List Value} {x : EvdT} (r : EvdRp.rel h cs x) : ∃ v3 v4 v8 v9, cs = [.int .i64 x.1.1, .int .i64 x.1.2.1, .int .i64 x.1.2.2.1, v3, v4, .int .i64 x.2.1.1, .int .i64 x.2.1.2.1, .int .i64 x.2.1.2.2.1, v8, v9] ∧ InI64 x.1.1 ∧ InI64 x.1.2.1 ∧ InI64 x.1.2.2.1 ∧ Arr Rp.u8 h v3 x.1.2.2.2.1 ∧ Arr Rp.u8 h v4 x.1.2.2.2.2.1 ∧ InI64 x.2.1.1 ∧ InI64 x.2.1.2.1 ∧ InI64 x.2.1.2.2.1 ∧ Arr Rp.u8 h v8 x.2.1.2.2.2.1 ∧ Arr Rp.u8 h v9 x.2.1.2.2.2.2.1 := by
  obtain ⟨c0, d0, rfl, r0, r⟩ := r
  obtain ⟨c1, d1, rfl, r1, r⟩ := r
  obtain rfl : d1 = [] := r
  obtain ⟨v3, v4, rfl, h0, h1, h2, h3, h4⟩ := RootRp.open r0
  obtain ⟨v8, v9, rfl, h5, h6, h7, h8, h9⟩ := RootRp.open r1
  exact ⟨v3, v4, v8, v9, rfl, h0, h1, h2, h3, h4, h5, h6, h7, h8, h9⟩
theorem EvdRp.sh {h : Fr} {cs : List Value} {x : EvdT} (r : EvdRp.rel h cs x) : ∃ a3 a4 a8 a9 c3 c4 c8 c9, cs = [.int .i64 x.1.1, .int .i64 x.1.2.1, .int .i64 x.1.2.2.1, .slice a3 x.1.2.2.2.1.length c3, .slice a4 x.1.2.2.2.2.1.length c4, .int .i64 x.2.1.1, .int .i64 x.2.1.2.1, .int .i64 x.2.1.2.2.1, .slice a8 x.2.1.2.2.2.1.length c8, .slice a9 x.2.1.2.2.2.2.1.length c9] ∧ InI64 x.1.1 ∧ InI64 x.1.2.1 ∧ InI64 x.1.2.2.1 ∧ Arr Rp.u8 h (.slice a3 x.1.2.2.2.1.length c3) x.1.2.2.2.1 ∧ Arr Rp.u8 h (.slice a4 x.1.2.2.2.2.1.length c4) x.1.2.2.2.2.1 ∧ InI64 x.2.1.1 ∧ InI64 x.2.1.2.1 ∧ InI64 x.2.1.2.2.1 ∧ Arr Rp.u8 h (.slice a8 x.2.1.2.2.2.1.length c8) x.2.1.2.2.2.1 ∧ Arr Rp.u8 h (.slice a9 x.2.1.2.2.2.2.1.length c9) x.2.1.2.2.2.2.1 := by
  obtain ⟨v3, v4, v8, v9, rfl, h0, h1, h2, h3, h4, h5, h6, h7, h8, h9⟩ := EvdRp.open r
  obtain ⟨a3, c3, rfl⟩ := h3.shape
  obtain ⟨a4, c4, rfl⟩ := h4.shape
  obtain ⟨a8, c8, rfl⟩ := h8.shape
  obtain ⟨a9, c9, rfl⟩ := h9.shape
  exact ⟨a3, a4, a8, a9, c3, c4, c8, c9, rfl, h0, h1, h2, h3, h4, h5, h6, h7, h8, h9⟩
theorem EvdRp.mk {h : Fr} {x0 : Int} {x1 : Int} {x2 : Int} {x3 : List UInt8} {v3 : Value} {x4 : List UInt8} {v4 : Value} {x5 : Int} {x6 : Int} {x7 : Int} {x8 : List UInt8} {v8 : Value} {x9 : List UInt8} {v9 : Value} (h0 : InI64 x0) (h1 : InI64 x1) (h2 : InI64 x2) (h3 : Arr Rp.u8 h v3 x3) (h4 : Arr Rp.u8 h v4 x4) (h5 : InI64 x5) (h6 : InI64 x6) (h7 : InI64 x7) (h8 : Arr Rp.u8 h v8 x8) (h9 : Arr Rp.u8 h v9 x9) : EvdRp.rel h [.int .i64 x0, .int .i64 x1, .int .i64 x2, v3, v4, .int .i64 x5, .int .i64 x6, .int .i64 x7, v8, v9] ((x0, x1, x2, x3, x4, ()), (x5, x6, x7, x8, x9, ()), ()) :=
  ⟨[.int .i64 x0, .int .i64 x1, .int .i64 x2, v3, v4], [.int .i64 x5, .int .i64 x6, .int .i64 x7, v8, v9], rfl, (RootRp.mk h0 h1 h2 h3 h4), ⟨[.int .i64 x5, .int .i64 x6, .int .i64 x7, v8, v9], [], rfl, (RootRp.mk h5 h6 h7 h8 h9), rfl⟩⟩
theorem EvdRp.k_eq : EvdRp.k = 10 := rfl
abbrev EvdG (τ : Tys) : Gp EvdT := Gp.prod (RootG τ) (Gp.prod (RootG τ) (Gp.unit))
abbrev EvdL (τ : Tys) : Lp EvdT := Lp.prod (RootL τ) (Lp.prod (RootL τ) (Lp.unit))
theorem EvdG.open2 {τ : Tys} {cs : List Value} {x : Unit} {m : Fr} (r : (Gp.unit).own cs x m) : cs = [] ∧ Sat [] m := by
  exact ⟨r, trivial⟩
theorem EvdG.open1 {τ : Tys} {cs : List Value} {x : RootT × Unit} {m : Fr} (r : (Gp.prod (RootG τ) (Gp.unit)).own cs x m) : ∃ v8 v9, cs = [.int .i64 x.1.1, .int .i64 x.1.2.1, .int .i64 x.1.2.2.1, v8, v9] ∧ InI64 x.1.1 ∧ InI64 x.1.2.1 ∧ InI64 x.1.2.2.1 ∧ Sat [OwnP Rp.u8 τ.u8 v8 x.1.2.2.2.1, OwnP Rp.u8 τ.u8 v9 x.1.2.2.2.2.1] m := by
  obtain ⟨c, d, rfl, k1, k2, dj, s1, s2, o, k3, k4, _, t1, _, r, _⟩ := r
  obtain ⟨rfl, st⟩ := EvdG.open2 (τ := τ) r
  obtain ⟨u3, u4, rfl, g0, g1, g2, st2⟩ := RootG.open (τ := τ) o
  exact ⟨u3, u4, rfl, g0, g1, g2, Sat.mono (Fr.add_sub s1 (Fr.sub_trans t1 s2)) (Sat.append (Fr.disj_sub dj (Fr.sub_refl _) t1) st2 st)⟩
theorem EvdG.open {τ : Tys} {cs : List Value} {x : RootT × RootT × Unit} {m : Fr} (r : (Gp.prod (RootG τ) (Gp.prod (RootG τ) (Gp.unit))).own cs x m) : ∃ v3 v4 v8 v9, cs = [.int .i64 x.1.1, .int .i64 x.1.2.1, .int .i64 x.1.2.2.1, v3, v4, .int .i64 x.2.1.1, .int .i64 x.2.1.2.1, .int .i64 x.2.1.2.2.1, v8, v9] ∧ InI64 x.1.1 ∧ InI64 x.1.2.1 ∧ InI64 x.1.2.2.1 ∧ InI64 x.2.1.1 ∧ InI64 x.2.1.2.1 ∧ InI64 x.2.1.2.2.1 ∧ Sat [OwnP Rp.u8 τ.u8 v3 x.1.2.2.2.1, OwnP Rp.u8 τ.u8 v4 x.1.2.2.2.2.1, OwnP Rp.u8 τ.u8 v8 x.2.1.2.2.2.1, OwnP Rp.u8 τ.u8 v9 x.2.1.2.2.2.2.1] m := by
  obtain ⟨c, d, rfl, k1, k2, dj, s1, s2, o, k3, k4, _, t1, _, r, _⟩ := r
  obtain ⟨v8, v9, rfl, h5, h6, h7, st⟩ := EvdG.open1 (τ := τ) r
  obtain ⟨u3, u4, rfl, g0, g1, g2, st2⟩ := RootG.open (τ := τ) o
  exact ⟨u3, u4, v8, v9, rfl, g0, g1, g2, h5, h6, h7, Sat.mono (Fr.add_sub s1 (Fr.sub_trans t1 s2)) (Sat.append (Fr.disj_sub dj (Fr.sub_refl _) t1) st2 st)⟩
theorem EvdG.mk2 {τ : Tys} {m : Fr}   (s : Sat [] m) : (Gp.unit).own [] () m := by
  exact rfl
theorem EvdG.mk1 {τ : Tys} {m : Fr} {x5 : Int} {x6 : Int} {x7 : Int} {x8 : List UInt8} {v8 : Value} {x9 : List UInt8} {v9 : Value} (h5 : InI64 x5) (h6 : InI64 x6) (h7 : InI64 x7) (s : Sat [OwnP Rp.u8 τ.u8 v8 x8, OwnP Rp.u8 τ.u8 v9 x9] m) : (Gp.prod (RootG τ) (Gp.unit)).own [.int .i64 x5, .int .i64 x6, .int .i64 x7, v8, v9] ((x5, x6, x7, x8, x9, ()), ()) m := by
  obtain ⟨k1, k2, dj, s1, s2, o, st⟩ := Sat.split (η := [OwnP Rp.u8 τ.u8 v8 x8, OwnP Rp.u8 τ.u8 v9 x9]) s
  exact ⟨[.int .i64 x5, .int .i64 x6, .int .i64 x7, v8, v9], [], rfl, k1, k2, dj, s1, s2, RootG.mk (τ := τ) h5 h6 h7 o, k2, Fr.emp, Fr.disj_symm (Fr.emp_disj _), Fr.sub_refl _, Fr.emp_sub _, EvdG.mk2 (τ := τ)  st, trivial⟩
theorem EvdG.mk {τ : Tys} {m : Fr} {x0 : Int} {x1 : Int} {x2 : Int} {x3 : List UInt8} {v3 : Value} {x4 : List UInt8} {v4 : Value} {x5 : Int} {x6 : Int} {x7 : Int} {x8 : List UInt8} {v8 : Value} {x9 : List UInt8} {v9 : Value} (h0 : InI64 x0) (h1 : InI64 x1) (h2 : InI64 x2) (h5 : InI64 x5) (h6 : InI64 x6) (h7 : InI64 x7) (s : Sat [OwnP Rp.u8 τ.u8 v3 x3, OwnP Rp.u8 τ.u8 v4 x4, OwnP Rp.u8 τ.u8 v8 x8, OwnP Rp.u8 τ.u8 v9 x9] m) : (Gp.prod (RootG τ) (Gp.prod (RootG τ) (Gp.unit))).own [.int .i64 x0, .int .i64 x1, .int .i64 x2, v3, v4, .int .i64 x5, .int .i64 x6, .int .i64 x7, v8, v9] ((x0, x1, x2, x3, x4, ()), (x5, x6, x7, x8, x9, ()), ()) m := by
  obtain ⟨k1, k2, dj, s1, s2, o, st⟩ := Sat.split (η := [OwnP Rp.u8 τ.u8 v3 x3, OwnP Rp.u8 τ.u8 v4 x4]) s
  exact ⟨[.int .i64 x0, .int .i64 x1, .int .i64 x2, v3, v4], [.int .i64 x5, .int .i64 x6, .int .i64 x7, v8, v9], rfl, k1, k2, dj, s1, s2, RootG.mk (τ := τ) h0 h1 h2 o, k2, Fr.emp, Fr.disj_symm (Fr.emp_disj _), Fr.sub_refl _, Fr.emp_sub _, EvdG.mk1 (τ := τ) h5 h6 h7 st, trivial⟩
theorem EvdL.open2 {τ : Tys} {cs : List Value} {x : Unit} {m : Fr} (r : (Lp.unit).own cs x m) : cs = [] ∧ Sat [] m := by
  exact ⟨r, trivial⟩
theorem EvdL.open1 {τ : Tys} {cs : List Value} {x : RootT × Unit} {m : Fr} (r : (Lp.prod (RootL τ) (Lp.unit)).own cs x m) : ∃ v8 v9, cs = [.int .i64 x.1.1, .int .i64 x.1.2.1, .int .i64 x.1.2.2.1, v8, v9] ∧ InI64 x.1.1 ∧ InI64 x.1.2.1 ∧ InI64 x.1.2.2.1 ∧ Sat [LentQ Rp.u8 τ.u8 (markB 1) v8 x.1.2.2.2.1, LentQ Rp.u8 τ.u8 (markB 1) v9 x.1.2.2.2.2.1] m := by
  obtain ⟨c, d, rfl, k1, k2, dj, s1, s2, o, k3, k4, _, t1, _, r, _⟩ := r
  obtain ⟨rfl, st⟩ := EvdL.open2 (τ := τ) r
  obtain ⟨u3, u4, rfl, g0, g1, g2, st2⟩ := RootL.open (τ := τ) o
  exact ⟨u3, u4, rfl, g0, g1, g2, Sat.mono (Fr.add_sub s1 (Fr.sub_trans t1 s2)) (Sat.append (Fr.disj_sub dj (Fr.sub_refl _) t1) st2 st)⟩
theorem EvdL.open {τ : Tys} {cs : List Value} {x : RootT × RootT × Unit} {m : Fr} (r : (Lp.prod (RootL τ) (Lp.prod (RootL τ) (Lp.unit))).own cs x m) : ∃ v3 v4 v8 v9, cs = [.int .i64 x.1.1, .int .i64 x.1.2.1, .int .i64 x.1.2.2.1, v3, v4, .int .i64 x.2.1.1, .int .i64 x.2.1.2.1, .int .i64 x.2.1.2.2.1, v8, v9] ∧ InI64 x.1.1 ∧ InI64 x.1.2.1 ∧ InI64 x.1.2.2.1 ∧ InI64 x.2.1.1 ∧ InI64 x.2.1.2.1 ∧ InI64 x.2.1.2.2.1 ∧ Sat [LentQ Rp.u8 τ.u8 (markB 1) v3 x.1.2.2.2.1, LentQ Rp.u8 τ.u8 (markB 1) v4 x.1.2.2.2.2.1, LentQ Rp.u8 τ.u8 (markB 1) v8 x.2.1.2.2.2.1, LentQ Rp.u8 τ.u8 (markB 1) v9 x.2.1.2.2.2.2.1] m := by
  obtain ⟨c, d, rfl, k1, k2, dj, s1, s2, o, k3, k4, _, t1, _, r, _⟩ := r
  obtain ⟨v8, v9, rfl, h5, h6, h7, st⟩ := EvdL.open1 (τ := τ) r
  obtain ⟨u3, u4, rfl, g0, g1, g2, st2⟩ := RootL.open (τ := τ) o
  exact ⟨u3, u4, v8, v9, rfl, g0, g1, g2, h5, h6, h7, Sat.mono (Fr.add_sub s1 (Fr.sub_trans t1 s2)) (Sat.append (Fr.disj_sub dj (Fr.sub_refl _) t1) st2 st)⟩
theorem EvdL.mk2 {τ : Tys} {m : Fr}   (s : Sat [] m) : (Lp.unit).own [] () m := by
  exact rfl
theorem EvdL.mk1 {τ : Tys} {m : Fr} {x5 : Int} {x6 : Int} {x7 : Int} {x8 : List UInt8} {v8 : Value} {x9 : List UInt8} {v9 : Value} (h5 : InI64 x5) (h6 : InI64 x6) (h7 : InI64 x7) (s : Sat [LentQ Rp.u8 τ.u8 (markB 1) v8 x8, LentQ Rp.u8 τ.u8 (markB 1) v9 x9] m) : (Lp.prod (RootL τ) (Lp.unit)).own [.int .i64 x5, .int .i64 x6, .int .i64 x7, v8, v9] ((x5, x6, x7, x8, x9, ()), ()) m := by
  obtain ⟨k1, k2, dj, s1, s2, o, st⟩ := Sat.split (η := [LentQ Rp.u8 τ.u8 (markB 1) v8 x8, LentQ Rp.u8 τ.u8 (markB 1) v9 x9]) s
  exact ⟨[.int .i64 x5, .int .i64 x6, .int .i64 x7, v8, v9], [], rfl, k1, k2, dj, s1, s2, RootL.mk (τ := τ) h5 h6 h7 o, k2, Fr.emp, Fr.disj_symm (Fr.emp_disj _), Fr.sub_refl _, Fr.emp_sub _, EvdL.mk2 (τ := τ)  st, trivial⟩
theorem EvdL.mk {τ : Tys} {m : Fr} {x0 : Int} {x1 : Int} {x2 : Int} {x3 : List UInt8} {v3 : Value} {x4 : List UInt8} {v4 : Value} {x5 : Int} {x6 : Int} {x7 : Int} {x8 : List UInt8} {v8 : Value} {x9 : List UInt8} {v9 : Value} (h0 : InI64 x0) (h1 : InI64 x1) (h2 : InI64 x2) (h5 : InI64 x5) (h6 : InI64 x6) (h7 : InI64 x7) (s : Sat [LentQ Rp.u8 τ.u8 (markB 1) v3 x3, LentQ Rp.u8 τ.u8 (markB 1) v4 x4, LentQ Rp.u8 τ.u8 (markB 1) v8 x8, LentQ Rp.u8 τ.u8 (markB 1) v9 x9] m) : (Lp.prod (RootL τ) (Lp.prod (RootL τ) (Lp.unit))).own [.int .i64 x0, .int .i64 x1, .int .i64 x2, v3, v4, .int .i64 x5, .int .i64 x6, .int .i64 x7, v8, v9] ((x0, x1, x2, x3, x4, ()), (x5, x6, x7, x8, x9, ()), ()) m := by
  obtain ⟨k1, k2, dj, s1, s2, o, st⟩ := Sat.split (η := [LentQ Rp.u8 τ.u8 (markB 1) v3 x3, LentQ Rp.u8 τ.u8 (markB 1) v4 x4]) s
  exact ⟨[.int .i64 x0, .int .i64 x1, .int .i64 x2, v3, v4], [.int .i64 x5, .int .i64 x6, .int .i64 x7, v8, v9], rfl, k1, k2, dj, s1, s2, RootL.mk (τ := τ) h0 h1 h2 o, k2, Fr.emp, Fr.disj_symm (Fr.emp_disj _), Fr.sub_refl _, Fr.emp_sub _, EvdL.mk1 (τ := τ) h5 h6 h7 st, trivial⟩
theorem EvdL.opn {τ : Tys} {h : Fr} {cs : List Value} {x : EvdT} (r : (EvdL τ).rd h cs x) : ∃ v3 v4 v8 v9, cs = [.int .i64 x.1.1, .int .i64 x.1.2.1, .int .i64 x.1.2.2.1, v3, v4, .int .i64 x.2.1.1, .int .i64 x.2.1.2.1, .int .i64 x.2.1.2.2.1, v8, v9] ∧ InI64 x.1.1 ∧ InI64 x.1.2.1 ∧ InI64 x.1.2.2.1 ∧ LentQA Rp.u8 (markB 1) h v3 x.1.2.2.2.1 ∧ LentQA Rp.u8 (markB 1) h v4 x.1.2.2.2.2.1 ∧ InI64 x.2.1.1 ∧ InI64 x.2.1.2.1 ∧ InI64 x.2.1.2.2.1 ∧ LentQA Rp.u8 (markB 1) h v8 x.2.1.2.2.2.1 ∧ LentQA Rp.u8 (markB 1) h v9 x.2.1.2.2.2.2.1 := by
  obtain ⟨c0, d0, rfl, r0, r⟩ := r
  obtain ⟨c1, d1, rfl, r1, r⟩ := r
  obtain rfl : d1 = [] := r
  obtain ⟨v3, v4, rfl, h0, h1, h2, h3, h4⟩ := RootL.opn (τ := τ) r0
  obtain ⟨v8, v9, rfl, h5, h6, h7, h8, h9⟩ := RootL.opn (τ := τ) r1
  exact ⟨v3, v4, v8, v9, rfl, h0, h1, h2, h3, h4, h5, h6, h7, h8, h9⟩
def EvdOk (N : Nat) (x : EvdT) : Prop := x.1.2.2.2.1.length ≤ N ∧ x.1.2.2.2.2.1.length ≤ N ∧ x.2.1.2.2.2.1.length ≤ N ∧ x.2.1.2.2.2.2.1.length ≤ N
theorem EvdOk.mono {N M : Nat} {x : EvdT} (hM : N ≤ M) (h : EvdOk N x) : EvdOk M x := by
  obtain ⟨h0, h1, h2, h3⟩ := h
  exact ⟨Nat.le_trans h0 hM, Nat.le_trans h1 hM, Nat.le_trans h2 hM, Nat.le_trans h3 hM⟩
/-! buttress/api.Frame -/
abbrev FrmT : Type := UInt8 × Int × Int × (List UInt8) × (List UInt8) × RootT × (List UInt8) × PrfT × NodeT × (List RecT) × EvdT × Int × Unit
abbrev FrmRp : Rp FrmT := Rp.prod Rp.u8 (Rp.prod Rp.i64 (Rp.prod Rp.i64 (Rp.prod Rp.str (Rp.prod Rp.str (Rp.prod RootRp (Rp.prod (Rp.slice Rp.u8) (Rp.prod PrfRp (Rp.prod NodeRp (Rp.prod (Rp.slice RecRp) (Rp.prod EvdRp (Rp.prod Rp.i64 (Rp.unit))))))))))))
def markFrm (k i : Int) : FrmT := (0, markZ k i, 0, [], [], (0, 0, 0, [], [], ()), [], ([], [], ()), (0, [], [], [], ()), [], ((0, 0, 0, [], [], ()), (0, 0, 0, [], [], ()), ()), 0, ())
theorem FrmRp.open {h : Fr} {cs : List Value} {x : FrmT} (r : FrmRp.rel h cs x) : ∃ v8 v9 v10 v11 v12 v14 v15 v16 v17 v21 v22 v26 v27, cs = [byteV x.1, .int .i64 x.2.1, .int .i64 x.2.2.1, .string (str x.2.2.2.1), .string (str x.2.2.2.2.1), .int .i64 x.2.2.2.2.2.1.1, .int .i64 x.2.2.2.2.2.1.2.1, .int .i64 x.2.2.2.2.2.1.2.2.1, v8, v9, v10, v11, v12, byteV x.2.2.2.2.2.2.2.2.1.1, v14, v15, v16, v17, .int .i64 x.2.2.2.2.2.2.2.2.2.2.1.1.1, .int .i64 x.2.2.2.2.2.2.2.2.2.2.1.1.2.1, .int .i64 x.2.2.2.2.2.2.2.2.2.2.1.1.2.2.1, v21, v22, .int .i64 x.2.2.2.2.2.2.2.2.2.2.1.2.1.1, .int .i64 x.2.2.2.2.2.2.2.2.2.2.1.2.1.2.1, .int .i64 x.2.2.2.2.2.2.2.2.2.2.1.2.1.2.2.1, v26, v27, .int .i64 x.2.2.2.2.2.2.2.2.2.2.2.1] ∧ InI64 x.2.1 ∧ InI64 x.2.2.1 ∧ x.2.2.2.1.length ≤ 9223372036854775807 ∧ x.2.2.2.2.1.length ≤ 9223372036854775807 ∧ InI64 x.2.2.2.2.2.1.1 ∧ InI64 x.2.2.2.2.2.1.2.1 ∧ InI64 x.2.2.2.2.2.1.2.2.1 ∧ Arr Rp.u8 h v8 x.2.2.2.2.2.1.2.2.2.1 ∧ Arr Rp.u8 h v9 x.2.2.2.2.2.1.2.2.2.2.1 ∧ Arr Rp.u8 h v10 x.2.2.2.2.2.2.1 ∧ Arr (Rp.slice Rp.u8) h v11 x.2.2.2.2.2.2.2.1.1 ∧ Arr StubRp h v12 x.2.2.2.2.2.2.2.1.2.1 ∧ Arr Rp.u8 h v14 x.2.2.2.2.2.2.2.2.1.2.1 ∧ Arr Rp.u8 h v15 x.2.2.2.2.2.2.2.2.1.2.2.1 ∧ Arr LeafRp h v16 x.2.2.2.2.2.2.2.2.1.2.2.2.1 ∧ Arr RecRp h v17 x.2.2.2.2.2.2.2.2.2.1 ∧ InI64 x.2.2.2.2.2.2.2.2.2.2.1.1.1 ∧ InI64 x.2.2.2.2.2.2.2.2.2.2.1.1.2.1 ∧ InI64 x.2.2.2.2.2.2.2.2.2.2.1.1.2.2.1 ∧ Arr Rp.u8 h v21 x.2.2.2.2.2.2.2.2.2.2.1.1.2.2.2.1 ∧ Arr Rp.u8 h v22 x.2.2.2.2.2.2.2.2.2.2.1.1.2.2.2.2.1 ∧ InI64 x.2.2.2.2.2.2.2.2.2.2.1.2.1.1 ∧ InI64 x.2.2.2.2.2.2.2.2.2.2.1.2.1.2.1 ∧ InI64 x.2.2.2.2.2.2.2.2.2.2.1.2.1.2.2.1 ∧ Arr Rp.u8 h v26 x.2.2.2.2.2.2.2.2.2.2.1.2.1.2.2.2.1 ∧ Arr Rp.u8 h v27 x.2.2.2.2.2.2.2.2.2.2.1.2.1.2.2.2.2.1 ∧ InI64 x.2.2.2.2.2.2.2.2.2.2.2.1 := by
  obtain ⟨c0, d0, rfl, r0, r⟩ := r
  obtain ⟨c1, d1, rfl, r1, r⟩ := r
  obtain ⟨c2, d2, rfl, r2, r⟩ := r
  obtain ⟨c3, d3, rfl, r3, r⟩ := r
  obtain ⟨c4, d4, rfl, r4, r⟩ := r
  obtain ⟨c5, d5, rfl, r5, r⟩ := r
  obtain ⟨c6, d6, rfl, r6, r⟩ := r
  obtain ⟨c7, d7, rfl, r7, r⟩ := r
  obtain ⟨c8, d8, rfl, r8, r⟩ := r
  obtain ⟨c9, d9, rfl, r9, r⟩ := r
  obtain ⟨c10, d10, rfl, r10, r⟩ := r
  obtain ⟨c11, d11, rfl, r11, r⟩ := r
  obtain rfl : d11 = [] := r
  obtain rfl : c0 = [byteV x.1] := r0
  obtain ⟨rfl, h1⟩ := r1
  obtain ⟨rfl, h2⟩ := r2
  obtain ⟨rfl, h3⟩ := r3
  obtain ⟨rfl, h4⟩ := r4
  obtain ⟨v8, v9, rfl, h5, h6, h7, h8, h9⟩ := RootRp.open r5
  obtain ⟨v10, rfl, h10⟩ := r6
  obtain ⟨v11, v12, rfl, h11, h12⟩ := PrfRp.open r7
  obtain ⟨v14, v15, v16, rfl, h14, h15, h16⟩ := NodeRp.open r8
  obtain ⟨v17, rfl, h17⟩ := r9
  obtain ⟨v21, v22, v26, v27, rfl, h18, h19, h20, h21, h22, h23, h24, h25, h26, h27⟩ := EvdRp.open r10
  obtain ⟨rfl, h28⟩ := r11
  exact ⟨v8, v9, v10, v11, v12, v14, v15, v16, v17, v21, v22, v26, v27, rfl, h1, h2, h3, h4, h5, h6, h7, h8, h9, h10, h11, h12, h14, h15, h16, h17, h18, h19, h20, h21, h22, h23, h24, h25, h26, h27, h28⟩
theorem FrmRp.sh {h : Fr} {cs : List Value} {x : FrmT} (r : FrmRp.rel h cs x) : ∃ a8 a9 a10 a11 a12 a14 a15 a16 a17 a21 a22 a26 a27 c8 c9 c10 c11 c12 c14 c15 c16 c17 c21 c22 c26 c27, cs = [byteV x.1, .int .i64 x.2.1, .int .i64 x.2.2.1, .string (str x.2.2.2.1), .string (str x.2.2.2.2.1), .int .i64 x.2.2.2.2.2.1.1, .int .i64 x.2.2.2.2.2.1.2.1, .int .i64 x.2.2.2.2.2.1.2.2.1, .slice a8 x.2.2.2.2.2.1.2.2.2.1.length c8, .slice a9 x.2.2.2.2.2.1.2.2.2.2.1.length c9, .slice a10 x.2.2.2.2.2.2.1.length c10, .slice a11 x.2.2.2.2.2.2.2.1.1.length c11, .slice a12 x.2.2.2.2.2.2.2.1.2.1.length c12, byteV x.2.2.2.2.2.2.2.2.1.1, .slice a14 x.2.2.2.2.2.2.2.2.1.2.1.length c14, .slice a15 x.2.2.2.2.2.2.2.2.1.2.2.1.length c15, .slice a16 x.2.2.2.2.2.2.2.2.1.2.2.2.1.length c16, .slice a17 x.2.2.2.2.2.2.2.2.2.1.length c17, .int .i64 x.2.2.2.2.2.2.2.2.2.2.1.1.1, .int .i64 x.2.2.2.2.2.2.2.2.2.2.1.1.2.1, .int .i64 x.2.2.2.2.2.2.2.2.2.2.1.1.2.2.1, .slice a21 x.2.2.2.2.2.2.2.2.2.2.1.1.2.2.2.1.length c21, .slice a22 x.2.2.2.2.2.2.2.2.2.2.1.1.2.2.2.2.1.length c22, .int .i64 x.2.2.2.2.2.2.2.2.2.2.1.2.1.1, .int .i64 x.2.2.2.2.2.2.2.2.2.2.1.2.1.2.1, .int .i64 x.2.2.2.2.2.2.2.2.2.2.1.2.1.2.2.1, .slice a26 x.2.2.2.2.2.2.2.2.2.2.1.2.1.2.2.2.1.length c26, .slice a27 x.2.2.2.2.2.2.2.2.2.2.1.2.1.2.2.2.2.1.length c27, .int .i64 x.2.2.2.2.2.2.2.2.2.2.2.1] ∧ InI64 x.2.1 ∧ InI64 x.2.2.1 ∧ x.2.2.2.1.length ≤ 9223372036854775807 ∧ x.2.2.2.2.1.length ≤ 9223372036854775807 ∧ InI64 x.2.2.2.2.2.1.1 ∧ InI64 x.2.2.2.2.2.1.2.1 ∧ InI64 x.2.2.2.2.2.1.2.2.1 ∧ Arr Rp.u8 h (.slice a8 x.2.2.2.2.2.1.2.2.2.1.length c8) x.2.2.2.2.2.1.2.2.2.1 ∧ Arr Rp.u8 h (.slice a9 x.2.2.2.2.2.1.2.2.2.2.1.length c9) x.2.2.2.2.2.1.2.2.2.2.1 ∧ Arr Rp.u8 h (.slice a10 x.2.2.2.2.2.2.1.length c10) x.2.2.2.2.2.2.1 ∧ Arr (Rp.slice Rp.u8) h (.slice a11 x.2.2.2.2.2.2.2.1.1.length c11) x.2.2.2.2.2.2.2.1.1 ∧ Arr StubRp h (.slice a12 x.2.2.2.2.2.2.2.1.2.1.length c12) x.2.2.2.2.2.2.2.1.2.1 ∧ Arr Rp.u8 h (.slice a14 x.2.2.2.2.2.2.2.2.1.2.1.length c14) x.2.2.2.2.2.2.2.2.1.2.1 ∧ Arr Rp.u8 h (.slice a15 x.2.2.2.2.2.2.2.2.1.2.2.1.length c15) x.2.2.2.2.2.2.2.2.1.2.2.1 ∧ Arr LeafRp h (.slice a16 x.2.2.2.2.2.2.2.2.1.2.2.2.1.length c16) x.2.2.2.2.2.2.2.2.1.2.2.2.1 ∧ Arr RecRp h (.slice a17 x.2.2.2.2.2.2.2.2.2.1.length c17) x.2.2.2.2.2.2.2.2.2.1 ∧ InI64 x.2.2.2.2.2.2.2.2.2.2.1.1.1 ∧ InI64 x.2.2.2.2.2.2.2.2.2.2.1.1.2.1 ∧ InI64 x.2.2.2.2.2.2.2.2.2.2.1.1.2.2.1 ∧ Arr Rp.u8 h (.slice a21 x.2.2.2.2.2.2.2.2.2.2.1.1.2.2.2.1.length c21) x.2.2.2.2.2.2.2.2.2.2.1.1.2.2.2.1 ∧ Arr Rp.u8 h (.slice a22 x.2.2.2.2.2.2.2.2.2.2.1.1.2.2.2.2.1.length c22) x.2.2.2.2.2.2.2.2.2.2.1.1.2.2.2.2.1 ∧ InI64 x.2.2.2.2.2.2.2.2.2.2.1.2.1.1 ∧ InI64 x.2.2.2.2.2.2.2.2.2.2.1.2.1.2.1 ∧ InI64 x.2.2.2.2.2.2.2.2.2.2.1.2.1.2.2.1 ∧ Arr Rp.u8 h (.slice a26 x.2.2.2.2.2.2.2.2.2.2.1.2.1.2.2.2.1.length c26) x.2.2.2.2.2.2.2.2.2.2.1.2.1.2.2.2.1 ∧ Arr Rp.u8 h (.slice a27 x.2.2.2.2.2.2.2.2.2.2.1.2.1.2.2.2.2.1.length c27) x.2.2.2.2.2.2.2.2.2.2.1.2.1.2.2.2.2.1 ∧ InI64 x.2.2.2.2.2.2.2.2.2.2.2.1 := by
  obtain ⟨v8, v9, v10, v11, v12, v14, v15, v16, v17, v21, v22, v26, v27, rfl, h1, h2, h3, h4, h5, h6, h7, h8, h9, h10, h11, h12, h14, h15, h16, h17, h18, h19, h20, h21, h22, h23, h24, h25, h26, h27, h28⟩ := FrmRp.open r
  obtain ⟨a8, c8, rfl⟩ := h8.shape
  obtain ⟨a9, c9, rfl⟩ := h9.shape
  obtain ⟨a10, c10, rfl⟩ := h10.shape
  obtain ⟨a11, c11, rfl⟩ := h11.shape
  obtain ⟨a12, c12, rfl⟩ := h12.shape
  obtain ⟨a14, c14, rfl⟩ := h14.shape
  obtain ⟨a15, c15, rfl⟩ := h15.shape
  obtain ⟨a16, c16, rfl⟩ := h16.shape
  obtain ⟨a17, c17, rfl⟩ := h17.shape
  obtain ⟨a21, c21, rfl⟩ := h21.shape
  obtain ⟨a22, c22, rfl⟩ := h22.shape
  obtain ⟨a26, c26, rfl⟩ := h26.shape
  obtain ⟨a27, c27, rfl⟩ := h27.shape
  exact ⟨a8, a9, a10, a11, a12, a14, a15, a16, a17, a21, a22, a26, a27, c8, c9, c10, c11, c12, c14, c15, c16, c17, c21, c22, c26, c27, rfl, h1, h2, h3, h4, h5, h6, h7, h8, h9, h10, h11, h12, h14, h15, h16, h17, h18, h19, h20, h21, h22, h23, h24, h25, h26, h27, h28⟩
theorem FrmRp.mk {h : Fr} {x0 : UInt8} {x1 : Int} {x2 : Int} {x3 : List UInt8} {x4 : List UInt8} {x5 : Int} {x6 : Int} {x7 : Int} {x8 : List UInt8} {v8 : Value} {x9 : List UInt8} {v9 : Value} {x10 : List UInt8} {v10 : Value} {x11 : List (List UInt8)} {v11 : Value} {x12 : List StubT} {v12 : Value} {x13 : UInt8} {x14 : List UInt8} {v14 : Value} {x15 : List UInt8} {v15 : Value} {x16 : List LeafT} {v16 : Value} {x17 : List RecT} {v17 : Value} {x18 : Int} {x19 : Int} {x20 : Int} {x21 : List UInt8} {v21 : Value} {x22 : List UInt8} {v22 : Value} {x23 : Int} {x24 : Int} {x25 : Int} {x26 : List UInt8} {v26 : Value} {x27 : List UInt8} {v27 : Value} {x28 : Int} (h1 : InI64 x1) (h2 : InI64 x2) (h3 : x3.length ≤ 9223372036854775807) (h4 : x4.length ≤ 9223372036854775807) (h5 : InI64 x5) (h6 : InI64 x6) (h7 : InI64 x7) (h8 : Arr Rp.u8 h v8 x8) (h9 : Arr Rp.u8 h v9 x9) (h10 : Arr Rp.u8 h v10 x10) (h11 : Arr (Rp.slice Rp.u8) h v11 x11) (h12 : Arr StubRp h v12 x12) (h14 : Arr Rp.u8 h v14 x14) (h15 : Arr Rp.u8 h v15 x15) (h16 : Arr LeafRp h v16 x16) (h17 : Arr RecRp h v17 x17) (h18 : InI64 x18) (h19 : InI64 x19) (h20 : InI64 x20) (h21 : Arr Rp.u8 h v21 x21) (h22 : Arr Rp.u8 h v22 x22) (h23 : InI64 x23) (h24 : InI64 x24) (h25 : InI64 x25) (h26 : Arr Rp.u8 h v26 x26) (h27 : Arr Rp.u8 h v27 x27) (h28 : InI64 x28) : FrmRp.rel h [byteV x0, .int .i64 x1, .int .i64 x2, .string (str x3), .string (str x4), .int .i64 x5, .int .i64 x6, .int .i64 x7, v8, v9, v10, v11, v12, byteV x13, v14, v15, v16, v17, .int .i64 x18, .int .i64 x19, .int .i64 x20, v21, v22, .int .i64 x23, .int .i64 x24, .int .i64 x25, v26, v27, .int .i64 x28] (x0, x1, x2, x3, x4, (x5, x6, x7, x8, x9, ()), x10, (x11, x12, ()), (x13, x14, x15, x16, ()), x17, ((x18, x19, x20, x21, x22, ()), (x23, x24, x25, x26, x27, ()), ()), x28, ()) :=
  ⟨[byteV x0], [.int .i64 x1, .int .i64 x2, .string (str x3), .string (str x4), .int .i64 x5, .int .i64 x6, .int .i64 x7, v8, v9, v10, v11, v12, byteV x13, v14, v15, v16, v17, .int .i64 x18, .int .i64 x19, .int .i64 x20, v21, v22, .int .i64 x23, .int .i64 x24, .int .i64 x25, v26, v27, .int .i64 x28], rfl, rfl, ⟨[.int .i64 x1], [.int .i64 x2, .string (str x3), .string (str x4), .int .i64 x5, .int .i64 x6, .int .i64 x7, v8, v9, v10, v11, v12, byteV x13, v14, v15, v16, v17, .int .i64 x18, .int .i64 x19, .int .i64 x20, v21, v22, .int .i64 x23, .int .i64 x24, .int .i64 x25, v26, v27, .int .i64 x28], rfl, ⟨rfl, h1⟩, ⟨[.int .i64 x2], [.string (str x3), .string (str x4), .int .i64 x5, .int .i64 x6, .int .i64 x7, v8, v9, v10, v11, v12, byteV x13, v14, v15, v16, v17, .int .i64 x18, .int .i64 x19, .int .i64 x20, v21, v22, .int .i64 x23, .int .i64 x24, .int .i64 x25, v26, v27, .int .i64 x28], rfl, ⟨rfl, h2⟩, ⟨[.string (str x3)], [.string (str x4), .int .i64 x5, .int .i64 x6, .int .i64 x7, v8, v9, v10, v11, v12, byteV x13, v14, v15, v16, v17, .int .i64 x18, .int .i64 x19, .int .i64 x20, v21, v22, .int .i64 x23, .int .i64 x24, .int .i64 x25, v26, v27, .int .i64 x28], rfl, ⟨rfl, h3⟩, ⟨[.string (str x4)], [.int .i64 x5, .int .i64 x6, .int .i64 x7, v8, v9, v10, v11, v12, byteV x13, v14, v15, v16, v17, .int .i64 x18, .int .i64 x19, .int .i64 x20, v21, v22, .int .i64 x23, .int .i64 x24, .int .i64 x25, v26, v27, .int .i64 x28], rfl, ⟨rfl, h4⟩, ⟨[.int .i64 x5, .int .i64 x6, .int .i64 x7, v8, v9], [v10, v11, v12, byteV x13, v14, v15, v16, v17, .int .i64 x18, .int .i64 x19, .int .i64 x20, v21, v22, .int .i64 x23, .int .i64 x24, .int .i64 x25, v26, v27, .int .i64 x28], rfl, (RootRp.mk h5 h6 h7 h8 h9), ⟨[v10], [v11, v12, byteV x13, v14, v15, v16, v17, .int .i64 x18, .int .i64 x19, .int .i64 x20, v21, v22, .int .i64 x23, .int .i64 x24, .int .i64 x25, v26, v27, .int .i64 x28], rfl, ⟨v10, rfl, h10⟩, ⟨[v11, v12], [byteV x13, v14, v15, v16, v17, .int .i64 x18, .int .i64 x19, .int .i64 x20, v21, v22, .int .i64 x23, .int .i64 x24, .int .i64 x25, v26, v27, .int .i64 x28], rfl, (PrfRp.mk h11 h12), ⟨[byteV x13, v14, v15, v16], [v17, .int .i64 x18, .int .i64 x19, .int .i64 x20, v21, v22, .int .i64 x23, .int .i64 x24, .int .i64 x25, v26, v27, .int .i64 x28], rfl, (NodeRp.mk h14 h15 h16), ⟨[v17], [.int .i64 x18, .int .i64 x19, .int .i64 x20, v21, v22, .int .i64 x23, .int .i64 x24, .int .i64 x25, v26, v27, .int .i64 x28], rfl, ⟨v17, rfl, h17⟩, ⟨[.int .i64 x18, .int .i64 x19, .int .i64 x20, v21, v22, .int .i64 x23, .int .i64 x24, .int .i64 x25, v26, v27], [.int .i64 x28], rfl, (EvdRp.mk h18 h19 h20 h21 h22 h23 h24 h25 h26 h27), ⟨[.int .i64 x28], [], rfl, ⟨rfl, h28⟩, rfl⟩⟩⟩⟩⟩⟩⟩⟩⟩⟩⟩⟩
theorem FrmRp.k_eq : FrmRp.k = 29 := rfl
abbrev FrmG (τ : Tys) : Gp FrmT := Gp.prod (Gp.pure Rp.u8) (Gp.prod (Gp.pure Rp.i64) (Gp.prod (Gp.pure Rp.i64) (Gp.prod (Gp.pure Rp.str) (Gp.prod (Gp.pure Rp.str) (Gp.prod (RootG τ) (Gp.prod (Gp.row Rp.u8 τ.u8) (Gp.prod (PrfG τ) (Gp.prod (NodeG τ) (Gp.prod (Gp.list (RecG τ) τ.recd) (Gp.prod (EvdG τ) (Gp.prod (Gp.pure Rp.i64) (Gp.unit))))))))))))
abbrev FrmL (τ : Tys) : Lp FrmT := Lp.prod (Lp.pure Rp.u8) (Lp.prod (Lp.pure Rp.i64) (Lp.prod (Lp.pure Rp.i64) (Lp.prod (Lp.pure Rp.str) (Lp.prod (Lp.pure Rp.str) (Lp.prod (RootL τ) (Lp.prod (Lp.flat Rp.u8 τ.u8 (markB 1)) (Lp.prod (PrfL τ) (Lp.prod (NodeL τ) (Lp.prod (Lp.list (RecL τ) τ.recd (markRec 1)) (Lp.prod (EvdL τ) (Lp.prod (Lp.pure Rp.i64) (Lp.unit))))))))))))
theorem FrmG.open12 {τ : Tys} {cs : List Value} {x : Unit} {m : Fr} (r : (Gp.unit).own cs x m) : cs = [] ∧ Sat [] m := by
  exact ⟨r, trivial⟩
theorem FrmG.open11 {τ : Tys} {cs : List Value} {x : Int × Unit} {m : Fr} (r : (Gp.prod (Gp.pure Rp.i64) (Gp.unit)).own cs x m) : cs = [.int .i64 x.1] ∧ InI64 x.1 ∧ Sat [] m := by
  obtain ⟨c, d, rfl, k1, k2, dj, s1, s2, o, k3, k4, _, t1, _, r, _⟩ := r
  obtain ⟨rfl, st⟩ := FrmG.open12 (τ := τ) r
  obtain ⟨rfl, hh⟩ := o
  exact ⟨rfl, hh, Sat.mono (Fr.sub_trans t1 s2) st⟩
theorem FrmG.open10 {τ : Tys} {cs : List Value} {x : EvdT × Int × Unit} {m : Fr} (r : (Gp.prod (EvdG τ) (Gp.prod (Gp.pure Rp.i64) (Gp.unit))).own cs x m) : ∃ v21 v22 v26 v27, cs = [.int .i64 x.1.1.1, .int .i64 x.1.1.2.1, .int .i64 x.1.1.2.2.1, v21, v22, .int .i64 x.1.2.1.1, .int .i64 x.1.2.1.2.1, .int .i64 x.1.2.1.2.2.1, v26, v27, .int .i64 x.2.1] ∧ InI64 x.1.1.1 ∧ InI64 x.1.1.2.1 ∧ InI64 x.1.1.2.2.1 ∧ InI64 x.1.2.1.1 ∧ InI64 x.1.2.1.2.1 ∧ InI64 x.1.2.1.2.2.1 ∧ InI64 x.2.1 ∧ Sat [OwnP Rp.u8 τ.u8 v21 x.1.1.2.2.2.1, OwnP Rp.u8 τ.u8 v22 x.1.1.2.2.2.2.1, OwnP Rp.u8 τ.u8 v26 x.1.2.1.2.2.2.1, OwnP Rp.u8 τ.u8 v27 x.1.2.1.2.2.2.2.1] m := by
  obtain ⟨c, d, rfl, k1, k2, dj, s1, s2, o, k3, k4, _, t1, _, r, _⟩ := r
  obtain ⟨rfl, h28, st⟩ := FrmG.open11 (τ := τ) r
  obtain ⟨u3, u4, u8, u9, rfl, g0, g1, g2, g5, g6, g7, st2⟩ := EvdG.open (τ := τ) o
  exact ⟨u3, u4, u8, u9, rfl, g0, g1, g2, g5, g6, g7, h28, Sat.mono (Fr.add_sub s1 (Fr.sub_trans t1 s2)) (Sat.append (Fr.disj_sub dj (Fr.sub_refl _) t1) st2 st)⟩
theorem FrmG.open9 {τ : Tys} {cs : List Value} {x : (List RecT) × EvdT × Int × Unit} {m : Fr} (r : (Gp.prod (Gp.list (RecG τ) τ.recd) (Gp.prod (EvdG τ) (Gp.prod (Gp.pure Rp.i64) (Gp.unit)))).own cs x m) : ∃ v17 v21 v22 v26 v27, cs = [v17, .int .i64 x.2.1.1.1, .int .i64 x.2.1.1.2.1, .int .i64 x.2.1.1.2.2.1, v21, v22, .int .i64 x.2.1.2.1.1, .int .i64 x.2.1.2.1.2.1, .int .i64 x.2.1.2.1.2.2.1, v26, v27, .int .i64 x.2.2.1] ∧ InI64 x.2.1.1.1 ∧ InI64 x.2.1.1.2.1 ∧ InI64 x.2.1.1.2.2.1 ∧ InI64 x.2.1.2.1.1 ∧ InI64 x.2.1.2.1.2.1 ∧ InI64 x.2.1.2.1.2.2.1 ∧ InI64 x.2.2.1 ∧ Sat [ListP (RecG τ) τ.recd v17 x.1, OwnP Rp.u8 τ.u8 v21 x.2.1.1.2.2.2.1, OwnP Rp.u8 τ.u8 v22 x.2.1.1.2.2.2.2.1, OwnP Rp.u8 τ.u8 v26 x.2.1.2.1.2.2.2.1, OwnP Rp.u8 τ.u8 v27 x.2.1.2.1.2.2.2.2.1] m := by
  obtain ⟨c, d, rfl, k1, k2, dj, s1, s2, o, k3, k4, _, t1, _, r, _⟩ := r
  obtain ⟨v21, v22, v26, v27, rfl, h18, h19, h20, h23, h24, h25, h28, st⟩ := FrmG.open10 (τ := τ) r
  obtain ⟨v, rfl, o⟩ := o
  exact ⟨v, v21, v22, v26, v27, rfl, h18, h19, h20, h23, h24, h25, h28, ⟨k1, k3, Fr.disj_sub dj (Fr.sub_refl _) t1, s1, Fr.sub_trans t1 s2, o, st⟩⟩
theorem FrmG.open8 {τ : Tys} {cs : List Value} {x : NodeT × (List RecT) × EvdT × Int × Unit} {m : Fr} (r : (Gp.prod (NodeG τ) (Gp.prod (Gp.list (RecG τ) τ.recd) (Gp.prod (EvdG τ) (Gp.prod (Gp.pure Rp.i64) (Gp.unit))))).own cs x m) : ∃ v14 v15 v16 v17 v21 v22 v26 v27, cs = [byteV x.1.1, v14, v15, v16, v17, .int .i64 x.2.2.1.1.1, .int .i64 x.2.2.1.1.2.1, .int .i64 x.2.2.1.1.2.2.1, v21, v22, .int .i64 x.2.2.1.2.1.1, .int .i64 x.2.2.1.2.1.2.1, .int .i64 x.2.2.1.2.1.2.2.1, v26, v27, .int .i64 x.2.2.2.1] ∧ InI64 x.2.2.1.1.1 ∧ InI64 x.2.2.1.1.2.1 ∧ InI64 x.2.2.1.1.2.2.1 ∧ InI64 x.2.2.1.2.1.1 ∧ InI64 x.2.2.1.2.1.2.1 ∧ InI64 x.2.2.1.2.1.2.2.1 ∧ InI64 x.2.2.2.1 ∧ Sat [OwnP Rp.u8 τ.u8 v14 x.1.2.1, OwnP Rp.u8 τ.u8 v15 x.1.2.2.1, ListP (LeafG τ) τ.leaf v16 x.1.2.2.2.1, ListP (RecG τ) τ.recd v17 x.2.1, OwnP Rp.u8 τ.u8 v21 x.2.2.1.1.2.2.2.1, OwnP Rp.u8 τ.u8 v22 x.2.2.1.1.2.2.2.2.1, OwnP Rp.u8 τ.u8 v26 x.2.2.1.2.1.2.2.2.1, OwnP Rp.u8 τ.u8 v27 x.2.2.1.2.1.2.2.2.2.1] m := by
  obtain ⟨c, d, rfl, k1, k2, dj, s1, s2, o, k3, k4, _, t1, _, r, _⟩ := r
  obtain ⟨v17, v21, v22, v26, v27, rfl, h18, h19, h20, h23, h24, h25, h28, st⟩ := FrmG.open9 (τ := τ) r
  obtain ⟨u1, u2, u3, rfl, st2⟩ := NodeG.open (τ := τ) o
  exact ⟨u1, u2, u3, v17, v21, v22, v26, v27, rfl, h18, h19, h20, h23, h24, h25, h28, Sat.mono (Fr.add_sub s1 (Fr.sub_trans t1 s2)) (Sat.append (Fr.disj_sub dj (Fr.sub_refl _) t1) st2 st)⟩
theorem FrmG.open7 {τ : Tys} {cs : List Value} {x : PrfT × NodeT × (List RecT) × EvdT × Int × Unit} {m : Fr} (r : (Gp.prod (PrfG τ) (Gp.prod (NodeG τ) (Gp.prod (Gp.list (RecG τ) τ.recd) (Gp.prod (EvdG τ) (Gp.prod (Gp.pure Rp.i64) (Gp.unit)))))).own cs x m) : ∃ v11 v12 v14 v15 v16 v17 v21 v22 v26 v27, cs = [v11, v12, byteV x.2.1.1, v14, v15, v16, v17, .int .i64 x.2.2.2.1.1.1, .int .i64 x.2.2.2.1.1.2.1, .int .i64 x.2.2.2.1.1.2.2.1, v21, v22, .int .i64 x.2.2.2.1.2.1.1, .int .i64 x.2.2.2.1.2.1.2.1, .int .i64 x.2.2.2.1.2.1.2.2.1, v26, v27, .int .i64 x.2.2.2.2.1] ∧ InI64 x.2.2.2.1.1.1 ∧ InI64 x.2.2.2.1.1.2.1 ∧ InI64 x.2.2.2.1.1.2.2.1 ∧ InI64 x.2.2.2.1.2.1.1 ∧ InI64 x.2.2.2.1.2.1.2.1 ∧ InI64 x.2.2.2.1.2.1.2.2.1 ∧ InI64 x.2.2.2.2.1 ∧ Sat [ListP (Gp.row Rp.u8 τ.u8) τ.bytes v11 x.1.1, ListP (StubG τ) τ.stub v12 x.1.2.1, OwnP Rp.u8 τ.u8 v14 x.2.1.2.1, OwnP Rp.u8 τ.u8 v15 x.2.1.2.2.1, ListP (LeafG τ) τ.leaf v16 x.2.1.2.2.2.1, ListP (RecG τ) τ.recd v17 x.2.2.1, OwnP Rp.u8 τ.u8 v21 x.2.2.2.1.1.2.2.2.1, OwnP Rp.u8 τ.u8 v22 x.2.2.2.1.1.2.2.2.2.1, OwnP Rp.u8 τ.u8 v26 x.2.2.2.1.2.1.2.2.2.1, OwnP Rp.u8 τ.u8 v27 x.2.2.2.1.2.1.2.2.2.2.1] m := by
  obtain ⟨c, d, rfl, k1, k2, dj, s1, s2, o, k3, k4, _, t1, _, r, _⟩ := r
  obtain ⟨v14, v15, v16, v17, v21, v22, v26, v27, rfl, h18, h19, h20, h23, h24, h25, h28, st⟩ := FrmG.open8 (τ := τ) r
  obtain ⟨u0, u1, rfl, st2⟩ := PrfG.open (τ := τ) o
  exact ⟨u0, u1, v14, v15, v16, v17, v21, v22, v26, v27, rfl, h18, h19, h20, h23, h24, h25, h28, Sat.mono (Fr.add_sub s1 (Fr.sub_trans t1 s2)) (Sat.append (Fr.disj_sub dj (Fr.sub_refl _) t1) st2 st)⟩
theorem FrmG.open6 {τ : Tys} {cs : List Value} {x : (List UInt8) × PrfT × NodeT × (List RecT) × EvdT × Int × Unit} {m : Fr} (r : (Gp.prod (Gp.row Rp.u8 τ.u8) (Gp.prod (PrfG τ) (Gp.prod (NodeG τ) (Gp.prod (Gp.list (RecG τ) τ.recd) (Gp.prod (EvdG τ) (Gp.prod (Gp.pure Rp.i64) (Gp.unit))))))).own cs x m) : ∃ v10 v11 v12 v14 v15 v16 v17 v21 v22 v26 v27, cs = [v10, v11, v12, byteV x.2.2.1.1, v14, v15, v16, v17, .int .i64 x.2.2.2.2.1.1.1, .int .i64 x.2.2.2.2.1.1.2.1, .int .i64 x.2.2.2.2.1.1.2.2.1, v21, v22, .int .i64 x.2.2.2.2.1.2.1.1, .int .i64 x.2.2.2.2.1.2.1.2.1, .int .i64 x.2.2.2.2.1.2.1.2.2.1, v26, v27, .int .i64 x.2.2.2.2.2.1] ∧ InI64 x.2.2.2.2.1.1.1 ∧ InI64 x.2.2.2.2.1.1.2.1 ∧ InI64 x.2.2.2.2.1.1.2.2.1 ∧ InI64 x.2.2.2.2.1.2.1.1 ∧ InI64 x.2.2.2.2.1.2.1.2.1 ∧ InI64 x.2.2.2.2.1.2.1.2.2.1 ∧ InI64 x.2.2.2.2.2.1 ∧ Sat [OwnP Rp.u8 τ.u8 v10 x.1, ListP (Gp.row Rp.u8 τ.u8) τ.bytes v11 x.2.1.1, ListP (StubG τ) τ.stub v12 x.2.1.2.1, OwnP Rp.u8 τ.u8 v14 x.2.2.1.2.1, OwnP Rp.u8 τ.u8 v15 x.2.2.1.2.2.1, ListP (LeafG τ) τ.leaf v16 x.2.2.1.2.2.2.1, ListP (RecG τ) τ.recd v17 x.2.2.2.1, OwnP Rp.u8 τ.u8 v21 x.2.2.2.2.1.1.2.2.2.1, OwnP Rp.u8 τ.u8 v22 x.2.2.2.2.1.1.2.2.2.2.1, OwnP Rp.u8 τ.u8 v26 x.2.2.2.2.1.2.1.2.2.2.1, OwnP Rp.u8 τ.u8 v27 x.2.2.2.2.1.2.1.2.2.2.2.1] m := by
  obtain ⟨c, d, rfl, k1, k2, dj, s1, s2, o, k3, k4, _, t1, _, r, _⟩ := r
  obtain ⟨v11, v12, v14, v15, v16, v17, v21, v22, v26, v27, rfl, h18, h19, h20, h23, h24, h25, h28, st⟩ := FrmG.open7 (τ := τ) r
  obtain ⟨v, rfl, o⟩ := o
  exact ⟨v, v11, v12, v14, v15, v16, v17, v21, v22, v26, v27, rfl, h18, h19, h20, h23, h24, h25, h28, ⟨k1, k3, Fr.disj_sub dj (Fr.sub_refl _) t1, s1, Fr.sub_trans t1 s2, o, st⟩⟩
theorem FrmG.open5 {τ : Tys} {cs : List Value} {x : RootT × (List UInt8) × PrfT × NodeT × (List RecT) × EvdT × Int × Unit} {m : Fr} (r : (Gp.prod (RootG τ) (Gp.prod (Gp.row Rp.u8 τ.u8) (Gp.prod (PrfG τ) (Gp.prod (NodeG τ) (Gp.prod (Gp.list (RecG τ) τ.recd) (Gp.prod (EvdG τ) (Gp.prod (Gp.pure Rp.i64) (Gp.unit)))))))).own cs x m) : ∃ v8 v9 v10 v11 v12 v14 v15 v16 v17 v21 v22 v26 v27, cs = [.int .i64 x.1.1, .int .i64 x.1.2.1, .int .i64 x.1.2.2.1, v8, v9, v10, v11, v12, byteV x.2.2.2.1.1, v14, v15, v16, v17, .int .i64 x.2.2.2.2.2.1.1.1, .int .i64 x.2.2.2.2.2.1.1.2.1, .int .i64 x.2.2.2.2.2.1.1.2.2.1, v21, v22, .int .i64 x.2.2.2.2.2.1.2.1.1, .int .i64 x.2.2.2.2.2.1.2.1.2.1, .int .i64 x.2.2.2.2.2.1.2.1.2.2.1, v26, v27, .int .i64 x.2.2.2.2.2.2.1] ∧ InI64 x.1.1 ∧ InI64 x.1.2.1 ∧ InI64 x.1.2.2.1 ∧ InI64 x.2.2.2.2.2.1.1.1 ∧ InI64 x.2.2.2.2.2.1.1.2.1 ∧ InI64 x.2.2.2.2.2.1.1.2.2.1 ∧ InI64 x.2.2.2.2.2.1.2.1.1 ∧ InI64 x.2.2.2.2.2.1.2.1.2.1 ∧ InI64 x.2.2.2.2.2.1.2.1.2.2.1 ∧ InI64 x.2.2.2.2.2.2.1 ∧ Sat [OwnP Rp.u8 τ.u8 v8 x.1.2.2.2.1, OwnP Rp.u8 τ.u8 v9 x.1.2.2.2.2.1, OwnP Rp.u8 τ.u8 v10 x.2.1, ListP (Gp.row Rp.u8 τ.u8) τ.bytes v11 x.2.2.1.1, ListP (StubG τ) τ.stub v12 x.2.2.1.2.1, OwnP Rp.u8 τ.u8 v14 x.2.2.2.1.2.1, OwnP Rp.u8 τ.u8 v15 x.2.2.2.1.2.2.1, ListP (LeafG τ) τ.leaf v16 x.2.2.2.1.2.2.2.1, ListP (RecG τ) τ.recd v17 x.2.2.2.2.1, OwnP Rp.u8 τ.u8 v21 x.2.2.2.2.2.1.1.2.2.2.1, OwnP Rp.u8 τ.u8 v22 x.2.2.2.2.2.1.1.2.2.2.2.1, OwnP Rp.u8 τ.u8 v26 x.2.2.2.2.2.1.2.1.2.2.2.1, OwnP Rp.u8 τ.u8 v27 x.2.2.2.2.2.1.2.1.2.2.2.2.1] m := by
  obtain ⟨c, d, rfl, k1, k2, dj, s1, s2, o, k3, k4, _, t1, _, r, _⟩ := r
  obtain ⟨v10, v11, v12, v14, v15, v16, v17, v21, v22, v26, v27, rfl, h18, h19, h20, h23, h24, h25, h28, st⟩ := FrmG.open6 (τ := τ) r
  obtain ⟨u3, u4, rfl, g0, g1, g2, st2⟩ := RootG.open (τ := τ) o
  exact ⟨u3, u4, v10, v11, v12, v14, v15, v16, v17, v21, v22, v26, v27, rfl, g0, g1, g2, h18, h19, h20, h23, h24, h25, h28, Sat.mono (Fr.add_sub s1 (Fr.sub_trans t1 s2)) (Sat.append (Fr.disj_sub dj (Fr.sub_refl _) t1) st2 st)⟩
theorem FrmG.open4 {τ : Tys} {cs : List Value} {x : (List UInt8) × RootT × (List UInt8) × PrfT × NodeT × (List RecT) × EvdT × Int × Unit} {m : Fr} (r : (Gp.prod (Gp.pure Rp.str) (Gp.prod (RootG τ) (Gp.prod (Gp.row Rp.u8 τ.u8) (Gp.prod (PrfG τ) (Gp.prod (NodeG τ) (Gp.prod (Gp.list (RecG τ) τ.recd) (Gp.prod (EvdG τ) (Gp.prod (Gp.pure Rp.i64) (Gp.unit))))))))).own cs x m) : ∃ v8 v9 v10 v11 v12 v14 v15 v16 v17 v21 v22 v26 v27, cs = [.string (str x.1), .int .i64 x.2.1.1, .int .i64 x.2.1.2.1, .int .i64 x.2.1.2.2.1, v8, v9, v10, v11, v12, byteV x.2.2.2.2.1.1, v14, v15, v16, v17, .int .i64 x.2.2.2.2.2.2.1.1.1, .int .i64 x.2.2.2.2.2.2.1.1.2.1, .int .i64 x.2.2.2.2.2.2.1.1.2.2.1, v21, v22, .int .i64 x.2.2.2.2.2.2.1.2.1.1, .int .i64 x.2.2.2.2.2.2.1.2.1.2.1, .int .i64 x.2.2.2.2.2.2.1.2.1.2.2.1, v26, v27, .int .i64 x.2.2.2.2.2.2.2.1] ∧ x.1.length ≤ 9223372036854775807 ∧ InI64 x.2.1.1 ∧ InI64 x.2.1.2.1 ∧ InI64 x.2.1.2.2.1 ∧ InI64 x.2.2.2.2.2.2.1.1.1 ∧ InI64 x.2.2.2.2.2.2.1.1.2.1 ∧ InI64 x.2.2.2.2.2.2.1.1.2.2.1 ∧ InI64 x.2.2.2.2.2.2.1.2.1.1 ∧ InI64 x.2.2.2.2.2.2.1.2.1.2.1 ∧ InI64 x.2.2.2.2.2.2.1.2.1.2.2.1 ∧ InI64 x.2.2.2.2.2.2.2.1 ∧ Sat [OwnP Rp.u8 τ.u8 v8 x.2.1.2.2.2.1, OwnP Rp.u8 τ.u8 v9 x.2.1.2.2.2.2.1, OwnP Rp.u8 τ.u8 v10 x.2.2.1, ListP (Gp.row Rp.u8 τ.u8) τ.bytes v11 x.2.2.2.1.1, ListP (StubG τ) τ.stub v12 x.2.2.2.1.2.1, OwnP Rp.u8 τ.u8 v14 x.2.2.2.2.1.2.1, OwnP Rp.u8 τ.u8 v15 x.2.2.2.2.1.2.2.1, ListP (LeafG τ) τ.leaf v16 x.2.2.2.2.1.2.2.2.1, ListP (RecG τ) τ.recd v17 x.2.2.2.2.2.1, OwnP Rp.u8 τ.u8 v21 x.2.2.2.2.2.2.1.1.2.2.2.1, OwnP Rp.u8 τ.u8 v22 x.2.2.2.2.2.2.1.1.2.2.2.2.1, OwnP Rp.u8 τ.u8 v26 x.2.2.2.2.2.2.1.2.1.2.2.2.1, OwnP Rp.u8 τ.u8 v27 x.2.2.2.2.2.2.1.2.1.2.2.2.2.1] m := by
  obtain ⟨c, d, rfl, k1, k2, dj, s1, s2, o, k3, k4, _, t1, _, r, _⟩ := r
  obtain ⟨v8, v9, v10, v11, v12, v14, v15, v16, v17, v21, v22, v26, v27, rfl, h5, h6, h7, h18, h19, h20, h23, h24, h25, h28, st⟩ := FrmG.open5 (τ := τ) r
  obtain ⟨rfl, hh⟩ := o
  exact ⟨v8, v9, v10, v11, v12, v14, v15, v16, v17, v21, v22, v26, v27, rfl, hh, h5, h6, h7, h18, h19, h20, h23, h24, h25, h28, Sat.mono (Fr.sub_trans t1 s2) st⟩
theorem FrmG.open3 {τ : Tys} {cs : List Value} {x : (List UInt8) × (List UInt8) × RootT × (List UInt8) × PrfT × NodeT × (List RecT) × EvdT × Int × Unit} {m : Fr} (r : (Gp.prod (Gp.pure Rp.str) (Gp.prod (Gp.pure Rp.str) (Gp.prod (RootG τ) (Gp.prod (Gp.row Rp.u8 τ.u8) (Gp.prod (PrfG τ) (Gp.prod (NodeG τ) (Gp.prod (Gp.list (RecG τ) τ.recd) (Gp.prod (EvdG τ) (Gp.prod (Gp.pure Rp.i64) (Gp.unit)))))))))).own cs x m) : ∃ v8 v9 v10 v11 v12 v14 v15 v16 v17 v21 v22 v26 v27, cs = [.string (str x.1), .string (str x.2.1), .int .i64 x.2.2.1.1, .int .i64 x.2.2.1.2.1, .int .i64 x.2.2.1.2.2.1, v8, v9, v10, v11, v12, byteV x.2.2.2.2.2.1.1, v14, v15, v16, v17, .int .i64 x.2.2.2.2.2.2.2.1.1.1, .int .i64 x.2.2.2.2.2.2.2.1.1.2.1, .int .i64 x.2.2.2.2.2.2.2.1.1.2.2.1, v21, v22, .int .i64 x.2.2.2.2.2.2.2.1.2.1.1, .int .i64 x.2.2.2.2.2.2.2.1.2.1.2.1, .int .i64 x.2.2.2.2.2.2.2.1.2.1.2.2.1, v26, v27, .int .i64 x.2.2.2.2.2.2.2.2.1] ∧ x.1.length ≤ 9223372036854775807 ∧ x.2.1.length ≤ 9223372036854775807 ∧ InI64 x.2.2.1.1 ∧ InI64 x.2.2.1.2.1 ∧ InI64 x.2.2.1.2.2.1 ∧ InI64 x.2.2.2.2.2.2.2.1.1.1 ∧ InI64 x.2.2.2.2.2.2.2.1.1.2.1 ∧ InI64 x.2.2.2.2.2.2.2.1.1.2.2.1 ∧ InI64 x.2.2.2.2.2.2.2.1.2.1.1 ∧ InI64 x.2.2.2.2.2.2.2.1.2.1.2.1 ∧ InI64 x.2.2.2.2.2.2.2.1.2.1.2.2.1 ∧ InI64 x.2.2.2.2.2.2.2.2.1 ∧ Sat [OwnP Rp.u8 τ.u8 v8 x.2.2.1.2.2.2.1, OwnP Rp.u8 τ.u8 v9 x.2.2.1.2.2.2.2.1, OwnP Rp.u8 τ.u8 v10 x.2.2.2.1, ListP (Gp.row Rp.u8 τ.u8) τ.bytes v11 x.2.2.2.2.1.1, ListP (StubG τ) τ.stub v12 x.2.2.2.2.1.2.1, OwnP Rp.u8 τ.u8 v14 x.2.2.2.2.2.1.2.1, OwnP Rp.u8 τ.u8 v15 x.2.2.2.2.2.1.2.2.1, ListP (LeafG τ) τ.leaf v16 x.2.2.2.2.2.1.2.2.2.1, ListP (RecG τ) τ.recd v17 x.2.2.2.2.2.2.1, OwnP Rp.u8 τ.u8 v21 x.2.2.2.2.2.2.2.1.1.2.2.2.1, OwnP Rp.u8 τ.u8 v22 x.2.2.2.2.2.2.2.1.1.2.2.2.2.1, OwnP Rp.u8 τ.u8 v26 x.2.2.2.2.2.2.2.1.2.1.2.2.2.1, OwnP Rp.u8 τ.u8 v27 x.2.2.2.2.2.2.2.1.2.1.2.2.2.2.1] m := by
  obtain ⟨c, d, rfl, k1, k2, dj, s1, s2, o, k3, k4, _, t1, _, r, _⟩ := r
  obtain ⟨v8, v9, v10, v11, v12, v14, v15, v16, v17, v21, v22, v26, v27, rfl, h4, h5, h6, h7, h18, h19, h20, h23, h24, h25, h28, st⟩ := FrmG.open4 (τ := τ) r
  obtain ⟨rfl, hh⟩ := o
  exact ⟨v8, v9, v10, v11, v12, v14, v15, v16, v17, v21, v22, v26, v27, rfl, hh, h4, h5, h6, h7, h18, h19, h20, h23, h24, h25, h28, Sat.mono (Fr.sub_trans t1 s2) st⟩
theorem FrmG.open2 {τ : Tys} {cs : List Value} {x : Int × (List UInt8) × (List UInt8) × RootT × (List UInt8) × PrfT × NodeT × (List RecT) × EvdT × Int × Unit} {m : Fr} (r : (Gp.prod (Gp.pure Rp.i64) (Gp.prod (Gp.pure Rp.str) (Gp.prod (Gp.pure Rp.str) (Gp.prod (RootG τ) (Gp.prod (Gp.row Rp.u8 τ.u8) (Gp.prod (PrfG τ) (Gp.prod (NodeG τ) (Gp.prod (Gp.list (RecG τ) τ.recd) (Gp.prod (EvdG τ) (Gp.prod (Gp.pure Rp.i64) (Gp.unit))))))))))).own cs x m) : ∃ v8 v9 v10 v11 v12 v14 v15 v16 v17 v21 v22 v26 v27, cs = [.int .i64 x.1, .string (str x.2.1), .string (str x.2.2.1), .int .i64 x.2.2.2.1.1, .int .i64 x.2.2.2.1.2.1, .int .i64 x.2.2.2.1.2.2.1, v8, v9, v10, v11, v12, byteV x.2.2.2.2.2.2.1.1, v14, v15, v16, v17, .int .i64 x.2.2.2.2.2.2.2.2.1.1.1, .int .i64 x.2.2.2.2.2.2.2.2.1.1.2.1, .int .i64 x.2.2.2.2.2.2.2.2.1.1.2.2.1, v21, v22, .int .i64 x.2.2.2.2.2.2.2.2.1.2.1.1, .int .i64 x.2.2.2.2.2.2.2.2.1.2.1.2.1, .int .i64 x.2.2.2.2.2.2.2.2.1.2.1.2.2.1, v26, v27, .int .i64 x.2.2.2.2.2.2.2.2.2.1] ∧ InI64 x.1 ∧ x.2.1.length ≤ 9223372036854775807 ∧ x.2.2.1.length ≤ 9223372036854775807 ∧ InI64 x.2.2.2.1.1 ∧ InI64 x.2.2.2.1.2.1 ∧ InI64 x.2.2.2.1.2.2.1 ∧ InI64 x.2.2.2.2.2.2.2.2.1.1.1 ∧ InI64 x.2.2.2.2.2.2.2.2.1.1.2.1 ∧ InI64 x.2.2.2.2.2.2.2.2.1.1.2.2.1 ∧ InI64 x.2.2.2.2.2.2.2.2.1.2.1.1 ∧ InI64 x.2.2.2.2.2.2.2.2.1.2.1.2.1 ∧ InI64 x.2.2.2.2.2.2.2.2.1.2.1.2.2.1 ∧ InI64 x.2.2.2.2.2.2.2.2.2.1 ∧ Sat [OwnP Rp.u8 τ.u8 v8 x.2.2.2.1.2.2.2.1, OwnP Rp.u8 τ.u8 v9 x.2.2.2.1.2.2.2.2.1, OwnP Rp.u8 τ.u8 v10 x.2.2.2.2.1, ListP (Gp.row Rp.u8 τ.u8) τ.bytes v11 x.2.2.2.2.2.1.1, ListP (StubG τ) τ.stub v12 x.2.2.2.2.2.1.2.1, OwnP Rp.u8 τ.u8 v14 x.2.2.2.2.2.2.1.2.1, OwnP Rp.u8 τ.u8 v15 x.2.2.2.2.2.2.1.2.2.1, ListP (LeafG τ) τ.leaf v16 x.2.2.2.2.2.2.1.2.2.2.1, ListP (RecG τ) τ.recd v17 x.2.2.2.2.2.2.2.1, OwnP Rp.u8 τ.u8 v21 x.2.2.2.2.2.2.2.2.1.1.2.2.2.1, OwnP Rp.u8 τ.u8 v22 x.2.2.2.2.2.2.2.2.1.1.2.2.2.2.1, OwnP Rp.u8 τ.u8 v26 x.2.2.2.2.2.2.2.2.1.2.1.2.2.2.1, OwnP Rp.u8 τ.u8 v27 x.2.2.2.2.2.2.2.2.1.2.1.2.2.2.2.1] m := by
  obtain ⟨c, d, rfl, k1, k2, dj, s1, s2, o, k3, k4, _, t1, _, r, _⟩ := r
  obtain ⟨v8, v9, v10, v11, v12, v14, v15, v16, v17, v21, v22, v26, v27, rfl, h3, h4, h5, h6, h7, h18, h19, h20, h23, h24, h25, h28, st⟩ := FrmG.open3 (τ := τ) r
  obtain ⟨rfl, hh⟩ := o
  exact ⟨v8, v9, v10, v11, v12, v14, v15, v16, v17, v21, v22, v26, v27, rfl, hh, h3, h4, h5, h6, h7, h18, h19, h20, h23, h24, h25, h28, Sat.mono (Fr.sub_trans t1 s2) st⟩
theorem FrmG.open1 {τ : Tys} {cs : List Value} {x : Int × Int × (List UInt8) × (List UInt8) × RootT × (List UInt8) × PrfT × NodeT × (List RecT) × EvdT × Int × Unit} {m : Fr} (r : (Gp.prod (Gp.pure Rp.i64) (Gp.prod (Gp.pure Rp.i64) (Gp.prod (Gp.pure Rp.str) (Gp.prod (Gp.pure Rp.str) (Gp.prod (RootG τ) (Gp.prod (Gp.row Rp.u8 τ.u8) (Gp.prod (PrfG τ) (Gp.prod (NodeG τ) (Gp.prod (Gp.list (RecG τ) τ.recd) (Gp.prod (EvdG τ) (Gp.prod (Gp.pure Rp.i64) (Gp.unit)))))))))))).own cs x m) : ∃ v8 v9 v10 v11 v12 v14 v15 v16 v17 v21 v22 v26 v27, cs = [.int .i64 x.1, .int .i64 x.2.1, .string (str x.2.2.1), .string (str x.2.2.2.1), .int .i64 x.2.2.2.2.1.1, .int .i64 x.2.2.2.2.1.2.1, .int .i64 x.2.2.2.2.1.2.2.1, v8, v9, v10, v11, v12, byteV x.2.2.2.2.2.2.2.1.1, v14, v15, v16, v17, .int .i64 x.2.2.2.2.2.2.2.2.2.1.1.1, .int .i64 x.2.2.2.2.2.2.2.2.2.1.1.2.1, .int .i64 x.2.2.2.2.2.2.2.2.2.1.1.2.2.1, v21, v22, .int .i64 x.2.2.2.2.2.2.2.2.2.1.2.1.1, .int .i64 x.2.2.2.2.2.2.2.2.2.1.2.1.2.1, .int .i64 x.2.2.2.2.2.2.2.2.2.1.2.1.2.2.1, v26, v27, .int .i64 x.2.2.2.2.2.2.2.2.2.2.1] ∧ InI64 x.1 ∧ InI64 x.2.1 ∧ x.2.2.1.length ≤ 9223372036854775807 ∧ x.2.2.2.1.length ≤ 9223372036854775807 ∧ InI64 x.2.2.2.2.1.1 ∧ InI64 x.2.2.2.2.1.2.1 ∧ InI64 x.2.2.2.2.1.2.2.1 ∧ InI64 x.2.2.2.2.2.2.2.2.2.1.1.1 ∧ InI64 x.2.2.2.2.2.2.2.2.2.1.1.2.1 ∧ InI64 x.2.2.2.2.2.2.2.2.2.1.1.2.2.1 ∧ InI64 x.2.2.2.2.2.2.2.2.2.1.2.1.1 ∧ InI64 x.2.2.2.2.2.2.2.2.2.1.2.1.2.1 ∧ InI64 x.2.2.2.2.2.2.2.2.2.1.2.1.2.2.1 ∧ InI64 x.2.2.2.2.2.2.2.2.2.2.1 ∧ Sat [OwnP Rp.u8 τ.u8 v8 x.2.2.2.2.1.2.2.2.1, OwnP Rp.u8 τ.u8 v9 x.2.2.2.2.1.2.2.2.2.1, OwnP Rp.u8 τ.u8 v10 x.2.2.2.2.2.1, ListP (Gp.row Rp.u8 τ.u8) τ.bytes v11 x.2.2.2.2.2.2.1.1, ListP (StubG τ) τ.stub v12 x.2.2.2.2.2.2.1.2.1, OwnP Rp.u8 τ.u8 v14 x.2.2.2.2.2.2.2.1.2.1, OwnP Rp.u8 τ.u8 v15 x.2.2.2.2.2.2.2.1.2.2.1, ListP (LeafG τ) τ.leaf v16 x.2.2.2.2.2.2.2.1.2.2.2.1, ListP (RecG τ) τ.recd v17 x.2.2.2.2.2.2.2.2.1, OwnP Rp.u8 τ.u8 v21 x.2.2.2.2.2.2.2.2.2.1.1.2.2.2.1, OwnP Rp.u8 τ.u8 v22 x.2.2.2.2.2.2.2.2.2.1.1.2.2.2.2.1, OwnP Rp.u8 τ.u8 v26 x.2.2.2.2.2.2.2.2.2.1.2.1.2.2.2.1, OwnP Rp.u8 τ.u8 v27 x.2.2.2.2.2.2.2.2.2.1.2.1.2.2.2.2.1] m := by
  obtain ⟨c, d, rfl, k1, k2, dj, s1, s2, o, k3, k4, _, t1, _, r, _⟩ := r
  obtain ⟨v8, v9, v10, v11, v12, v14, v15, v16, v17, v21, v22, v26, v27, rfl, h2, h3, h4, h5, h6, h7, h18, h19, h20, h23, h24, h25, h28, st⟩ := FrmG.open2 (τ := τ) r
  obtain ⟨rfl, hh⟩ := o
  exact ⟨v8, v9, v10, v11, v12, v14, v15, v16, v17, v21, v22, v26, v27, rfl, hh, h2, h3, h4, h5, h6, h7, h18, h19, h20, h23, h24, h25, h28, Sat.mono (Fr.sub_trans t1 s2) st⟩
theorem FrmG.open {τ : Tys} {cs : List Value} {x : UInt8 × Int × Int × (List UInt8) × (List UInt8) × RootT × (List UInt8) × PrfT × NodeT × (List RecT) × EvdT × Int × Unit} {m : Fr} (r : (Gp.prod (Gp.pure Rp.u8) (Gp.prod (Gp.pure Rp.i64) (Gp.prod (Gp.pure Rp.i64) (Gp.prod (Gp.pure Rp.str) (Gp.prod (Gp.pure Rp.str) (Gp.prod (RootG τ) (Gp.prod (Gp.row Rp.u8 τ.u8) (Gp.prod (PrfG τ) (Gp.prod (NodeG τ) (Gp.prod (Gp.list (RecG τ) τ.recd) (Gp.prod (EvdG τ) (Gp.prod (Gp.pure Rp.i64) (Gp.unit))))))))))))).own cs x m) : ∃ v8 v9 v10 v11 v12 v14 v15 v16 v17 v21 v22 v26 v27, cs = [byteV x.1, .int .i64 x.2.1, .int .i64 x.2.2.1, .string (str x.2.2.2.1), .string (str x.2.2.2.2.1), .int .i64 x.2.2.2.2.2.1.1, .int .i64 x.2.2.2.2.2.1.2.1, .int .i64 x.2.2.2.2.2.1.2.2.1, v8, v9, v10, v11, v12, byteV x.2.2.2.2.2.2.2.2.1.1, v14, v15, v16, v17, .int .i64 x.2.2.2.2.2.2.2.2.2.2.1.1.1, .int .i64 x.2.2.2.2.2.2.2.2.2.2.1.1.2.1, .int .i64 x.2.2.2.2.2.2.2.2.2.2.1.1.2.2.1, v21, v22, .int .i64 x.2.2.2.2.2.2.2.2.2.2.1.2.1.1, .int .i64 x.2.2.2.2.2.2.2.2.2.2.1.2.1.2.1, .int .i64 x.2.2.2.2.2.2.2.2.2.2.1.2.1.2.2.1, v26, v27, .int .i64 x.2.2.2.2.2.2.2.2.2.2.2.1] ∧ InI64 x.2.1 ∧ InI64 x.2.2.1 ∧ x.2.2.2.1.length ≤ 9223372036854775807 ∧ x.2.2.2.2.1.length ≤ 9223372036854775807 ∧ InI64 x.2.2.2.2.2.1.1 ∧ InI64 x.2.2.2.2.2.1.2.1 ∧ InI64 x.2.2.2.2.2.1.2.2.1 ∧ InI64 x.2.2.2.2.2.2.2.2.2.2.1.1.1 ∧ InI64 x.2.2.2.2.2.2.2.2.2.2.1.1.2.1 ∧ InI64 x.2.2.2.2.2.2.2.2.2.2.1.1.2.2.1 ∧ InI64 x.2.2.2.2.2.2.2.2.2.2.1.2.1.1 ∧ InI64 x.2.2.2.2.2.2.2.2.2.2.1.2.1.2.1 ∧ InI64 x.2.2.2.2.2.2.2.2.2.2.1.2.1.2.2.1 ∧ InI64 x.2.2.2.2.2.2.2.2.2.2.2.1 ∧ Sat [OwnP Rp.u8 τ.u8 v8 x.2.2.2.2.2.1.2.2.2.1, OwnP Rp.u8 τ.u8 v9 x.2.2.2.2.2.1.2.2.2.2.1, OwnP Rp.u8 τ.u8 v10 x.2.2.2.2.2.2.1, ListP (Gp.row Rp.u8 τ.u8) τ.bytes v11 x.2.2.2.2.2.2.2.1.1, ListP (StubG τ) τ.stub v12 x.2.2.2.2.2.2.2.1.2.1, OwnP Rp.u8 τ.u8 v14 x.2.2.2.2.2.2.2.2.1.2.1, OwnP Rp.u8 τ.u8 v15 x.2.2.2.2.2.2.2.2.1.2.2.1, ListP (LeafG τ) τ.leaf v16 x.2.2.2.2.2.2.2.2.1.2.2.2.1, ListP (RecG τ) τ.recd v17 x.2.2.2.2.2.2.2.2.2.1, OwnP Rp.u8 τ.u8 v21 x.2.2.2.2.2.2.2.2.2.2.1.1.2.2.2.1, OwnP Rp.u8 τ.u8 v22 x.2.2.2.2.2.2.2.2.2.2.1.1.2.2.2.2.1, OwnP Rp.u8 τ.u8 v26 x.2.2.2.2.2.2.2.2.2.2.1.2.1.2.2.2.1, OwnP Rp.u8 τ.u8 v27 x.2.2.2.2.2.2.2.2.2.2.1.2.1.2.2.2.2.1] m := by
  obtain ⟨c, d, rfl, k1, k2, dj, s1, s2, o, k3, k4, _, t1, _, r, _⟩ := r
  obtain ⟨v8, v9, v10, v11, v12, v14, v15, v16, v17, v21, v22, v26, v27, rfl, h1, h2, h3, h4, h5, h6, h7, h18, h19, h20, h23, h24, h25, h28, st⟩ := FrmG.open1 (τ := τ) r
  obtain rfl : c = [byteV x.1] := o
  exact ⟨v8, v9, v10, v11, v12, v14, v15, v16, v17, v21, v22, v26, v27, rfl, h1, h2, h3, h4, h5, h6, h7, h18, h19, h20, h23, h24, h25, h28, Sat.mono (Fr.sub_trans t1 s2) st⟩
theorem FrmG.mk12 {τ : Tys} {m : Fr}   (s : Sat [] m) : (Gp.unit).own [] () m := by
  exact rfl
theorem FrmG.mk11 {τ : Tys} {m : Fr} {x28 : Int} (h28 : InI64 x28) (s : Sat [] m) : (Gp.prod (Gp.pure Rp.i64) (Gp.unit)).own [.int .i64 x28] (x28, ()) m := by
  exact Gp.own_pure_prod (T := Rp.i64) (c := [.int .i64 x28]) ⟨rfl, h28⟩ (FrmG.mk12 (τ := τ)  s)
theorem FrmG.mk10 {τ : Tys} {m : Fr} {x18 : Int} {x19 : Int} {x20 : Int} {x21 : List UInt8} {v21 : Value} {x22 : List UInt8} {v22 : Value} {x23 : Int} {x24 : Int} {x25 : Int} {x26 : List UInt8} {v26 : Value} {x27 : List UInt8} {v27 : Value} {x28 : Int} (h18 : InI64 x18) (h19 : InI64 x19) (h20 : InI64 x20) (h23 : InI64 x23) (h24 : InI64 x24) (h25 : InI64 x25) (h28 : InI64 x28) (s : Sat [OwnP Rp.u8 τ.u8 v21 x21, OwnP Rp.u8 τ.u8 v22 x22, OwnP Rp.u8 τ.u8 v26 x26, OwnP Rp.u8 τ.u8 v27 x27] m) : (Gp.prod (EvdG τ) (Gp.prod (Gp.pure Rp.i64) (Gp.unit))).own [.int .i64 x18, .int .i64 x19, .int .i64 x20, v21, v22, .int .i64 x23, .int .i64 x24, .int .i64 x25, v26, v27, .int .i64 x28] (((x18, x19, x20, x21, x22, ()), (x23, x24, x25, x26, x27, ()), ()), x28, ()) m := by
  obtain ⟨k1, k2, dj, s1, s2, o, st⟩ := Sat.split (η := [OwnP Rp.u8 τ.u8 v21 x21, OwnP Rp.u8 τ.u8 v22 x22, OwnP Rp.u8 τ.u8 v26 x26, OwnP Rp.u8 τ.u8 v27 x27]) s
  exact ⟨[.int .i64 x18, .int .i64 x19, .int .i64 x20, v21, v22, .int .i64 x23, .int .i64 x24, .int .i64 x25, v26, v27], [.int .i64 x28], rfl, k1, k2, dj, s1, s2, EvdG.mk (τ := τ) h18 h19 h20 h23 h24 h25 o, k2, Fr.emp, Fr.disj_symm (Fr.emp_disj _), Fr.sub_refl _, Fr.emp_sub _, FrmG.mk11 (τ := τ) h28 st, trivial⟩
theorem FrmG.mk9 {τ : Tys} {m : Fr} {x17 : List RecT} {v17 : Value} {x18 : Int} {x19 : Int} {x20 : Int} {x21 : List UInt8} {v21 : Value} {x22 : List UInt8} {v22 : Value} {x23 : Int} {x24 : Int} {x25 : Int} {x26 : List UInt8} {v26 : Value} {x27 : List UInt8} {v27 : Value} {x28 : Int} (h18 : InI64 x18) (h19 : InI64 x19) (h20 : InI64 x20) (h23 : InI64 x23) (h24 : InI64 x24) (h25 : InI64 x25) (h28 : InI64 x28) (s : Sat [ListP (RecG τ) τ.recd v17 x17, OwnP Rp.u8 τ.u8 v21 x21, OwnP Rp.u8 τ.u8 v22 x22, OwnP Rp.u8 τ.u8 v26 x26, OwnP Rp.u8 τ.u8 v27 x27] m) : (Gp.prod (Gp.list (RecG τ) τ.recd) (Gp.prod (EvdG τ) (Gp.prod (Gp.pure Rp.i64) (Gp.unit)))).own [v17, .int .i64 x18, .int .i64 x19, .int .i64 x20, v21, v22, .int .i64 x23, .int .i64 x24, .int .i64 x25, v26, v27, .int .i64 x28] (x17, ((x18, x19, x20, x21, x22, ()), (x23, x24, x25, x26, x27, ()), ()), x28, ()) m := by
  obtain ⟨k1, k2, dj, s1, s2, o, st⟩ := s
  exact ⟨[v17], [.int .i64 x18, .int .i64 x19, .int .i64 x20, v21, v22, .int .i64 x23, .int .i64 x24, .int .i64 x25, v26, v27, .int .i64 x28], rfl, k1, k2, dj, s1, s2, ⟨v17, rfl, o⟩, k2, Fr.emp, Fr.disj_symm (Fr.emp_disj _), Fr.sub_refl _, Fr.emp_sub _, FrmG.mk10 (τ := τ) h18 h19 h20 h23 h24 h25 h28 st, trivial⟩
theorem FrmG.mk8 {τ : Tys} {m : Fr} {x13 : UInt8} {x14 : List UInt8} {v14 : Value} {x15 : List UInt8} {v15 : Value} {x16 : List LeafT} {v16 : Value} {x17 : List RecT} {v17 : Value} {x18 : Int} {x19 : Int} {x20 : Int} {x21 : List UInt8} {v21 : Value} {x22 : List UInt8} {v22 : Value} {x23 : Int} {x24 : Int} {x25 : Int} {x26 : List UInt8} {v26 : Value} {x27 : List UInt8} {v27 : Value} {x28 : Int} (h18 : InI64 x18) (h19 : InI64 x19) (h20 : InI64 x20) (h23 : InI64 x23) (h24 : InI64 x24) (h25 : InI64 x25) (h28 : InI64 x28) (s : Sat [OwnP Rp.u8 τ.u8 v14 x14, OwnP Rp.u8 τ.u8 v15 x15, ListP (LeafG τ) τ.leaf v16 x16, ListP (RecG τ) τ.recd v17 x17, OwnP Rp.u8 τ.u8 v21 x21, OwnP Rp.u8 τ.u8 v22 x22, OwnP Rp.u8 τ.u8 v26 x26, OwnP Rp.u8 τ.u8 v27 x27] m) : (Gp.prod (NodeG τ) (Gp.prod (Gp.list (RecG τ) τ.recd) (Gp.prod (EvdG τ) (Gp.prod (Gp.pure Rp.i64) (Gp.unit))))).own [byteV x13, v14, v15, v16, v17, .int .i64 x18, .int .i64 x19, .int .i64 x20, v21, v22, .int .i64 x23, .int .i64 x24, .int .i64 x25, v26, v27, .int .i64 x28] ((x13, x14, x15, x16, ()), x17, ((x18, x19, x20, x21, x22, ()), (x23, x24, x25, x26, x27, ()), ()), x28, ()) m := by
  obtain ⟨k1, k2, dj, s1, s2, o, st⟩ := Sat.split (η := [OwnP Rp.u8 τ.u8 v14 x14, OwnP Rp.u8 τ.u8 v15 x15, ListP (LeafG τ) τ.leaf v16 x16]) s
  exact ⟨[byteV x13, v14, v15, v16], [v17, .int .i64 x18, .int .i64 x19, .int .i64 x20, v21, v22, .int .i64 x23, .int .i64 x24, .int .i64 x25, v26, v27, .int .i64 x28], rfl, k1, k2, dj, s1, s2, NodeG.mk (τ := τ)  o, k2, Fr.emp, Fr.disj_symm (Fr.emp_disj _), Fr.sub_refl _, Fr.emp_sub _, FrmG.mk9 (τ := τ) h18 h19 h20 h23 h24 h25 h28 st, trivial⟩
theorem FrmG.mk7 {τ : Tys} {m : Fr} {x11 : List (List UInt8)} {v11 : Value} {x12 : List StubT} {v12 : Value} {x13 : UInt8} {x14 : List UInt8} {v14 : Value} {x15 : List UInt8} {v15 : Value} {x16 : List LeafT} {v16 : Value} {x17 : List RecT} {v17 : Value} {x18 : Int} {x19 : Int} {x20 : Int} {x21 : List UInt8} {v21 : Value} {x22 : List UInt8} {v22 : Value} {x23 : Int} {x24 : Int} {x25 : Int} {x26 : List UInt8} {v26 : Value} {x27 : List UInt8} {v27 : Value} {x28 : Int} (h18 : InI64 x18) (h19 : InI64 x19) (h20 : InI64 x20) (h23 : InI64 x23) (h24 : InI64 x24) (h25 : InI64 x25) (h28 : InI64 x28) (s : Sat [ListP (Gp.row Rp.u8 τ.u8) τ.bytes v11 x11, ListP (StubG τ) τ.stub v12 x12, OwnP Rp.u8 τ.u8 v14 x14, OwnP Rp.u8 τ.u8 v15 x15, ListP (LeafG τ) τ.leaf v16 x16, ListP (RecG τ) τ.recd v17 x17, OwnP Rp.u8 τ.u8 v21 x21, OwnP Rp.u8 τ.u8 v22 x22, OwnP Rp.u8 τ.u8 v26 x26, OwnP Rp.u8 τ.u8 v27 x27] m) : (Gp.prod (PrfG τ) (Gp.prod (NodeG τ) (Gp.prod (Gp.list (RecG τ) τ.recd) (Gp.prod (EvdG τ) (Gp.prod (Gp.pure Rp.i64) (Gp.unit)))))).own [v11, v12, byteV x13, v14, v15, v16, v17, .int .i64 x18, .int .i64 x19, .int .i64 x20, v21, v22, .int .i64 x23, .int .i64 x24, .int .i64 x25, v26, v27, .int .i64 x28] ((x11, x12, ()), (x13, x14, x15, x16, ()), x17, ((x18, x19, x20, x21, x22, ()), (x23, x24, x25, x26, x27, ()), ()), x28, ()) m := by
  obtain ⟨k1, k2, dj, s1, s2, o, st⟩ := Sat.split (η := [ListP (Gp.row Rp.u8 τ.u8) τ.bytes v11 x11, ListP (StubG τ) τ.stub v12 x12]) s
  exact ⟨[v11, v12], [byteV x13, v14, v15, v16, v17, .int .i64 x18, .int .i64 x19, .int .i64 x20, v21, v22, .int .i64 x23, .int .i64 x24, .int .i64 x25, v26, v27, .int .i64 x28], rfl, k1, k2, dj, s1, s2, PrfG.mk (τ := τ)  o, k2, Fr.emp, Fr.disj_symm (Fr.emp_disj _), Fr.sub_refl _, Fr.emp_sub _, FrmG.mk8 (τ := τ) h18 h19 h20 h23 h24 h25 h28 st, trivial⟩
theorem FrmG.mk6 {τ : Tys} {m : Fr} {x10 : List UInt8} {v10 : Value} {x11 : List (List UInt8)} {v11 : Value} {x12 : List StubT} {v12 : Value} {x13 : UInt8} {x14 : List UInt8} {v14 : Value} {x15 : List UInt8} {v15 : Value} {x16 : List LeafT} {v16 : Value} {x17 : List RecT} {v17 : Value} {x18 : Int} {x19 : Int} {x20 : Int} {x21 : List UInt8} {v21 : Value} {x22 : List UInt8} {v22 : Value} {x23 : Int} {x24 : Int} {x25 : Int} {x26 : List UInt8} {v26 : Value} {x27 : List UInt8} {v27 : Value} {x28 : Int} (h18 : InI64 x18) (h19 : InI64 x19) (h20 : InI64 x20) (h23 : InI64 x23) (h24 : InI64 x24) (h25 : InI64 x25) (h28 : InI64 x28) (s : Sat [OwnP Rp.u8 τ.u8 v10 x10, ListP (Gp.row Rp.u8 τ.u8) τ.bytes v11 x11, ListP (StubG τ) τ.stub v12 x12, OwnP Rp.u8 τ.u8 v14 x14, OwnP Rp.u8 τ.u8 v15 x15, ListP (LeafG τ) τ.leaf v16 x16, ListP (RecG τ) τ.recd v17 x17, OwnP Rp.u8 τ.u8 v21 x21, OwnP Rp.u8 τ.u8 v22 x22, OwnP Rp.u8 τ.u8 v26 x26, OwnP Rp.u8 τ.u8 v27 x27] m) : (Gp.prod (Gp.row Rp.u8 τ.u8) (Gp.prod (PrfG τ) (Gp.prod (NodeG τ) (Gp.prod (Gp.list (RecG τ) τ.recd) (Gp.prod (EvdG τ) (Gp.prod (Gp.pure Rp.i64) (Gp.unit))))))).own [v10, v11, v12, byteV x13, v14, v15, v16, v17, .int .i64 x18, .int .i64 x19, .int .i64 x20, v21, v22, .int .i64 x23, .int .i64 x24, .int .i64 x25, v26, v27, .int .i64 x28] (x10, (x11, x12, ()), (x13, x14, x15, x16, ()), x17, ((x18, x19, x20, x21, x22, ()), (x23, x24, x25, x26, x27, ()), ()), x28, ()) m := by
  obtain ⟨k1, k2, dj, s1, s2, o, st⟩ := s
  exact ⟨[v10], [v11, v12, byteV x13, v14, v15, v16, v17, .int .i64 x18, .int .i64 x19, .int .i64 x20, v21, v22, .int .i64 x23, .int .i64 x24, .int .i64 x25, v26, v27, .int .i64 x28], rfl, k1, k2, dj, s1, s2, ⟨v10, rfl, o⟩, k2, Fr.emp, Fr.disj_symm (Fr.emp_disj _), Fr.sub_refl _, Fr.emp_sub _, FrmG.mk7 (τ := τ) h18 h19 h20 h23 h24 h25 h28 st, trivial⟩
theorem FrmG.mk5 {τ : Tys} {m : Fr} {x5 : Int} {x6 : Int} {x7 : Int} {x8 : List UInt8} {v8 : Value} {x9 : List UInt8} {v9 : Value} {x10 : List UInt8} {v10 : Value} {x11 : List (List UInt8)} {v11 : Value} {x12 : List StubT} {v12 : Value} {x13 : UInt8} {x14 : List UInt8} {v14 : Value} {x15 : List UInt8} {v15 : Value} {x16 : List LeafT} {v16 : Value} {x17 : List RecT} {v17 : Value} {x18 : Int} {x19 : Int} {x20 : Int} {x21 : List UInt8} {v21 : Value} {x22 : List UInt8} {v22 : Value} {x23 : Int} {x24 : Int} {x25 : Int} {x26 : List UInt8} {v26 : Value} {x27 : List UInt8} {v27 : Value} {x28 : Int} (h5 : InI64 x5) (h6 : InI64 x6) (h7 : InI64 x7) (h18 : InI64 x18) (h19 : InI64 x19) (h20 : InI64 x20) (h23 : InI64 x23) (h24 : InI64 x24) (h25 : InI64 x25) (h28 : InI64 x28) (s : Sat [OwnP Rp.u8 τ.u8 v8 x8, OwnP Rp.u8 τ.u8 v9 x9, OwnP Rp.u8 τ.u8 v10 x10, ListP (Gp.row Rp.u8 τ.u8) τ.bytes v11 x11, ListP (StubG τ) τ.stub v12 x12, OwnP Rp.u8 τ.u8 v14 x14, OwnP Rp.u8 τ.u8 v15 x15, ListP (LeafG τ) τ.leaf v16 x16, ListP (RecG τ) τ.recd v17 x17, OwnP Rp.u8 τ.u8 v21 x21, OwnP Rp.u8 τ.u8 v22 x22, OwnP Rp.u8 τ.u8 v26 x26, OwnP Rp.u8 τ.u8 v27 x27] m) : (Gp.prod (RootG τ) (Gp.prod (Gp.row Rp.u8 τ.u8) (Gp.prod (PrfG τ) (Gp.prod (NodeG τ) (Gp.prod (Gp.list (RecG τ) τ.recd) (Gp.prod (EvdG τ) (Gp.prod (Gp.pure Rp.i64) (Gp.unit)))))))).own [.int .i64 x5, .int .i64 x6, .int .i64 x7, v8, v9, v10, v11, v12, byteV x13, v14, v15, v16, v17, .int .i64 x18, .int .i64 x19, .int .i64 x20, v21, v22, .int .i64 x23, .int .i64 x24, .int .i64 x25, v26, v27, .int .i64 x28] ((x5, x6, x7, x8, x9, ()), x10, (x11, x12, ()), (x13, x14, x15, x16, ()), x17, ((x18, x19, x20, x21, x22, ()), (x23, x24, x25, x26, x27, ()), ()), x28, ()) m := by
  obtain ⟨k1, k2, dj, s1, s2, o, st⟩ := Sat.split (η := [OwnP Rp.u8 τ.u8 v8 x8, OwnP Rp.u8 τ.u8 v9 x9]) s
  exact ⟨[.int .i64 x5, .int .i64 x6, .int .i64 x7, v8, v9], [v10, v11, v12, byteV x13, v14, v15, v16, v17, .int .i64 x18, .int .i64 x19, .int .i64 x20, v21, v22, .int .i64 x23, .int .i64 x24, .int .i64 x25, v26, v27, .int .i64 x28], rfl, k1, k2, dj, s1, s2, RootG.mk (τ := τ) h5 h6 h7 o, k2, Fr.emp, Fr.disj_symm (Fr.emp_disj _), Fr.sub_refl _, Fr.emp_sub _, FrmG.mk6 (τ := τ) h18 h19 h20 h23 h24 h25 h28 st, trivial⟩
theorem FrmG.mk4 {τ : Tys} {m : Fr} {x4 : List UInt8} {x5 : Int} {x6 : Int} {x7 : Int} {x8 : List UInt8} {v8 : Value} {x9 : List UInt8} {v9 : Value} {x10 : List UInt8} {v10 : Value} {x11 : List (List UInt8)} {v11 : Value} {x12 : List StubT} {v12 : Value} {x13 : UInt8} {x14 : List UInt8} {v14 : Value} {x15 : List UInt8} {v15 : Value} {x16 : List LeafT} {v16 : Value} {x17 : List RecT} {v17 : Value} {x18 : Int} {x19 : Int} {x20 : Int} {x21 : List UInt8} {v21 : Value} {x22 : List UInt8} {v22 : Value} {x23 : Int} {x24 : Int} {x25 : Int} {x26 : List UInt8} {v26 : Value} {x27 : List UInt8} {v27 : Value} {x28 : Int} (h4 : x4.length ≤ 9223372036854775807) (h5 : InI64 x5) (h6 : InI64 x6) (h7 : InI64 x7) (h18 : InI64 x18) (h19 : InI64 x19) (h20 : InI64 x20) (h23 : InI64 x23) (h24 : InI64 x24) (h25 : InI64 x25) (h28 : InI64 x28) (s : Sat [OwnP Rp.u8 τ.u8 v8 x8, OwnP Rp.u8 τ.u8 v9 x9, OwnP Rp.u8 τ.u8 v10 x10, ListP (Gp.row Rp.u8 τ.u8) τ.bytes v11 x11, ListP (StubG τ) τ.stub v12 x12, OwnP Rp.u8 τ.u8 v14 x14, OwnP Rp.u8 τ.u8 v15 x15, ListP (LeafG τ) τ.leaf v16 x16, ListP (RecG τ) τ.recd v17 x17, OwnP Rp.u8 τ.u8 v21 x21, OwnP Rp.u8 τ.u8 v22 x22, OwnP Rp.u8 τ.u8 v26 x26, OwnP Rp.u8 τ.u8 v27 x27] m) : (Gp.prod (Gp.pure Rp.str) (Gp.prod (RootG τ) (Gp.prod (Gp.row Rp.u8 τ.u8) (Gp.prod (PrfG τ) (Gp.prod (NodeG τ) (Gp.prod (Gp.list (RecG τ) τ.recd) (Gp.prod (EvdG τ) (Gp.prod (Gp.pure Rp.i64) (Gp.unit))))))))).own [.string (str x4), .int .i64 x5, .int .i64 x6, .int .i64 x7, v8, v9, v10, v11, v12, byteV x13, v14, v15, v16, v17, .int .i64 x18, .int .i64 x19, .int .i64 x20, v21, v22, .int .i64 x23, .int .i64 x24, .int .i64 x25, v26, v27, .int .i64 x28] (x4, (x5, x6, x7, x8, x9, ()), x10, (x11, x12, ()), (x13, x14, x15, x16, ()), x17, ((x18, x19, x20, x21, x22, ()), (x23, x24, x25, x26, x27, ()), ()), x28, ()) m := by
  exact Gp.own_pure_prod (T := Rp.str) (c := [.string (str x4)]) ⟨rfl, h4⟩ (FrmG.mk5 (τ := τ) h5 h6 h7 h18 h19 h20 h23 h24 h25 h28 s)
theorem FrmG.mk3 {τ : Tys} {m : Fr} {x3 : List UInt8} {x4 : List UInt8} {x5 : Int} {x6 : Int} {x7 : Int} {x8 : List UInt8} {v8 : Value} {x9 : List UInt8} {v9 : Value} {x10 : List UInt8} {v10 : Value} {x11 : List (List UInt8)} {v11 : Value} {x12 : List StubT} {v12 : Value} {x13 : UInt8} {x14 : List UInt8} {v14 : Value} {x15 : List UInt8} {v15 : Value} {x16 : List LeafT} {v16 : Value} {x17 : List RecT} {v17 : Value} {x18 : Int} {x19 : Int} {x20 : Int} {x21 : List UInt8} {v21 : Value} {x22 : List UInt8} {v22 : Value} {x23 : Int} {x24 : Int} {x25 : Int} {x26 : List UInt8} {v26 : Value} {x27 : List UInt8} {v27 : Value} {x28 : Int} (h3 : x3.length ≤ 9223372036854775807) (h4 : x4.length ≤ 9223372036854775807) (h5 : InI64 x5) (h6 : InI64 x6) (h7 : InI64 x7) (h18 : InI64 x18) (h19 : InI64 x19) (h20 : InI64 x20) (h23 : InI64 x23) (h24 : InI64 x24) (h25 : InI64 x25) (h28 : InI64 x28) (s : Sat [OwnP Rp.u8 τ.u8 v8 x8, OwnP Rp.u8 τ.u8 v9 x9, OwnP Rp.u8 τ.u8 v10 x10, ListP (Gp.row Rp.u8 τ.u8) τ.bytes v11 x11, ListP (StubG τ) τ.stub v12 x12, OwnP Rp.u8 τ.u8 v14 x14, OwnP Rp.u8 τ.u8 v15 x15, ListP (LeafG τ) τ.leaf v16 x16, ListP (RecG τ) τ.recd v17 x17, OwnP Rp.u8 τ.u8 v21 x21, OwnP Rp.u8 τ.u8 v22 x22, OwnP Rp.u8 τ.u8 v26 x26, OwnP Rp.u8 τ.u8 v27 x27] m) : (Gp.prod (Gp.pure Rp.str) (Gp.prod (Gp.pure Rp.str) (Gp.prod (RootG τ) (Gp.prod (Gp.row Rp.u8 τ.u8) (Gp.prod (PrfG τ) (Gp.prod (NodeG τ) (Gp.prod (Gp.list (RecG τ) τ.recd) (Gp.prod (EvdG τ) (Gp.prod (Gp.pure Rp.i64) (Gp.unit)))))))))).own [.string (str x3), .string (str x4), .int .i64 x5, .int .i64 x6, .int .i64 x7, v8, v9, v10, v11, v12, byteV x13, v14, v15, v16, v17, .int .i64 x18, .int .i64 x19, .int .i64 x20, v21, v22, .int .i64 x23, .int .i64 x24, .int .i64 x25, v26, v27, .int .i64 x28] (x3, x4, (x5, x6, x7, x8, x9, ()), x10, (x11, x12, ()), (x13, x14, x15, x16, ()), x17, ((x18, x19, x20, x21, x22, ()), (x23, x24, x25, x26, x27, ()), ()), x28, ()) m := by
  exact Gp.own_pure_prod (T := Rp.str) (c := [.string (str x3)]) ⟨rfl, h3⟩ (FrmG.mk4 (τ := τ) h4 h5 h6 h7 h18 h19 h20 h23 h24 h25 h28 s)
theorem FrmG.mk2 {τ : Tys} {m : Fr} {x2 : Int} {x3 : List UInt8} {x4 : List UInt8} {x5 : Int} {x6 : Int} {x7 : Int} {x8 : List UInt8} {v8 : Value} {x9 : List UInt8} {v9 : Value} {x10 : List UInt8} {v10 : Value} {x11 : List (List UInt8)} {v11 : Value} {x12 : List StubT} {v12 : Value} {x13 : UInt8} {x14 : List UInt8} {v14 : Value} {x15 : List UInt8} {v15 : Value} {x16 : List LeafT} {v16 : Value} {x17 : List RecT} {v17 : Value} {x18 : Int} {x19 : Int} {x20 : Int} {x21 : List UInt8} {v21 : Value} {x22 : List UInt8} {v22 : Value} {x23 : Int} {x24 : Int} {x25 : Int} {x26 : List UInt8} {v26 : Value} {x27 : List UInt8} {v27 : Value} {x28 : Int} (h2 : InI64 x2) (h3 : x3.length ≤ 9223372036854775807) (h4 : x4.length ≤ 9223372036854775807) (h5 : InI64 x5) (h6 : InI64 x6) (h7 : InI64 x7) (h18 : InI64 x18) (h19 : InI64 x19) (h20 : InI64 x20) (h23 : InI64 x23) (h24 : InI64 x24) (h25 : InI64 x25) (h28 : InI64 x28) (s : Sat [OwnP Rp.u8 τ.u8 v8 x8, OwnP Rp.u8 τ.u8 v9 x9, OwnP Rp.u8 τ.u8 v10 x10, ListP (Gp.row Rp.u8 τ.u8) τ.bytes v11 x11, ListP (StubG τ) τ.stub v12 x12, OwnP Rp.u8 τ.u8 v14 x14, OwnP Rp.u8 τ.u8 v15 x15, ListP (LeafG τ) τ.leaf v16 x16, ListP (RecG τ) τ.recd v17 x17, OwnP Rp.u8 τ.u8 v21 x21, OwnP Rp.u8 τ.u8 v22 x22, OwnP Rp.u8 τ.u8 v26 x26, OwnP Rp.u8 τ.u8 v27 x27] m) : (Gp.prod (Gp.pure Rp.i64) (Gp.prod (Gp.pure Rp.str) (Gp.prod (Gp.pure Rp.str) (Gp.prod (RootG τ) (Gp.prod (Gp.row Rp.u8 τ.u8) (Gp.prod (PrfG τ) (Gp.prod (NodeG τ) (Gp.prod (Gp.list (RecG τ) τ.recd) (Gp.prod (EvdG τ) (Gp.prod (Gp.pure Rp.i64) (Gp.unit))))))))))).own [.int .i64 x2, .string (str x3), .string (str x4), .int .i64 x5, .int .i64 x6, .int .i64 x7, v8, v9, v10, v11, v12, byteV x13, v14, v15, v16, v17, .int .i64 x18, .int .i64 x19, .int .i64 x20, v21, v22, .int .i64 x23, .int .i64 x24, .int .i64 x25, v26, v27, .int .i64 x28] (x2, x3, x4, (x5, x6, x7, x8, x9, ()), x10, (x11, x12, ()), (x13, x14, x15, x16, ()), x17, ((x18, x19, x20, x21, x22, ()), (x23, x24, x25, x26, x27, ()), ()), x28, ()) m := by
  exact Gp.own_pure_prod (T := Rp.i64) (c := [.int .i64 x2]) ⟨rfl, h2⟩ (FrmG.mk3 (τ := τ) h3 h4 h5 h6 h7 h18 h19 h20 h23 h24 h25 h28 s)
theorem FrmG.mk1 {τ : Tys} {m : Fr} {x1 : Int} {x2 : Int} {x3 : List UInt8} {x4 : List UInt8} {x5 : Int} {x6 : Int} {x7 : Int} {x8 : List UInt8} {v8 : Value} {x9 : List UInt8} {v9 : Value} {x10 : List UInt8} {v10 : Value} {x11 : List (List UInt8)} {v11 : Value} {x12 : List StubT} {v12 : Value} {x13 : UInt8} {x14 : List UInt8} {v14 : Value} {x15 : List UInt8} {v15 : Value} {x16 : List LeafT} {v16 : Value} {x17 : List RecT} {v17 : Value} {x18 : Int} {x19 : Int} {x20 : Int} {x21 : List UInt8} {v21 : Value} {x22 : List UInt8} {v22 : Value} {x23 : Int} {x24 : Int} {x25 : Int} {x26 : List UInt8} {v26 : Value} {x27 : List UInt8} {v27 : Value} {x28 : Int} (h1 : InI64 x1) (h2 : InI64 x2) (h3 : x3.length ≤ 9223372036854775807) (h4 : x4.length ≤ 9223372036854775807) (h5 : InI64 x5) (h6 : InI64 x6) (h7 : InI64 x7) (h18 : InI64 x18) (h19 : InI64 x19) (h20 : InI64 x20) (h23 : InI64 x23) (h24 : InI64 x24) (h25 : InI64 x25) (h28 : InI64 x28) (s : Sat [OwnP Rp.u8 τ.u8 v8 x8, OwnP Rp.u8 τ.u8 v9 x9, OwnP Rp.u8 τ.u8 v10 x10, ListP (Gp.row Rp.u8 τ.u8) τ.bytes v11 x11, ListP (StubG τ) τ.stub v12 x12, OwnP Rp.u8 τ.u8 v14 x14, OwnP Rp.u8 τ.u8 v15 x15, ListP (LeafG τ) τ.leaf v16 x16, ListP (RecG τ) τ.recd v17 x17, OwnP Rp.u8 τ.u8 v21 x21, OwnP Rp.u8 τ.u8 v22 x22, OwnP Rp.u8 τ.u8 v26 x26, OwnP Rp.u8 τ.u8 v27 x27] m) : (Gp.prod (Gp.pure Rp.i64) (Gp.prod (Gp.pure Rp.i64) (Gp.prod (Gp.pure Rp.str) (Gp.prod (Gp.pure Rp.str) (Gp.prod (RootG τ) (Gp.prod (Gp.row Rp.u8 τ.u8) (Gp.prod (PrfG τ) (Gp.prod (NodeG τ) (Gp.prod (Gp.list (RecG τ) τ.recd) (Gp.prod (EvdG τ) (Gp.prod (Gp.pure Rp.i64) (Gp.unit)))))))))))).own [.int .i64 x1, .int .i64 x2, .string (str x3), .string (str x4), .int .i64 x5, .int .i64 x6, .int .i64 x7, v8, v9, v10, v11, v12, byteV x13, v14, v15, v16, v17, .int .i64 x18, .int .i64 x19, .int .i64 x20, v21, v22, .int .i64 x23, .int .i64 x24, .int .i64 x25, v26, v27, .int .i64 x28] (x1, x2, x3, x4, (x5, x6, x7, x8, x9, ()), x10, (x11, x12, ()), (x13, x14, x15, x16, ()), x17, ((x18, x19, x20, x21, x22, ()), (x23, x24, x25, x26, x27, ()), ()), x28, ()) m := by
  exact Gp.own_pure_prod (T := Rp.i64) (c := [.int .i64 x1]) ⟨rfl, h1⟩ (FrmG.mk2 (τ := τ) h2 h3 h4 h5 h6 h7 h18 h19 h20 h23 h24 h25 h28 s)
theorem FrmG.mk {τ : Tys} {m : Fr} {x0 : UInt8} {x1 : Int} {x2 : Int} {x3 : List UInt8} {x4 : List UInt8} {x5 : Int} {x6 : Int} {x7 : Int} {x8 : List UInt8} {v8 : Value} {x9 : List UInt8} {v9 : Value} {x10 : List UInt8} {v10 : Value} {x11 : List (List UInt8)} {v11 : Value} {x12 : List StubT} {v12 : Value} {x13 : UInt8} {x14 : List UInt8} {v14 : Value} {x15 : List UInt8} {v15 : Value} {x16 : List LeafT} {v16 : Value} {x17 : List RecT} {v17 : Value} {x18 : Int} {x19 : Int} {x20 : Int} {x21 : List UInt8} {v21 : Value} {x22 : List UInt8} {v22 : Value} {x23 : Int} {x24 : Int} {x25 : Int} {x26 : List UInt8} {v26 : Value} {x27 : List UInt8} {v27 : Value} {x28 : Int} (h1 : InI64 x1) (h2 : InI64 x2) (h3 : x3.length ≤ 9223372036854775807) (h4 : x4.length ≤ 9223372036854775807) (h5 : InI64 x5) (h6 : InI64 x6) (h7 : InI64 x7) (h18 : InI64 x18) (h19 : InI64 x19) (h20 : InI64 x20) (h23 : InI64 x23) (h24 : InI64 x24) (h25 : InI64 x25) (h28 : InI64 x28) (s : Sat [OwnP Rp.u8 τ.u8 v8 x8, OwnP Rp.u8 τ.u8 v9 x9, OwnP Rp.u8 τ.u8 v10 x10, ListP (Gp.row Rp.u8 τ.u8) τ.bytes v11 x11, ListP (StubG τ) τ.stub v12 x12, OwnP Rp.u8 τ.u8 v14 x14, OwnP Rp.u8 τ.u8 v15 x15, ListP (LeafG τ) τ.leaf v16 x16, ListP (RecG τ) τ.recd v17 x17, OwnP Rp.u8 τ.u8 v21 x21, OwnP Rp.u8 τ.u8 v22 x22, OwnP Rp.u8 τ.u8 v26 x26, OwnP Rp.u8 τ.u8 v27 x27] m) : (Gp.prod (Gp.pure Rp.u8) (Gp.prod (Gp.pure Rp.i64) (Gp.prod (Gp.pure Rp.i64) (Gp.prod (Gp.pure Rp.str) (Gp.prod (Gp.pure Rp.str) (Gp.prod (RootG τ) (Gp.prod (Gp.row Rp.u8 τ.u8) (Gp.prod (PrfG τ) (Gp.prod (NodeG τ) (Gp.prod (Gp.list (RecG τ) τ.recd) (Gp.prod (EvdG τ) (Gp.prod (Gp.pure Rp.i64) (Gp.unit))))))))))))).own [byteV x0, .int .i64 x1, .int .i64 x2, .string (str x3), .string (str x4), .int .i64 x5, .int .i64 x6, .int .i64 x7, v8, v9, v10, v11, v12, byteV x13, v14, v15, v16, v17, .int .i64 x18, .int .i64 x19, .int .i64 x20, v21, v22, .int .i64 x23, .int .i64 x24, .int .i64 x25, v26, v27, .int .i64 x28] (x0, x1, x2, x3, x4, (x5, x6, x7, x8, x9, ()), x10, (x11, x12, ()), (x13, x14, x15, x16, ()), x17, ((x18, x19, x20, x21, x22, ()), (x23, x24, x25, x26, x27, ()), ()), x28, ()) m := by
  exact Gp.own_pure_prod (T := Rp.u8) (c := [byteV x0]) rfl (FrmG.mk1 (τ := τ) h1 h2 h3 h4 h5 h6 h7 h18 h19 h20 h23 h24 h25 h28 s)
theorem FrmL.open12 {τ : Tys} {cs : List Value} {x : Unit} {m : Fr} (r : (Lp.unit).own cs x m) : cs = [] ∧ Sat [] m := by
  exact ⟨r, trivial⟩
theorem FrmL.open11 {τ : Tys} {cs : List Value} {x : Int × Unit} {m : Fr} (r : (Lp.prod (Lp.pure Rp.i64) (Lp.unit)).own cs x m) : cs = [.int .i64 x.1] ∧ InI64 x.1 ∧ Sat [] m := by
  obtain ⟨c, d, rfl, k1, k2, dj, s1, s2, o, k3, k4, _, t1, _, r, _⟩ := r
  obtain ⟨rfl, st⟩ := FrmL.open12 (τ := τ) r
  obtain ⟨rfl, hh⟩ := o
  exact ⟨rfl, hh, Sat.mono (Fr.sub_trans t1 s2) st⟩
theorem FrmL.open10 {τ : Tys} {cs : List Value} {x : EvdT × Int × Unit} {m : Fr} (r : (Lp.prod (EvdL τ) (Lp.prod (Lp.pure Rp.i64) (Lp.unit))).own cs x m) : ∃ v21 v22 v26 v27, cs = [.int .i64 x.1.1.1, .int .i64 x.1.1.2.1, .int .i64 x.1.1.2.2.1, v21, v22, .int .i64 x.1.2.1.1, .int .i64 x.1.2.1.2.1, .int .i64 x.1.2.1.2.2.1, v26, v27, .int .i64 x.2.1] ∧ InI64 x.1.1.1 ∧ InI64 x.1.1.2.1 ∧ InI64 x.1.1.2.2.1 ∧ InI64 x.1.2.1.1 ∧ InI64 x.1.2.1.2.1 ∧ InI64 x.1.2.1.2.2.1 ∧ InI64 x.2.1 ∧ Sat [LentQ Rp.u8 τ.u8 (markB 1) v21 x.1.1.2.2.2.1, LentQ Rp.u8 τ.u8 (markB 1) v22 x.1.1.2.2.2.2.1, LentQ Rp.u8 τ.u8 (markB 1) v26 x.1.2.1.2.2.2.1, LentQ Rp.u8 τ.u8 (markB 1) v27 x.1.2.1.2.2.2.2.1] m := by
  obtain ⟨c, d, rfl, k1, k2, dj, s1, s2, o, k3, k4, _, t1, _, r, _⟩ := r
  obtain ⟨rfl, h28, st⟩ := FrmL.open11 (τ := τ) r
  obtain ⟨u3, u4, u8, u9, rfl, g0, g1, g2, g5, g6, g7, st2⟩ := EvdL.open (τ := τ) o
  exact ⟨u3, u4, u8, u9, rfl, g0, g1, g2, g5, g6, g7, h28, Sat.mono (Fr.add_sub s1 (Fr.sub_trans t1 s2)) (Sat.append (Fr.disj_sub dj (Fr.sub_refl _) t1) st2 st)⟩
theorem FrmL.open9 {τ : Tys} {cs : List Value} {x : (List RecT) × EvdT × Int × Unit} {m : Fr} (r : (Lp.prod (Lp.list (RecL τ) τ.recd (markRec 1)) (Lp.prod (EvdL τ) (Lp.prod (Lp.pure Rp.i64) (Lp.unit)))).own cs x m) : ∃ v17 v21 v22 v26 v27, cs = [v17, .int .i64 x.2.1.1.1, .int .i64 x.2.1.1.2.1, .int .i64 x.2.1.1.2.2.1, v21, v22, .int .i64 x.2.1.2.1.1, .int .i64 x.2.1.2.1.2.1, .int .i64 x.2.1.2.1.2.2.1, v26, v27, .int .i64 x.2.2.1] ∧ InI64 x.2.1.1.1 ∧ InI64 x.2.1.1.2.1 ∧ InI64 x.2.1.1.2.2.1 ∧ InI64 x.2.1.2.1.1 ∧ InI64 x.2.1.2.1.2.1 ∧ InI64 x.2.1.2.1.2.2.1 ∧ InI64 x.2.2.1 ∧ Sat [LentL (RecL τ) τ.recd (markRec 1) v17 x.1, LentQ Rp.u8 τ.u8 (markB 1) v21 x.2.1.1.2.2.2.1, LentQ Rp.u8 τ.u8 (markB 1) v22 x.2.1.1.2.2.2.2.1, LentQ Rp.u8 τ.u8 (markB 1) v26 x.2.1.2.1.2.2.2.1, LentQ Rp.u8 τ.u8 (markB 1) v27 x.2.1.2.1.2.2.2.2.1] m := by
  obtain ⟨c, d, rfl, k1, k2, dj, s1, s2, o, k3, k4, _, t1, _, r, _⟩ := r
  obtain ⟨v21, v22, v26, v27, rfl, h18, h19, h20, h23, h24, h25, h28, st⟩ := FrmL.open10 (τ := τ) r
  obtain ⟨v, rfl, o⟩ := o
  exact ⟨v, v21, v22, v26, v27, rfl, h18, h19, h20, h23, h24, h25, h28, ⟨k1, k3, Fr.disj_sub dj (Fr.sub_refl _) t1, s1, Fr.sub_trans t1 s2, o, st⟩⟩
theorem FrmL.open8 {τ : Tys} {cs : List Value} {x : NodeT × (List RecT) × EvdT × Int × Unit} {m : Fr} (r : (Lp.prod (NodeL τ) (Lp.prod (Lp.list (RecL τ) τ.recd (markRec 1)) (Lp.prod (EvdL τ) (Lp.prod (Lp.pure Rp.i64) (Lp.unit))))).own cs x m) : ∃ v14 v15 v16 v17 v21 v22 v26 v27, cs = [byteV x.1.1, v14, v15, v16, v17, .int .i64 x.2.2.1.1.1, .int .i64 x.2.2.1.1.2.1, .int .i64 x.2.2.1.1.2.2.1, v21, v22, .int .i64 x.2.2.1.2.1.1, .int .i64 x.2.2.1.2.1.2.1, .int .i64 x.2.2.1.2.1.2.2.1, v26, v27, .int .i64 x.2.2.2.1] ∧ InI64 x.2.2.1.1.1 ∧ InI64 x.2.2.1.1.2.1 ∧ InI64 x.2.2.1.1.2.2.1 ∧ InI64 x.2.2.1.2.1.1 ∧ InI64 x.2.2.1.2.1.2.1 ∧ InI64 x.2.2.1.2.1.2.2.1 ∧ InI64 x.2.2.2.1 ∧ Sat [LentQ Rp.u8 τ.u8 (markB 1) v14 x.1.2.1, LentQ Rp.u8 τ.u8 (markB 1) v15 x.1.2.2.1, LentL (LeafL τ) τ.leaf (markLeaf 1) v16 x.1.2.2.2.1, LentL (RecL τ) τ.recd (markRec 1) v17 x.2.1, LentQ Rp.u8 τ.u8 (markB 1) v21 x.2.2.1.1.2.2.2.1, LentQ Rp.u8 τ.u8 (markB 1) v22 x.2.2.1.1.2.2.2.2.1, LentQ Rp.u8 τ.u8 (markB 1) v26 x.2.2.1.2.1.2.2.2.1, LentQ Rp.u8 τ.u8 (markB 1) v27 x.2.2.1.2.1.2.2.2.2.1] m := by
  obtain ⟨c, d, rfl, k1, k2, dj, s1, s2, o, k3, k4, _, t1, _, r, _⟩ := r
  obtain ⟨v17, v21, v22, v26, v27, rfl, h18, h19, h20, h23, h24, h25, h28, st⟩ := FrmL.open9 (τ := τ) r
  obtain ⟨u1, u2, u3, rfl, st2⟩ := NodeL.open (τ := τ) o
  exact ⟨u1, u2, u3, v17, v21, v22, v26, v27, rfl, h18, h19, h20, h23, h24, h25, h28, Sat.mono (Fr.add_sub s1 (Fr.sub_trans t1 s2)) (Sat.append (Fr.disj_sub dj (Fr.sub_refl _) t1) st2 st)⟩
theorem FrmL.open7 {τ : Tys} {cs : List Value} {x : PrfT × NodeT × (List RecT) × EvdT × Int × Unit} {m : Fr} (r : (Lp.prod (PrfL τ) (Lp.prod (NodeL τ) (Lp.prod (Lp.list (RecL τ) τ.recd (markRec 1)) (Lp.prod (EvdL τ) (Lp.prod (Lp.pure Rp.i64) (Lp.unit)))))).own cs x m) : ∃ v11 v12 v14 v15 v16 v17 v21 v22 v26 v27, cs = [v11, v12, byteV x.2.1.1, v14, v15, v16, v17, .int .i64 x.2.2.2.1.1.1, .int .i64 x.2.2.2.1.1.2.1, .int .i64 x.2.2.2.1.1.2.2.1, v21, v22, .int .i64 x.2.2.2.1.2.1.1, .int .i64 x.2.2.2.1.2.1.2.1, .int .i64 x.2.2.2.1.2.1.2.2.1, v26, v27, .int .i64 x.2.2.2.2.1] ∧ InI64 x.2.2.2.1.1.1 ∧ InI64 x.2.2.2.1.1.2.1 ∧ InI64 x.2.2.2.1.1.2.2.1 ∧ InI64 x.2.2.2.1.2.1.1 ∧ InI64 x.2.2.2.1.2.1.2.1 ∧ InI64 x.2.2.2.1.2.1.2.2.1 ∧ InI64 x.2.2.2.2.1 ∧ Sat [LentL (Lp.flat Rp.u8 τ.u8 (markB 1)) τ.bytes (markT 1) v11 x.1.1, LentL (StubL τ) τ.stub (markStub 1) v12 x.1.2.1, LentQ Rp.u8 τ.u8 (markB 1) v14 x.2.1.2.1, LentQ Rp.u8 τ.u8 (markB 1) v15 x.2.1.2.2.1, LentL (LeafL τ) τ.leaf (markLeaf 1) v16 x.2.1.2.2.2.1, LentL (RecL τ) τ.recd (markRec 1) v17 x.2.2.1, LentQ Rp.u8 τ.u8 (markB 1) v21 x.2.2.2.1.1.2.2.2.1, LentQ Rp.u8 τ.u8 (markB 1) v22 x.2.2.2.1.1.2.2.2.2.1, LentQ Rp.u8 τ.u8 (markB 1) v26 x.2.2.2.1.2.1.2.2.2.1, LentQ Rp.u8 τ.u8 (markB 1) v27 x.2.2.2.1.2.1.2.2.2.2.1] m := by
  obtain ⟨c, d, rfl, k1, k2, dj, s1, s2, o, k3, k4, _, t1, _, r, _⟩ := r
  obtain ⟨v14, v15, v16, v17, v21, v22, v26, v27, rfl, h18, h19, h20, h23, h24, h25, h28, st⟩ := FrmL.open8 (τ := τ) r
  obtain ⟨u0, u1, rfl, st2⟩ := PrfL.open (τ := τ) o
  exact ⟨u0, u1, v14, v15, v16, v17, v21, v22, v26, v27, rfl, h18, h19, h20, h23, h24, h25, h28, Sat.mono (Fr.add_sub s1 (Fr.sub_trans t1 s2)) (Sat.append (Fr.disj_sub dj (Fr.sub_refl _) t1) st2 st)⟩
theorem FrmL.open6 {τ : Tys} {cs : List Value} {x : (List UInt8) × PrfT × NodeT × (List RecT) × EvdT × Int × Unit} {m : Fr} (r : (Lp.prod (Lp.flat Rp.u8 τ.u8 (markB 1)) (Lp.prod (PrfL τ) (Lp.prod (NodeL τ) (Lp.prod (Lp.list (RecL τ) τ.recd (markRec 1)) (Lp.prod (EvdL τ) (Lp.prod (Lp.pure Rp.i64) (Lp.unit))))))).own cs x m) : ∃ v10 v11 v12 v14 v15 v16 v17 v21 v22 v26 v27, cs = [v10, v11, v12, byteV x.2.2.1.1, v14, v15, v16, v17, .int .i64 x.2.2.2.2.1.1.1, .int .i64 x.2.2.2.2.1.1.2.1, .int .i64 x.2.2.2.2.1.1.2.2.1, v21, v22, .int .i64 x.2.2.2.2.1.2.1.1, .int .i64 x.2.2.2.2.1.2.1.2.1, .int .i64 x.2.2.2.2.1.2.1.2.2.1, v26, v27, .int .i64 x.2.2.2.2.2.1] ∧ InI64 x.2.2.2.2.1.1.1 ∧ InI64 x.2.2.2.2.1.1.2.1 ∧ InI64 x.2.2.2.2.1.1.2.2.1 ∧ InI64 x.2.2.2.2.1.2.1.1 ∧ InI64 x.2.2.2.2.1.2.1.2.1 ∧ InI64 x.2.2.2.2.1.2.1.2.2.1 ∧ InI64 x.2.2.2.2.2.1 ∧ Sat [LentQ Rp.u8 τ.u8 (markB 1) v10 x.1, LentL (Lp.flat Rp.u8 τ.u8 (markB 1)) τ.bytes (markT 1) v11 x.2.1.1, LentL (StubL τ) τ.stub (markStub 1) v12 x.2.1.2.1, LentQ Rp.u8 τ.u8 (markB 1) v14 x.2.2.1.2.1, LentQ Rp.u8 τ.u8 (markB 1) v15 x.2.2.1.2.2.1, LentL (LeafL τ) τ.leaf (markLeaf 1) v16 x.2.2.1.2.2.2.1, LentL (RecL τ) τ.recd (markRec 1) v17 x.2.2.2.1, LentQ Rp.u8 τ.u8 (markB 1) v21 x.2.2.2.2.1.1.2.2.2.1, LentQ Rp.u8 τ.u8 (markB 1) v22 x.2.2.2.2.1.1.2.2.2.2.1, LentQ Rp.u8 τ.u8 (markB 1) v26 x.2.2.2.2.1.2.1.2.2.2.1, LentQ Rp.u8 τ.u8 (markB 1) v27 x.2.2.2.2.1.2.1.2.2.2.2.1] m := by
  obtain ⟨c, d, rfl, k1, k2, dj, s1, s2, o, k3, k4, _, t1, _, r, _⟩ := r
  obtain ⟨v11, v12, v14, v15, v16, v17, v21, v22, v26, v27, rfl, h18, h19, h20, h23, h24, h25, h28, st⟩ := FrmL.open7 (τ := τ) r
  obtain ⟨v, rfl, o⟩ := o
  exact ⟨v, v11, v12, v14, v15, v16, v17, v21, v22, v26, v27, rfl, h18, h19, h20, h23, h24, h25, h28, ⟨k1, k3, Fr.disj_sub dj (Fr.sub_refl _) t1, s1, Fr.sub_trans t1 s2, o, st⟩⟩
theorem FrmL.open5 {τ : Tys} {cs : List Value} {x : RootT × (List UInt8) × PrfT × NodeT × (List RecT) × EvdT × Int × Unit} {m : Fr} (r : (Lp.prod (RootL τ) (Lp.prod (Lp.flat Rp.u8 τ.u8 (markB 1)) (Lp.prod (PrfL τ) (Lp.prod (NodeL τ) (Lp.prod (Lp.list (RecL τ) τ.recd (markRec 1)) (Lp.prod (EvdL τ) (Lp.prod (Lp.pure Rp.i64) (Lp.unit)))))))).own cs x m) : ∃ v8 v9 v10 v11 v12 v14 v15 v16 v17 v21 v22 v26 v27, cs = [.int .i64 x.1.1, .int .i64 x.1.2.1, .int .i64 x.1.2.2.1, v8, v9, v10, v11, v12, byteV x.2.2.2.1.1, v14, v15, v16, v17, .int .i64 x.2.2.2.2.2.1.1.1, .int .i64 x.2.2.2.2.2.1.1.2.1, .int .i64 x.2.2.2.2.2.1.1.2.2.1, v21, v22, .int .i64 x.2.2.2.2.2.1.2.1.1, .int .i64 x.2.2.2.2.2.1.2.1.2.1, .int .i64 x.2.2.2.2.2.1.2.1.2.2.1, v26, v27, .int .i64 x.2.2.2.2.2.2.1] ∧ InI64 x.1.1 ∧ InI64 x.1.2.1 ∧ InI64 x.1.2.2.1 ∧ InI64 x.2.2.2.2.2.1.1.1 ∧ InI64 x.2.2.2.2.2.1.1.2.1 ∧ InI64 x.2.2.2.2.2.1.1.2.2.1 ∧ InI64 x.2.2.2.2.2.1.2.1.1 ∧ InI64 x.2.2.2.2.2.1.2.1.2.1 ∧ InI64 x.2.2.2.2.2.1.2.1.2.2.1 ∧ InI64 x.2.2.2.2.2.2.1 ∧ Sat [LentQ Rp.u8 τ.u8 (markB 1) v8 x.1.2.2.2.1, LentQ Rp.u8 τ.u8 (markB 1) v9 x.1.2.2.2.2.1, LentQ Rp.u8 τ.u8 (markB 1) v10 x.2.1, LentL (Lp.flat Rp.u8 τ.u8 (markB 1)) τ.bytes (markT 1) v11 x.2.2.1.1, LentL (StubL τ) τ.stub (markStub 1) v12 x.2.2.1.2.1, LentQ Rp.u8 τ.u8 (markB 1) v14 x.2.2.2.1.2.1, LentQ Rp.u8 τ.u8 (markB 1) v15 x.2.2.2.1.2.2.1, LentL (LeafL τ) τ.leaf (markLeaf 1) v16 x.2.2.2.1.2.2.2.1, LentL (RecL τ) τ.recd (markRec 1) v17 x.2.2.2.2.1, LentQ Rp.u8 τ.u8 (markB 1) v21 x.2.2.2.2.2.1.1.2.2.2.1, LentQ Rp.u8 τ.u8 (markB 1) v22 x.2.2.2.2.2.1.1.2.2.2.2.1, LentQ Rp.u8 τ.u8 (markB 1) v26 x.2.2.2.2.2.1.2.1.2.2.2.1, LentQ Rp.u8 τ.u8 (markB 1) v27 x.2.2.2.2.2.1.2.1.2.2.2.2.1] m := by
  obtain ⟨c, d, rfl, k1, k2, dj, s1, s2, o, k3, k4, _, t1, _, r, _⟩ := r
  obtain ⟨v10, v11, v12, v14, v15, v16, v17, v21, v22, v26, v27, rfl, h18, h19, h20, h23, h24, h25, h28, st⟩ := FrmL.open6 (τ := τ) r
  obtain ⟨u3, u4, rfl, g0, g1, g2, st2⟩ := RootL.open (τ := τ) o
  exact ⟨u3, u4, v10, v11, v12, v14, v15, v16, v17, v21, v22, v26, v27, rfl, g0, g1, g2, h18, h19, h20, h23, h24, h25, h28, Sat.mono (Fr.add_sub s1 (Fr.sub_trans t1 s2)) (Sat.append (Fr.disj_sub dj (Fr.sub_refl _) t1) st2 st)⟩
theorem FrmL.open4 {τ : Tys} {cs : List Value} {x : (List UInt8) × RootT × (List UInt8) × PrfT × NodeT × (List RecT) × EvdT × Int × Unit} {m : Fr} (r : (Lp.prod (Lp.pure Rp.str) (Lp.prod (RootL τ) (Lp.prod (Lp.flat Rp.u8 τ.u8 (markB 1)) (Lp.prod (PrfL τ) (Lp.prod (NodeL τ) (Lp.prod (Lp.list (RecL τ) τ.recd (markRec 1)) (Lp.prod (EvdL τ) (Lp.prod (Lp.pure Rp.i64) (Lp.unit))))))))).own cs x m) : ∃ v8 v9 v10 v11 v12 v14 v15 v16 v17 v21 v22 v26 v27, cs = [.string (str x.1), .int .i64 x.2.1.1, .int .i64 x.2.1.2.1, .int .i64 x.2.1.2.2.1, v8, v9, v10, v11, v12, byteV x.2.2.2.2.1.1, v14, v15, v16, v17, .int .i64 x.2.2.2.2.2.2.1.1.1, .int .i64 x.2.2.2.2.2.2.1.1.2.1, .int .i64 x.2.2.2.2.2.2.1.1.2.2.1, v21, v22, .int .i64 x.2.2.2.2.2.2.1.2.1.1, .int .i64 x.2.2.2.2.2.2.1.2.1.2.1, .int .i64 x.2.2.2.2.2.2.1.2.1.2.2.1, v26, v27, .int .i64 x.2.2.2.2.2.2.2.1] ∧ x.1.length ≤ 9223372036854775807 ∧ InI64 x.2.1.1 ∧ InI64 x.2.1.2.1 ∧ InI64 x.2.1.2.2.1 ∧ InI64 x.2.2.2.2.2.2.1.1.1 ∧ InI64 x.2.2.2.2.2.2.1.1.2.1 ∧ InI64 x.2.2.2.2.2.2.1.1.2.2.1 ∧ InI64 x.2.2.2.2.2.2.1.2.1.1 ∧ InI64 x.2.2.2.2.2.2.1.2.1.2.1 ∧ InI64 x.2.2.2.2.2.2.1.2.1.2.2.1 ∧ InI64 x.2.2.2.2.2.2.2.1 ∧ Sat [LentQ Rp.u8 τ.u8 (markB 1) v8 x.2.1.2.2.2.1, LentQ Rp.u8 τ.u8 (markB 1) v9 x.2.1.2.2.2.2.1, LentQ Rp.u8 τ.u8 (markB 1) v10 x.2.2.1, LentL (Lp.flat Rp.u8 τ.u8 (markB 1)) τ.bytes (markT 1) v11 x.2.2.2.1.1, LentL (StubL τ) τ.stub (markStub 1) v12 x.2.2.2.1.2.1, LentQ Rp.u8 τ.u8 (markB 1) v14 x.2.2.2.2.1.2.1, LentQ Rp.u8 τ.u8 (markB 1) v15 x.2.2.2.2.1.2.2.1, LentL (LeafL τ) τ.leaf (markLeaf 1) v16 x.2.2.2.2.1.2.2.2.1, LentL (RecL τ) τ.recd (markRec 1) v17 x.2.2.2.2.2.1, LentQ Rp.u8 τ.u8 (markB 1) v21 x.2.2.2.2.2.2.1.1.2.2.2.1, LentQ Rp.u8 τ.u8 (markB 1) v22 x.2.2.2.2.2.2.1.1.2.2.2.2.1, LentQ Rp.u8 τ.u8 (markB 1) v26 x.2.2.2.2.2.2.1.2.1.2.2.2.1, LentQ Rp.u8 τ.u8 (markB 1) v27 x.2.2.2.2.2.2.1.2.1.2.2.2.2.1] m := by
  obtain ⟨c, d, rfl, k1, k2, dj, s1, s2, o, k3, k4, _, t1, _, r, _⟩ := r
  obtain ⟨v8, v9, v10, v11, v12, v14, v15, v16, v17, v21, v22, v26, v27, rfl, h5, h6, h7, h18, h19, h20, h23, h24, h25, h28, st⟩ := FrmL.open5 (τ := τ) r
  obtain ⟨rfl, hh⟩ := o
  exact ⟨v8, v9, v10, v11, v12, v14, v15, v16, v17, v21, v22, v26, v27, rfl, hh, h5, h6, h7, h18, h19, h20, h23, h24, h25, h28, Sat.mono (Fr.sub_trans t1 s2) st⟩
theorem FrmL.open3 {τ : Tys} {cs : List Value} {x : (List UInt8) × (List UInt8) × RootT × (List UInt8) × PrfT × NodeT × (List RecT) × EvdT × Int × Unit} {m : Fr} (r : (Lp.prod (Lp.pure Rp.str) (Lp.prod (Lp.pure Rp.str) (Lp.prod (RootL τ) (Lp.prod (Lp.flat Rp.u8 τ.u8 (markB 1)) (Lp.prod (PrfL τ) (Lp.prod (NodeL τ) (Lp.prod (Lp.list (RecL τ) τ.recd (markRec 1)) (Lp.prod (EvdL τ) (Lp.prod (Lp.pure Rp.i64) (Lp.unit)))))))))).own cs x m) : ∃ v8 v9 v10 v11 v12 v14 v15 v16 v17 v21 v22 v26 v27, cs = [.string (str x.1), .string (str x.2.1), .int .i64 x.2.2.1.1, .int .i64 x.2.2.1.2.1, .int .i64 x.2.2.1.2.2.1, v8, v9, v10, v11, v12, byteV x.2.2.2.2.2.1.1, v14, v15, v16, v17, .int .i64 x.2.2.2.2.2.2.2.1.1.1, .int .i64 x.2.2.2.2.2.2.2.1.1.2.1, .int .i64 x.2.2.2.2.2.2.2.1.1.2.2.1, v21, v22, .int .i64 x.2.2.2.2.2.2.2.1.2.1.1, .int .i64 x.2.2.2.2.2.2.2.1.2.1.2.1, .int .i64 x.2.2.2.2.2.2.2.1.2.1.2.2.1, v26, v27, .int .i64 x.2.2.2.2.2.2.2.2.1] ∧ x.1.length ≤ 9223372036854775807 ∧ x.2.1.length ≤ 9223372036854775807 ∧ InI64 x.2.2.1.1 ∧ InI64 x.2.2.1.2.1 ∧ InI64 x.2.2.1.2.2.1 ∧ InI64 x.2.2.2.2.2.2.2.1.1.1 ∧ InI64 x.2.2.2.2.2.2.2.1.1.2.1 ∧ InI64 x.2.2.2.2.2.2.2.1.1.2.2.1 ∧ InI64 x.2.2.2.2.2.2.2.1.2.1.1 ∧ InI64 x.2.2.2.2.2.2.2.1.2.1.2.1 ∧ InI64 x.2.2.2.2.2.2.2.1.2.1.2.2.1 ∧ InI64 x.2.2.2.2.2.2.2.2.1 ∧ Sat [LentQ Rp.u8 τ.u8 (markB 1) v8 x.2.2.1.2.2.2.1, LentQ Rp.u8 τ.u8 (markB 1) v9 x.2.2.1.2.2.2.2.1, LentQ Rp.u8 τ.u8 (markB 1) v10 x.2.2.2.1, LentL (Lp.flat Rp.u8 τ.u8 (markB 1)) τ.bytes (markT 1) v11 x.2.2.2.2.1.1, LentL (StubL τ) τ.stub (markStub 1) v12 x.2.2.2.2.1.2.1, LentQ Rp.u8 τ.u8 (markB 1) v14 x.2.2.2.2.2.1.2.1, LentQ Rp.u8 τ.u8 (markB 1) v15 x.2.2.2.2.2.1.2.2.1, LentL (LeafL τ) τ.leaf (markLeaf 1) v16 x.2.2.2.2.2.1.2.2.2.1, LentL (RecL τ) τ.recd (markRec 1) v17 x.2.2.2.2.2.2.1, LentQ Rp.u8 τ.u8 (markB 1) v21 x.2.2.2.2.2.2.2.1.1.2.2.2.1, LentQ Rp.u8 τ.u8 (markB 1) v22 x.2.2.2.2.2.2.2.1.1.2.2.2.2.1, LentQ Rp.u8 τ.u8 (markB 1) v26 x.2.2.2.2.2.2.2.1.2.1.2.2.2.1, LentQ Rp.u8 τ.u8 (markB 1) v27 x.2.2.2.2.2.2.2.1.2.1.2.2.2.2.1] m := by
  obtain ⟨c, d, rfl, k1, k2, dj, s1, s2, o, k3, k4, _, t1, _, r, _⟩ := r
  obtain ⟨v8, v9, v10, v11, v12, v14, v15, v16, v17, v21, v22, v26, v27, rfl, h4, h5, h6, h7, h18, h19, h20, h23, h24, h25, h28, st⟩ := FrmL.open4 (τ := τ) r
  obtain ⟨rfl, hh⟩ := o
  exact ⟨v8, v9, v10, v11, v12, v14, v15, v16, v17, v21, v22, v26, v27, rfl, hh, h4, h5, h6, h7, h18, h19, h20, h23, h24, h25, h28, Sat.mono (Fr.sub_trans t1 s2) st⟩
theorem FrmL.open2 {τ : Tys} {cs : List Value} {x : Int × (List UInt8) × (List UInt8) × RootT × (List UInt8) × PrfT × NodeT × (List RecT) × EvdT × Int × Unit} {m : Fr} (r : (Lp.prod (Lp.pure Rp.i64) (Lp.prod (Lp.pure Rp.str) (Lp.prod (Lp.pure Rp.str) (Lp.prod (RootL τ) (Lp.prod (Lp.flat Rp.u8 τ.u8 (markB 1)) (Lp.prod (PrfL τ) (Lp.prod (NodeL τ) (Lp.prod (Lp.list (RecL τ) τ.recd (markRec 1)) (Lp.prod (EvdL τ) (Lp.prod (Lp.pure Rp.i64) (Lp.unit))))))))))).own cs x m) : ∃ v8 v9 v10 v11 v12 v14 v15 v16 v17 v21 v22 v26 v27, cs = [.int .i64 x.1, .string (str x.2.1), .string (str x.2.2.1), .int .i64 x.2.2.2.1.1, .int .i64 x.2.2.2.1.2.1, .int .i64 x.2.2.2.1.2.2.1, v8, v9, v10, v11, v12, byteV x.2.2.2.2.2.2.1.1, v14, v15, v16, v17, .int .i64 x.2.2.2.2.2.2.2.2.1.1.1, .int .i64 x.2.2.2.2.2.2.2.2.1.1.2.1, .int .i64 x.2.2.2.2.2.2.2.2.1.1.2.2.1, v21, v22, .int .i64 x.2.2.2.2.2.2.2.2.1.2.1.1, .int .i64 x.2.2.2.2.2.2.2.2.1.2.1.2.1, .int .i64 x.2.2.2.2.2.2.2.2.1.2.1.2.2.1, v26, v27, .int .i64 x.2.2.2.2.2.2.2.2.2.1] ∧ InI64 x.1 ∧ x.2.1.length ≤ 9223372036854775807 ∧ x.2.2.1.length ≤ 9223372036854775807 ∧ InI64 x.2.2.2.1.1 ∧ InI64 x.2.2.2.1.2.1 ∧ InI64 x.2.2.2.1.2.2.1 ∧ InI64 x.2.2.2.2.2.2.2.2.1.1.1 ∧ InI64 x.2.2.2.2.2.2.2.2.1.1.2.1 ∧ InI64 x.2.2.2.2.2.2.2.2.1.1.2.2.1 ∧ InI64 x.2.2.2.2.2.2.2.2.1.2.1.1 ∧ InI64 x.2.2.2.2.2.2.2.2.1.2.1.2.1 ∧ InI64 x.2.2.2.2.2.2.2.2.1.2.1.2.2.1 ∧ InI64 x.2.2.2.2.2.2.2.2.2.1 ∧ Sat [LentQ Rp.u8 τ.u8 (markB 1) v8 x.2.2.2.1.2.2.2.1, LentQ Rp.u8 τ.u8 (markB 1) v9 x.2.2.2.1.2.2.2.2.1, LentQ Rp.u8 τ.u8 (markB 1) v10 x.2.2.2.2.1, LentL (Lp.flat Rp.u8 τ.u8 (markB 1)) τ.bytes (markT 1) v11 x.2.2.2.2.2.1.1, LentL (StubL τ) τ.stub (markStub 1) v12 x.2.2.2.2.2.1.2.1, LentQ Rp.u8 τ.u8 (markB 1) v14 x.2.2.2.2.2.2.1.2.1, LentQ Rp.u8 τ.u8 (markB 1) v15 x.2.2.2.2.2.2.1.2.2.1, LentL (LeafL τ) τ.leaf (markLeaf 1) v16 x.2.2.2.2.2.2.1.2.2.2.1, LentL (RecL τ) τ.recd (markRec 1) v17 x.2.2.2.2.2.2.2.1, LentQ Rp.u8 τ.u8 (markB 1) v21 x.2.2.2.2.2.2.2.2.1.1.2.2.2.1, LentQ Rp.u8 τ.u8 (markB 1) v22 x.2.2.2.2.2.2.2.2.1.1.2.2.2.2.1, LentQ Rp.u8 τ.u8 (markB 1) v26 x.2.2.2.2.2.2.2.2.1.2.1.2.2.2.1, LentQ Rp.u8 τ.u8 (markB 1) v27 x.2.2.2.2.2.2.2.2.1.2.1.2.2.2.2.1] m := by
  obtain ⟨c, d, rfl, k1, k2, dj, s1, s2, o, k3, k4, _, t1, _, r, _⟩ := r
  obtain ⟨v8, v9, v10, v11, v12, v14, v15, v16, v17, v21, v22, v26, v27, rfl, h3, h4, h5, h6, h7, h18, h19, h20, h23, h24, h25, h28, st⟩ := FrmL.open3 (τ := τ) r
  obtain ⟨rfl, hh⟩ := o
  exact ⟨v8, v9, v10, v11, v12, v14, v15, v16, v17, v21, v22, v26, v27, rfl, hh, h3, h4, h5, h6, h7, h18, h19, h20, h23, h24, h25, h28, Sat.mono (Fr.sub_trans t1 s2) st⟩
theorem FrmL.open1 {τ : Tys} {cs : List Value} {x : Int × Int × (List UInt8) × (List UInt8) × RootT × (List UInt8) × PrfT × NodeT × (List RecT) × EvdT × Int × Unit} {m : Fr} (r : (Lp.prod (Lp.pure Rp.i64) (Lp.prod (Lp.pure Rp.i64) (Lp.prod (Lp.pure Rp.str) (Lp.prod (Lp.pure Rp.str) (Lp.prod (RootL τ) (Lp.prod (Lp.flat Rp.u8 τ.u8 (markB 1)) (Lp.prod (PrfL τ) (Lp.prod (NodeL τ) (Lp.prod (Lp.list (RecL τ) τ.recd (markRec 1)) (Lp.prod (EvdL τ) (Lp.prod (Lp.pure Rp.i64) (Lp.unit)))))))))))).own cs x m) : ∃ v8 v9 v10 v11 v12 v14 v15 v16 v17 v21 v22 v26 v27, cs = [.int .i64 x.1, .int .i64 x.2.1, .string (str x.2.2.1), .string (str x.2.2.2.1), .int .i64 x.2.2.2.2.1.1, .int .i64 x.2.2.2.2.1.2.1, .int .i64 x.2.2.2.2.1.2.2.1, v8, v9, v10, v11, v12, byteV x.2.2.2.2.2.2.2.1.1, v14, v15, v16, v17, .int .i64 x.2.2.2.2.2.2.2.2.2.1.1.1, .int .i64 x.2.2.2.2.2.2.2.2.2.1.1.2.1, .int .i64 x.2.2.2.2.2.2.2.2.2.1.1.2.2.1, v21, v22, .int .i64 x.2.2.2.2.2.2.2.2.2.1.2.1.1, .int .i64 x.2.2.2.2.2.2.2.2.2.1.2.1.2.1, .int .i64 x.2.2.2.2.2.2.2.2.2.1.2.1.2.2.1, v26, v27, .int .i64 x.2.2.2.2.2.2.2.2.2.2.1] ∧ InI64 x.1 ∧ InI64 x.2.1 ∧ x.2.2.1.length ≤ 9223372036854775807 ∧ x.2.2.2.1.length ≤ 9223372036854775807 ∧ InI64 x.2.2.2.2.1.1 ∧ InI64 x.2.2.2.2.1.2.1 ∧ InI64 x.2.2.2.2.1.2.2.1 ∧ InI64 x.2.2.2.2.2.2.2.2.2.1.1.1 ∧ InI64 x.2.2.2.2.2.2.2.2.2.1.1.2.1 ∧ InI64 x.2.2.2.2.2.2.2.2.2.1.1.2.2.1 ∧ InI64 x.2.2.2.2.2.2.2.2.2.1.2.1.1 ∧ InI64 x.2.2.2.2.2.2.2.2.2.1.2.1.2.1 ∧ InI64 x.2.2.2.2.2.2.2.2.2.1.2.1.2.2.1 ∧ InI64 x.2.2.2.2.2.2.2.2.2.2.1 ∧ Sat [LentQ Rp.u8 τ.u8 (markB 1) v8 x.2.2.2.2.1.2.2.2.1, LentQ Rp.u8 τ.u8 (markB 1) v9 x.2.2.2.2.1.2.2.2.2.1, LentQ Rp.u8 τ.u8 (markB 1) v10 x.2.2.2.2.2.1, LentL (Lp.flat Rp.u8 τ.u8 (markB 1)) τ.bytes (markT 1) v11 x.2.2.2.2.2.2.1.1, LentL (StubL τ) τ.stub (markStub 1) v12 x.2.2.2.2.2.2.1.2.1, LentQ Rp.u8 τ.u8 (markB 1) v14 x.2.2.2.2.2.2.2.1.2.1, LentQ Rp.u8 τ.u8 (markB 1) v15 x.2.2.2.2.2.2.2.1.2.2.1, LentL (LeafL τ) τ.leaf (markLeaf 1) v16 x.2.2.2.2.2.2.2.1.2.2.2.1, LentL (RecL τ) τ.recd (markRec 1) v17 x.2.2.2.2.2.2.2.2.1, LentQ Rp.u8 τ.u8 (markB 1) v21 x.2.2.2.2.2.2.2.2.2.1.1.2.2.2.1, LentQ Rp.u8 τ.u8 (markB 1) v22 x.2.2.2.2.2.2.2.2.2.1.1.2.2.2.2.1, LentQ Rp.u8 τ.u8 (markB 1) v26 x.2.2.2.2.2.2.2.2.2.1.2.1.2.2.2.1, LentQ Rp.u8 τ.u8 (markB 1) v27 x.2.2.2.2.2.2.2.2.2.1.2.1.2.2.2.2.1] m := by
  obtain ⟨c, d, rfl, k1, k2, dj, s1, s2, o, k3, k4, _, t1, _, r, _⟩ := r
  obtain ⟨v8, v9, v10, v11, v12, v14, v15, v16, v17, v21, v22, v26, v27, rfl, h2, h3, h4, h5, h6, h7, h18, h19, h20, h23, h24, h25, h28, st⟩ := FrmL.open2 (τ := τ) r
  obtain ⟨rfl, hh⟩ := o
  exact ⟨v8, v9, v10, v11, v12, v14, v15, v16, v17, v21, v22, v26, v27, rfl, hh, h2, h3, h4, h5, h6, h7, h18, h19, h20, h23, h24, h25, h28, Sat.mono (Fr.sub_trans t1 s2) st⟩
theorem FrmL.open {τ : Tys} {cs : List Value} {x : UInt8 × Int × Int × (List UInt8) × (List UInt8) × RootT × (List UInt8) × PrfT × NodeT × (List RecT) × EvdT × Int × Unit} {m : Fr} (r : (Lp.prod (Lp.pure Rp.u8) (Lp.prod (Lp.pure Rp.i64) (Lp.prod (Lp.pure Rp.i64) (Lp.prod (Lp.pure Rp.str) (Lp.prod (Lp.pure Rp.str) (Lp.prod (RootL τ) (Lp.prod (Lp.flat Rp.u8 τ.u8 (markB 1)) (Lp.prod (PrfL τ) (Lp.prod (NodeL τ) (Lp.prod (Lp.list (RecL τ) τ.recd (markRec 1)) (Lp.prod (EvdL τ) (Lp.prod (Lp.pure Rp.i64) (Lp.unit))))))))))))).own cs x m) : ∃ v8 v9 v10 v11 v12 v14 v15 v16 v17 v21 v22 v26 v27, cs = [byteV x.1, .int .i64 x.2.1, .int .i64 x.2.2.1, .string (str x.2.2.2.1), .string (str x.2.2.2.2.1), .int .i64 x.2.2.2.2.2.1.1, .int .i64 x.2.2.2.2.2.1.2.1, .int .i64 x.2.2.2.2.2.1.2.2.1, v8, v9, v10, v11, v12, byteV x.2.2.2.2.2.2.2.2.1.1, v14, v15, v16, v17, .int .i64 x.2.2.2.2.2.2.2.2.2.2.1.1.1, .int .i64 x.2.2.2.2.2.2.2.2.2.2.1.1.2.1, .int .i64 x.2.2.2.2.2.2.2.2.2.2.1.1.2.2.1, v21, v22, .int .i64 x.2.2.2.2.2.2.2.2.2.2.1.2.1.1, .int .i64 x.2.2.2.2.2.2.2.2.2.2.1.2.1.2.1, .int .i64 x.2.2.2.2.2.2.2.2.2.2.1.2.1.2.2.1, v26, v27, .int .i64 x.2.2.2.2.2.2.2.2.2.2.2.1] ∧ InI64 x.2.1 ∧ InI64 x.2.2.1 ∧ x.2.2.2.1.length ≤ 9223372036854775807 ∧ x.2.2.2.2.1.length ≤ 9223372036854775807 ∧ InI64 x.2.2.2.2.2.1.1 ∧ InI64 x.2.2.2.2.2.1.2.1 ∧ InI64 x.2.2.2.2.2.1.2.2.1 ∧ InI64 x.2.2.2.2.2.2.2.2.2.2.1.1.1 ∧ InI64 x.2.2.2.2.2.2.2.2.2.2.1.1.2.1 ∧ InI64 x.2.2.2.2.2.2.2.2.2.2.1.1.2.2.1 ∧ InI64 x.2.2.2.2.2.2.2.2.2.2.1.2.1.1 ∧ InI64 x.2.2.2.2.2.2.2.2.2.2.1.2.1.2.1 ∧ InI64 x.2.2.2.2.2.2.2.2.2.2.1.2.1.2.2.1 ∧ InI64 x.2.2.2.2.2.2.2.2.2.2.2.1 ∧ Sat [LentQ Rp.u8 τ.u8 (markB 1) v8 x.2.2.2.2.2.1.2.2.2.1, LentQ Rp.u8 τ.u8 (markB 1) v9 x.2.2.2.2.2.1.2.2.2.2.1, LentQ Rp.u8 τ.u8 (markB 1) v10 x.2.2.2.2.2.2.1, LentL (Lp.flat Rp.u8 τ.u8 (markB 1)) τ.bytes (markT 1) v11 x.2.2.2.2.2.2.2.1.1, LentL (StubL τ) τ.stub (markStub 1) v12 x.2.2.2.2.2.2.2.1.2.1, LentQ Rp.u8 τ.u8 (markB 1) v14 x.2.2.2.2.2.2.2.2.1.2.1, LentQ Rp.u8 τ.u8 (markB 1) v15 x.2.2.2.2.2.2.2.2.1.2.2.1, LentL (LeafL τ) τ.leaf (markLeaf 1) v16 x.2.2.2.2.2.2.2.2.1.2.2.2.1, LentL (RecL τ) τ.recd (markRec 1) v17 x.2.2.2.2.2.2.2.2.2.1, LentQ Rp.u8 τ.u8 (markB 1) v21 x.2.2.2.2.2.2.2.2.2.2.1.1.2.2.2.1, LentQ Rp.u8 τ.u8 (markB 1) v22 x.2.2.2.2.2.2.2.2.2.2.1.1.2.2.2.2.1, LentQ Rp.u8 τ.u8 (markB 1) v26 x.2.2.2.2.2.2.2.2.2.2.1.2.1.2.2.2.1, LentQ Rp.u8 τ.u8 (markB 1) v27 x.2.2.2.2.2.2.2.2.2.2.1.2.1.2.2.2.2.1] m := by
  obtain ⟨c, d, rfl, k1, k2, dj, s1, s2, o, k3, k4, _, t1, _, r, _⟩ := r
  obtain ⟨v8, v9, v10, v11, v12, v14, v15, v16, v17, v21, v22, v26, v27, rfl, h1, h2, h3, h4, h5, h6, h7, h18, h19, h20, h23, h24, h25, h28, st⟩ := FrmL.open1 (τ := τ) r
  obtain rfl : c = [byteV x.1] := o
  exact ⟨v8, v9, v10, v11, v12, v14, v15, v16, v17, v21, v22, v26, v27, rfl, h1, h2, h3, h4, h5, h6, h7, h18, h19, h20, h23, h24, h25, h28, Sat.mono (Fr.sub_trans t1 s2) st⟩
theorem FrmL.mk12 {τ : Tys} {m : Fr}   (s : Sat [] m) : (Lp.unit).own [] () m := by
  exact rfl
theorem FrmL.mk11 {τ : Tys} {m : Fr} {x28 : Int} (h28 : InI64 x28) (s : Sat [] m) : (Lp.prod (Lp.pure Rp.i64) (Lp.unit)).own [.int .i64 x28] (x28, ()) m := by
  exact Lp.own_pure_prod (T := Rp.i64) (c := [.int .i64 x28]) ⟨rfl, h28⟩ (FrmL.mk12 (τ := τ)  s)
theorem FrmL.mk10 {τ : Tys} {m : Fr} {x18 : Int} {x19 : Int} {x20 : Int} {x21 : List UInt8} {v21 : Value} {x22 : List UInt8} {v22 : Value} {x23 : Int} {x24 : Int} {x25 : Int} {x26 : List UInt8} {v26 : Value} {x27 : List UInt8} {v27 : Value} {x28 : Int} (h18 : InI64 x18) (h19 : InI64 x19) (h20 : InI64 x20) (h23 : InI64 x23) (h24 : InI64 x24) (h25 : InI64 x25) (h28 : InI64 x28) (s : Sat [LentQ Rp.u8 τ.u8 (markB 1) v21 x21, LentQ Rp.u8 τ.u8 (markB 1) v22 x22, LentQ Rp.u8 τ.u8 (markB 1) v26 x26, LentQ Rp.u8 τ.u8 (markB 1) v27 x27] m) : (Lp.prod (EvdL τ) (Lp.prod (Lp.pure Rp.i64) (Lp.unit))).own [.int .i64 x18, .int .i64 x19, .int .i64 x20, v21, v22, .int .i64 x23, .int .i64 x24, .int .i64 x25, v26, v27, .int .i64 x28] (((x18, x19, x20, x21, x22, ()), (x23, x24, x25, x26, x27, ()), ()), x28, ()) m := by
  obtain ⟨k1, k2, dj, s1, s2, o, st⟩ := Sat.split (η := [LentQ Rp.u8 τ.u8 (markB 1) v21 x21, LentQ Rp.u8 τ.u8 (markB 1) v22 x22, LentQ Rp.u8 τ.u8 (markB 1) v26 x26, LentQ Rp.u8 τ.u8 (markB 1) v27 x27]) s
  exact ⟨[.int .i64 x18, .int .i64 x19, .int .i64 x20, v21, v22, .int .i64 x23, .int .i64 x24, .int .i64 x25, v26, v27], [.int .i64 x28], rfl, k1, k2, dj, s1, s2, EvdL.mk (τ := τ) h18 h19 h20 h23 h24 h25 o, k2, Fr.emp, Fr.disj_symm (Fr.emp_disj _), Fr.sub_refl _, Fr.emp_sub _, FrmL.mk11 (τ := τ) h28 st, trivial⟩
theorem FrmL.mk9 {τ : Tys} {m : Fr} {x17 : List RecT} {v17 : Value} {x18 : Int} {x19 : Int} {x20 : Int} {x21 : List UInt8} {v21 : Value} {x22 : List UInt8} {v22 : Value} {x23 : Int} {x24 : Int} {x25 : Int} {x26 : List UInt8} {v26 : Value} {x27 : List UInt8} {v27 : Value} {x28 : Int} (h18 : InI64 x18) (h19 : InI64 x19) (h20 : InI64 x20) (h23 : InI64 x23) (h24 : InI64 x24) (h25 : InI64 x25) (h28 : InI64 x28) (s : Sat [LentL (RecL τ) τ.recd (markRec 1) v17 x17, LentQ Rp.u8 τ.u8 (markB 1) v21 x21, LentQ Rp.u8 τ.u8 (markB 1) v22 x22, LentQ Rp.u8 τ.u8 (markB 1) v26 x26, LentQ Rp.u8 τ.u8 (markB 1) v27 x27] m) : (Lp.prod (Lp.list (RecL τ) τ.recd (markRec 1)) (Lp.prod (EvdL τ) (Lp.prod (Lp.pure Rp.i64) (Lp.unit)))).own [v17, .int .i64 x18, .int .i64 x19, .int .i64 x20, v21, v22, .int .i64 x23, .int .i64 x24, .int .i64 x25, v26, v27, .int .i64 x28] (x17, ((x18, x19, x20, x21, x22, ()), (x23, x24, x25, x26, x27, ()), ()), x28, ()) m := by
  obtain ⟨k1, k2, dj, s1, s2, o, st⟩ := s
  exact ⟨[v17], [.int .i64 x18, .int .i64 x19, .int .i64 x20, v21, v22, .int .i64 x23, .int .i64 x24, .int .i64 x25, v26, v27, .int .i64 x28], rfl, k1, k2, dj, s1, s2, ⟨v17, rfl, o⟩, k2, Fr.emp, Fr.disj_symm (Fr.emp_disj _), Fr.sub_refl _, Fr.emp_sub _, FrmL.mk10 (τ := τ) h18 h19 h20 h23 h24 h25 h28 st, trivial⟩
theorem FrmL.mk8 {τ : Tys} {m : Fr} {x13 : UInt8} {x14 : List UInt8} {v14 : Value} {x15 : List UInt8} {v15 : Value} {x16 : List LeafT} {v16 : Value} {x17 : List RecT} {v17 : Value} {x18 : Int} {x19 : Int} {x20 : Int} {x21 : List UInt8} {v21 : Value} {x22 : List UInt8} {v22 : Value} {x23 : Int} {x24 : Int} {x25 : Int} {x26 : List UInt8} {v26 : Value} {x27 : List UInt8} {v27 : Value} {x28 : Int} (h18 : InI64 x18) (h19 : InI64 x19) (h20 : InI64 x20) (h23 : InI64 x23) (h24 : InI64 x24) (h25 : InI64 x25) (h28 : InI64 x28) (s : Sat [LentQ Rp.u8 τ.u8 (markB 1) v14 x14, LentQ Rp.u8 τ.u8 (markB 1) v15 x15, LentL (LeafL τ) τ.leaf (markLeaf 1) v16 x16, LentL (RecL τ) τ.recd (markRec 1) v17 x17, LentQ Rp.u8 τ.u8 (markB 1) v21 x21, LentQ Rp.u8 τ.u8 (markB 1) v22 x22, LentQ Rp.u8 τ.u8 (markB 1) v26 x26, LentQ Rp.u8 τ.u8 (markB 1) v27 x27] m) : (Lp.prod (NodeL τ) (Lp.prod (Lp.list (RecL τ) τ.recd (markRec 1)) (Lp.prod (EvdL τ) (Lp.prod (Lp.pure Rp.i64) (Lp.unit))))).own [byteV x13, v14, v15, v16, v17, .int .i64 x18, .int .i64 x19, .int .i64 x20, v21, v22, .int .i64 x23, .int .i64 x24, .int .i64 x25, v26, v27, .int .i64 x28] ((x13, x14, x15, x16, ()), x17, ((x18, x19, x20, x21, x22, ()), (x23, x24, x25, x26, x27, ()), ()), x28, ()) m := by
  obtain ⟨k1, k2, dj, s1, s2, o, st⟩ := Sat.split (η := [LentQ Rp.u8 τ.u8 (markB 1) v14 x14, LentQ Rp.u8 τ.u8 (markB 1) v15 x15, LentL (LeafL τ) τ.leaf (markLeaf 1) v16 x16]) s
  exact ⟨[byteV x13, v14, v15, v16], [v17, .int .i64 x18, .int .i64 x19, .int .i64 x20, v21, v22, .int .i64 x23, .int .i64 x24, .int .i64 x25, v26, v27, .int .i64 x28], rfl, k1, k2, dj, s1, s2, NodeL.mk (τ := τ)  o, k2, Fr.emp, Fr.disj_symm (Fr.emp_disj _), Fr.sub_refl _, Fr.emp_sub _, FrmL.mk9 (τ := τ) h18 h19 h20 h23 h24 h25 h28 st, trivial⟩
theorem FrmL.mk7 {τ : Tys} {m : Fr} {x11 : List (List UInt8)} {v11 : Value} {x12 : List StubT} {v12 : Value} {x13 : UInt8} {x14 : List UInt8} {v14 : Value} {x15 : List UInt8} {v15 : Value} {x16 : List LeafT} {v16 : Value} {x17 : List RecT} {v17 : Value} {x18 : Int} {x19 : Int} {x20 : Int} {x21 : List UInt8} {v21 : Value} {x22 : List UInt8} {v22 : Value} {x23 : Int} {x24 : Int} {x25 : Int} {x26 : List UInt8} {v26 : Value} {x27 : List UInt8} {v27 : Value} {x28 : Int} (h18 : InI64 x18) (h19 : InI64 x19) (h20 : InI64 x20) (h23 : InI64 x23) (h24 : InI64 x24) (h25 : InI64 x25) (h28 : InI64 x28) (s : Sat [LentL (Lp.flat Rp.u8 τ.u8 (markB 1)) τ.bytes (markT 1) v11 x11, LentL (StubL τ) τ.stub (markStub 1) v12 x12, LentQ Rp.u8 τ.u8 (markB 1) v14 x14, LentQ Rp.u8 τ.u8 (markB 1) v15 x15, LentL (LeafL τ) τ.leaf (markLeaf 1) v16 x16, LentL (RecL τ) τ.recd (markRec 1) v17 x17, LentQ Rp.u8 τ.u8 (markB 1) v21 x21, LentQ Rp.u8 τ.u8 (markB 1) v22 x22, LentQ Rp.u8 τ.u8 (markB 1) v26 x26, LentQ Rp.u8 τ.u8 (markB 1) v27 x27] m) : (Lp.prod (PrfL τ) (Lp.prod (NodeL τ) (Lp.prod (Lp.list (RecL τ) τ.recd (markRec 1)) (Lp.prod (EvdL τ) (Lp.prod (Lp.pure Rp.i64) (Lp.unit)))))).own [v11, v12, byteV x13, v14, v15, v16, v17, .int .i64 x18, .int .i64 x19, .int .i64 x20, v21, v22, .int .i64 x23, .int .i64 x24, .int .i64 x25, v26, v27, .int .i64 x28] ((x11, x12, ()), (x13, x14, x15, x16, ()), x17, ((x18, x19, x20, x21, x22, ()), (x23, x24, x25, x26, x27, ()), ()), x28, ()) m := by
  obtain ⟨k1, k2, dj, s1, s2, o, st⟩ := Sat.split (η := [LentL (Lp.flat Rp.u8 τ.u8 (markB 1)) τ.bytes (markT 1) v11 x11, LentL (StubL τ) τ.stub (markStub 1) v12 x12]) s
  exact ⟨[v11, v12], [byteV x13, v14, v15, v16, v17, .int .i64 x18, .int .i64 x19, .int .i64 x20, v21, v22, .int .i64 x23, .int .i64 x24, .int .i64 x25, v26, v27, .int .i64 x28], rfl, k1, k2, dj, s1, s2, PrfL.mk (τ := τ)  o, k2, Fr.emp, Fr.disj_symm (Fr.emp_disj _), Fr.sub_refl _, Fr.emp_sub _, FrmL.mk8 (τ := τ) h18 h19 h20 h23 h24 h25 h28 st, trivial⟩
theorem FrmL.mk6 {τ : Tys} {m : Fr} {x10 : List UInt8} {v10 : Value} {x11 : List (List UInt8)} {v11 : Value} {x12 : List StubT} {v12 : Value} {x13 : UInt8} {x14 : List UInt8} {v14 : Value} {x15 : List UInt8} {v15 : Value} {x16 : List LeafT} {v16 : Value} {x17 : List RecT} {v17 : Value} {x18 : Int} {x19 : Int} {x20 : Int} {x21 : List UInt8} {v21 : Value} {x22 : List UInt8} {v22 : Value} {x23 : Int} {x24 : Int} {x25 : Int} {x26 : List UInt8} {v26 : Value} {x27 : List UInt8} {v27 : Value} {x28 : Int} (h18 : InI64 x18) (h19 : InI64 x19) (h20 : InI64 x20) (h23 : InI64 x23) (h24 : InI64 x24) (h25 : InI64 x25) (h28 : InI64 x28) (s : Sat [LentQ Rp.u8 τ.u8 (markB 1) v10 x10, LentL (Lp.flat Rp.u8 τ.u8 (markB 1)) τ.bytes (markT 1) v11 x11, LentL (StubL τ) τ.stub (markStub 1) v12 x12, LentQ Rp.u8 τ.u8 (markB 1) v14 x14, LentQ Rp.u8 τ.u8 (markB 1) v15 x15, LentL (LeafL τ) τ.leaf (markLeaf 1) v16 x16, LentL (RecL τ) τ.recd (markRec 1) v17 x17, LentQ Rp.u8 τ.u8 (markB 1) v21 x21, LentQ Rp.u8 τ.u8 (markB 1) v22 x22, LentQ Rp.u8 τ.u8 (markB 1) v26 x26, LentQ Rp.u8 τ.u8 (markB 1) v27 x27] m) : (Lp.prod (Lp.flat Rp.u8 τ.u8 (markB 1)) (Lp.prod (PrfL τ) (Lp.prod (NodeL τ) (Lp.prod (Lp.list (RecL τ) τ.recd (markRec 1)) (Lp.prod (EvdL τ) (Lp.prod (Lp.pure Rp.i64) (Lp.unit))))))).own [v10, v11, v12, byteV x13, v14, v15, v16, v17, .int .i64 x18, .int .i64 x19, .int .i64 x20, v21, v22, .int .i64 x23, .int .i64 x24, .int .i64 x25, v26, v27, .int .i64 x28] (x10, (x11, x12, ()), (x13, x14, x15, x16, ()), x17, ((x18, x19, x20, x21, x22, ()), (x23, x24, x25, x26, x27, ()), ()), x28, ()) m := by
  obtain ⟨k1, k2, dj, s1, s2, o, st⟩ := s
  exact ⟨[v10], [v11, v12, byteV x13, v14, v15, v16, v17, .int .i64 x18, .int .i64 x19, .int .i64 x20, v21, v22, .int .i64 x23, .int .i64 x24, .int .i64 x25, v26, v27, .int .i64 x28], rfl, k1, k2, dj, s1, s2, ⟨v10, rfl, o⟩, k2, Fr.emp, Fr.disj_symm (Fr.emp_disj _), Fr.sub_refl _, Fr.emp_sub _, FrmL.mk7 (τ := τ) h18 h19 h20 h23 h24 h25 h28 st, trivial⟩
theorem FrmL.mk5 {τ : Tys} {m : Fr} {x5 : Int} {x6 : Int} {x7 : Int} {x8 : List UInt8} {v8 : Value} {x9 : List UInt8} {v9 : Value} {x10 : List UInt8} {v10 : Value} {x11 : List (List UInt8)} {v11 : Value} {x12 : List StubT} {v12 : Value} {x13 : UInt8} {x14 : List UInt8} {v14 : Value} {x15 : List UInt8} {v15 : Value} {x16 : List LeafT} {v16 : Value} {x17 : List RecT} {v17 : Value} {x18 : Int} {x19 : Int} {x20 : Int} {x21 : List UInt8} {v21 : Value} {x22 : List UInt8} {v22 : Value} {x23 : Int} {x24 : Int} {x25 : Int} {x26 : List UInt8} {v26 : Value} {x27 : List UInt8} {v27 : Value} {x28 : Int} (h5 : InI64 x5) (h6 : InI64 x6) (h7 : InI64 x7) (h18 : InI64 x18) (h19 : InI64 x19) (h20 : InI64 x20) (h23 : InI64 x23) (h24 : InI64 x24) (h25 : InI64 x25) (h28 : InI64 x28) (s : Sat [LentQ Rp.u8 τ.u8 (markB 1) v8 x8, LentQ Rp.u8 τ.u8 (markB 1) v9 x9, LentQ Rp.u8 τ.u8 (markB 1) v10 x10, LentL (Lp.flat Rp.u8 τ.u8 (markB 1)) τ.bytes (markT 1) v11 x11, LentL (StubL τ) τ.stub (markStub 1) v12 x12, LentQ Rp.u8 τ.u8 (markB 1) v14 x14, LentQ Rp.u8 τ.u8 (markB 1) v15 x15, LentL (LeafL τ) τ.leaf (markLeaf 1) v16 x16, LentL (RecL τ) τ.recd (markRec 1) v17 x17, LentQ Rp.u8 τ.u8 (markB 1) v21 x21, LentQ Rp.u8 τ.u8 (markB 1) v22 x22, LentQ Rp.u8 τ.u8 (markB 1) v26 x26, LentQ Rp.u8 τ.u8 (markB 1) v27 x27] m) : (Lp.prod (RootL τ) (Lp.prod (Lp.flat Rp.u8 τ.u8 (markB 1)) (Lp.prod (PrfL τ) (Lp.prod (NodeL τ) (Lp.prod (Lp.list (RecL τ) τ.recd (markRec 1)) (Lp.prod (EvdL τ) (Lp.prod (Lp.pure Rp.i64) (Lp.unit)))))))).own [.int .i64 x5, .int .i64 x6, .int .i64 x7, v8, v9, v10, v11, v12, byteV x13, v14, v15, v16, v17, .int .i64 x18, .int .i64 x19, .int .i64 x20, v21, v22, .int .i64 x23, .int .i64 x24, .int .i64 x25, v26, v27, .int .i64 x28] ((x5, x6, x7, x8, x9, ()), x10, (x11, x12, ()), (x13, x14, x15, x16, ()), x17, ((x18, x19, x20, x21, x22, ()), (x23, x24, x25, x26, x27, ()), ()), x28, ()) m := by
  obtain ⟨k1, k2, dj, s1, s2, o, st⟩ := Sat.split (η := [LentQ Rp.u8 τ.u8 (markB 1) v8 x8, LentQ Rp.u8 τ.u8 (markB 1) v9 x9]) s
  exact ⟨[.int .i64 x5, .int .i64 x6, .int .i64 x7, v8, v9], [v10, v11, v12, byteV x13, v14, v15, v16, v17, .int .i64 x18, .int .i64 x19, .int .i64 x20, v21, v22, .int .i64 x23, .int .i64 x24, .int .i64 x25, v26, v27, .int .i64 x28], rfl, k1, k2, dj, s1, s2, RootL.mk (τ := τ) h5 h6 h7 o, k2, Fr.emp, Fr.disj_symm (Fr.emp_disj _), Fr.sub_refl _, Fr.emp_sub _, FrmL.mk6 (τ := τ) h18 h19 h20 h23 h24 h25 h28 st, trivial⟩
theorem FrmL.mk4 {τ : Tys} {m : Fr} {x4 : List UInt8} {x5 : Int} {x6 : Int} {x7 : Int} {x8 : List UInt8} {v8 : Value} {x9 : List UInt8} {v9 : Value} {x10 : List UInt8} {v10 : Value} {x11 : List (List UInt8)} {v11 : Value} {x12 : List StubT} {v12 : Value} {x13 : UInt8} {x14 : List UInt8} {v14 : Value} {x15 : List UInt8} {v15 : Value} {x16 : List LeafT} {v16 : Value} {x17 : List RecT} {v17 : Value} {x18 : Int} {x19 : Int} {x20 : Int} {x21 : List UInt8} {v21 : Value} {x22 : List UInt8} {v22 : Value} {x23 : Int} {x24 : Int} {x25 : Int} {x26 : List UInt8} {v26 : Value} {x27 : List UInt8} {v27 : Value} {x28 : Int} (h4 : x4.length ≤ 9223372036854775807) (h5 : InI64 x5) (h6 : InI64 x6) (h7 : InI64 x7) (h18 : InI64 x18) (h19 : InI64 x19) (h20 : InI64 x20) (h23 : InI64 x23) (h24 : InI64 x24) (h25 : InI64 x25) (h28 : InI64 x28) (s : Sat [LentQ Rp.u8 τ.u8 (markB 1) v8 x8, LentQ Rp.u8 τ.u8 (markB 1) v9 x9, LentQ Rp.u8 τ.u8 (markB 1) v10 x10, LentL (Lp.flat Rp.u8 τ.u8 (markB 1)) τ.bytes (markT 1) v11 x11, LentL (StubL τ) τ.stub (markStub 1) v12 x12, LentQ Rp.u8 τ.u8 (markB 1) v14 x14, LentQ Rp.u8 τ.u8 (markB 1) v15 x15, LentL (LeafL τ) τ.leaf (markLeaf 1) v16 x16, LentL (RecL τ) τ.recd (markRec 1) v17 x17, LentQ Rp.u8 τ.u8 (markB 1) v21 x21, LentQ Rp.u8 τ.u8 (markB 1) v22 x22, LentQ Rp.u8 τ.u8 (markB 1) v26 x26, LentQ Rp.u8 τ.u8 (markB 1) v27 x27] m) : (Lp.prod (Lp.pure Rp.str) (Lp.prod (RootL τ) (Lp.prod (Lp.flat Rp.u8 τ.u8 (markB 1)) (Lp.prod (PrfL τ) (Lp.prod (NodeL τ) (Lp.prod (Lp.list (RecL τ) τ.recd (markRec 1)) (Lp.prod (EvdL τ) (Lp.prod (Lp.pure Rp.i64) (Lp.unit))))))))).own [.string (str x4), .int .i64 x5, .int .i64 x6, .int .i64 x7, v8, v9, v10, v11, v12, byteV x13, v14, v15, v16, v17, .int .i64 x18, .int .i64 x19, .int .i64 x20, v21, v22, .int .i64 x23, .int .i64 x24, .int .i64 x25, v26, v27, .int .i64 x28] (x4, (x5, x6, x7, x8, x9, ()), x10, (x11, x12, ()), (x13, x14, x15, x16, ()), x17, ((x18, x19, x20, x21, x22, ()), (x23, x24, x25, x26, x27, ()), ()), x28, ()) m := by
  exact Lp.own_pure_prod (T := Rp.str) (c := [.string (str x4)]) ⟨rfl, h4⟩ (FrmL.mk5 (τ := τ) h5 h6 h7 h18 h19 h20 h23 h24 h25 h28 s)
theorem FrmL.mk3 {τ : Tys} {m : Fr} {x3 : List UInt8} {x4 : List UInt8} {x5 : Int} {x6 : Int} {x7 : Int} {x8 : List UInt8} {v8 : Value} {x9 : List UInt8} {v9 : Value} {x10 : List UInt8} {v10 : Value} {x11 : List (List UInt8)} {v11 : Value} {x12 : List StubT} {v12 : Value} {x13 : UInt8} {x14 : List UInt8} {v14 : Value} {x15 : List UInt8} {v15 : Value} {x16 : List LeafT} {v16 : Value} {x17 : List RecT} {v17 : Value} {x18 : Int} {x19 : Int} {x20 : Int} {x21 : List UInt8} {v21 : Value} {x22 : List UInt8} {v22 : Value} {x23 : Int} {x24 : Int} {x25 : Int} {x26 : List UInt8} {v26 : Value} {x27 : List UInt8} {v27 : Value} {x28 : Int} (h3 : x3.length ≤ 9223372036854775807) (h4 : x4.length ≤ 9223372036854775807) (h5 : InI64 x5) (h6 : InI64 x6) (h7 : InI64 x7) (h18 : InI64 x18) (h19 : InI64 x19) (h20 : InI64 x20) (h23 : InI64 x23) (h24 : InI64 x24) (h25 : InI64 x25) (h28 : InI64 x28) (s : Sat [LentQ Rp.u8 τ.u8 (markB 1) v8 x8, LentQ Rp.u8 τ.u8 (markB 1) v9 x9, LentQ Rp.u8 τ.u8 (markB 1) v10 x10, LentL (Lp.flat Rp.u8 τ.u8 (markB 1)) τ.bytes (markT 1) v11 x11, LentL (StubL τ) τ.stub (markStub 1) v12 x12, LentQ Rp.u8 τ.u8 (markB 1) v14 x14, LentQ Rp.u8 τ.u8 (markB 1) v15 x15, LentL (LeafL τ) τ.leaf (markLeaf 1) v16 x16, LentL (RecL τ) τ.recd (markRec 1) v17 x17, LentQ Rp.u8 τ.u8 (markB 1) v21 x21, LentQ Rp.u8 τ.u8 (markB 1) v22 x22, LentQ Rp.u8 τ.u8 (markB 1) v26 x26, LentQ Rp.u8 τ.u8 (markB 1) v27 x27] m) : (Lp.prod (Lp.pure Rp.str) (Lp.prod (Lp.pure Rp.str) (Lp.prod (RootL τ) (Lp.prod (Lp.flat Rp.u8 τ.u8 (markB 1)) (Lp.prod (PrfL τ) (Lp.prod (NodeL τ) (Lp.prod (Lp.list (RecL τ) τ.recd (markRec 1)) (Lp.prod (EvdL τ) (Lp.prod (Lp.pure Rp.i64) (Lp.unit)))))))))).own [.string (str x3), .string (str x4), .int .i64 x5, .int .i64 x6, .int .i64 x7, v8, v9, v10, v11, v12, byteV x13, v14, v15, v16, v17, .int .i64 x18, .int .i64 x19, .int .i64 x20, v21, v22, .int .i64 x23, .int .i64 x24, .int .i64 x25, v26, v27, .int .i64 x28] (x3, x4, (x5, x6, x7, x8, x9, ()), x10, (x11, x12, ()), (x13, x14, x15, x16, ()), x17, ((x18, x19, x20, x21, x22, ()), (x23, x24, x25, x26, x27, ()), ()), x28, ()) m := by
  exact Lp.own_pure_prod (T := Rp.str) (c := [.string (str x3)]) ⟨rfl, h3⟩ (FrmL.mk4 (τ := τ) h4 h5 h6 h7 h18 h19 h20 h23 h24 h25 h28 s)
theorem FrmL.mk2 {τ : Tys} {m : Fr} {x2 : Int} {x3 : List UInt8} {x4 : List UInt8} {x5 : Int} {x6 : Int} {x7 : Int} {x8 : List UInt8} {v8 : Value} {x9 : List UInt8} {v9 : Value} {x10 : List UInt8} {v10 : Value} {x11 : List (List UInt8)} {v11 : Value} {x12 : List StubT} {v12 : Value} {x13 : UInt8} {x14 : List UInt8} {v14 : Value} {x15 : List UInt8} {v15 : Value} {x16 : List LeafT} {v16 : Value} {x17 : List RecT} {v17 : Value} {x18 : Int} {x19 : Int} {x20 : Int} {x21 : List UInt8} {v21 : Value} {x22 : List UInt8} {v22 : Value} {x23 : Int} {x24 : Int} {x25 : Int} {x26 : List UInt8} {v26 : Value} {x27 : List UInt8} {v27 : Value} {x28 : Int} (h2 : InI64 x2) (h3 : x3.length ≤ 9223372036854775807) (h4 : x4.length ≤ 9223372036854775807) (h5 : InI64 x5) (h6 : InI64 x6) (h7 : InI64 x7) (h18 : InI64 x18) (h19 : InI64 x19) (h20 : InI64 x20) (h23 : InI64 x23) (h24 : InI64 x24) (h25 : InI64 x25) (h28 : InI64 x28) (s : Sat [LentQ Rp.u8 τ.u8 (markB 1) v8 x8, LentQ Rp.u8 τ.u8 (markB 1) v9 x9, LentQ Rp.u8 τ.u8 (markB 1) v10 x10, LentL (Lp.flat Rp.u8 τ.u8 (markB 1)) τ.bytes (markT 1) v11 x11, LentL (StubL τ) τ.stub (markStub 1) v12 x12, LentQ Rp.u8 τ.u8 (markB 1) v14 x14, LentQ Rp.u8 τ.u8 (markB 1) v15 x15, LentL (LeafL τ) τ.leaf (markLeaf 1) v16 x16, LentL (RecL τ) τ.recd (markRec 1) v17 x17, LentQ Rp.u8 τ.u8 (markB 1) v21 x21, LentQ Rp.u8 τ.u8 (markB 1) v22 x22, LentQ Rp.u8 τ.u8 (markB 1) v26 x26, LentQ Rp.u8 τ.u8 (markB 1) v27 x27] m) : (Lp.prod (Lp.pure Rp.i64) (Lp.prod (Lp.pure Rp.str) (Lp.prod (Lp.pure Rp.str) (Lp.prod (RootL τ) (Lp.prod (Lp.flat Rp.u8 τ.u8 (markB 1)) (Lp.prod (PrfL τ) (Lp.prod (NodeL τ) (Lp.prod (Lp.list (RecL τ) τ.recd (markRec 1)) (Lp.prod (EvdL τ) (Lp.prod (Lp.pure Rp.i64) (Lp.unit))))))))))).own [.int .i64 x2, .string (str x3), .string (str x4), .int .i64 x5, .int .i64 x6, .int .i64 x7, v8, v9, v10, v11, v12, byteV x13, v14, v15, v16, v17, .int .i64 x18, .int .i64 x19, .int .i64 x20, v21, v22, .int .i64 x23, .int .i64 x24, .int .i64 x25, v26, v27, .int .i64 x28] (x2, x3, x4, (x5, x6, x7, x8, x9, ()), x10, (x11, x12, ()), (x13, x14, x15, x16, ()), x17, ((x18, x19, x20, x21, x22, ()), (x23, x24, x25, x26, x27, ()), ()), x28, ()) m := by
  exact Lp.own_pure_prod (T := Rp.i64) (c := [.int .i64 x2]) ⟨rfl, h2⟩ (FrmL.mk3 (τ := τ) h3 h4 h5 h6 h7 h18 h19 h20 h23 h24 h25 h28 s)
theorem FrmL.mk1 {τ : Tys} {m : Fr} {x1 : Int} {x2 : Int} {x3 : List UInt8} {x4 : List UInt8} {x5 : Int} {x6 : Int} {x7 : Int} {x8 : List UInt8} {v8 : Value} {x9 : List UInt8} {v9 : Value} {x10 : List UInt8} {v10 : Value} {x11 : List (List UInt8)} {v11 : Value} {x12 : List StubT} {v12 : Value} {x13 : UInt8} {x14 : List UInt8} {v14 : Value} {x15 : List UInt8} {v15 : Value} {x16 : List LeafT} {v16 : Value} {x17 : List RecT} {v17 : Value} {x18 : Int} {x19 : Int} {x20 : Int} {x21 : List UInt8} {v21 : Value} {x22 : List UInt8} {v22 : Value} {x23 : Int} {x24 : Int} {x25 : Int} {x26 : List UInt8} {v26 : Value} {x27 : List UInt8} {v27 : Value} {x28 : Int} (h1 : InI64 x1) (h2 : InI64 x2) (h3 : x3.length ≤ 9223372036854775807) (h4 : x4.length ≤ 9223372036854775807) (h5 : InI64 x5) (h6 : InI64 x6) (h7 : InI64 x7) (h18 : InI64 x18) (h19 : InI64 x19) (h20 : InI64 x20) (h23 : InI64 x23) (h24 : InI64 x24) (h25 : InI64 x25) (h28 : InI64 x28) (s : Sat [LentQ Rp.u8 τ.u8 (markB 1) v8 x8, LentQ Rp.u8 τ.u8 (markB 1) v9 x9, LentQ Rp.u8 τ.u8 (markB 1) v10 x10, LentL (Lp.flat Rp.u8 τ.u8 (markB 1)) τ.bytes (markT 1) v11 x11, LentL (StubL τ) τ.stub (markStub 1) v12 x12, LentQ Rp.u8 τ.u8 (markB 1) v14 x14, LentQ Rp.u8 τ.u8 (markB 1) v15 x15, LentL (LeafL τ) τ.leaf (markLeaf 1) v16 x16, LentL (RecL τ) τ.recd (markRec 1) v17 x17, LentQ Rp.u8 τ.u8 (markB 1) v21 x21, LentQ Rp.u8 τ.u8 (markB 1) v22 x22, LentQ Rp.u8 τ.u8 (markB 1) v26 x26, LentQ Rp.u8 τ.u8 (markB 1) v27 x27] m) : (Lp.prod (Lp.pure Rp.i64) (Lp.prod (Lp.pure Rp.i64) (Lp.prod (Lp.pure Rp.str) (Lp.prod (Lp.pure Rp.str) (Lp.prod (RootL τ) (Lp.prod (Lp.flat Rp.u8 τ.u8 (markB 1)) (Lp.prod (PrfL τ) (Lp.prod (NodeL τ) (Lp.prod (Lp.list (RecL τ) τ.recd (markRec 1)) (Lp.prod (EvdL τ) (Lp.prod (Lp.pure Rp.i64) (Lp.unit)))))))))))).own [.int .i64 x1, .int .i64 x2, .string (str x3), .string (str x4), .int .i64 x5, .int .i64 x6, .int .i64 x7, v8, v9, v10, v11, v12, byteV x13, v14, v15, v16, v17, .int .i64 x18, .int .i64 x19, .int .i64 x20, v21, v22, .int .i64 x23, .int .i64 x24, .int .i64 x25, v26, v27, .int .i64 x28] (x1, x2, x3, x4, (x5, x6, x7, x8, x9, ()), x10, (x11, x12, ()), (x13, x14, x15, x16, ()), x17, ((x18, x19, x20, x21, x22, ()), (x23, x24, x25, x26, x27, ()), ()), x28, ()) m := by
  exact Lp.own_pure_prod (T := Rp.i64) (c := [.int .i64 x1]) ⟨rfl, h1⟩ (FrmL.mk2 (τ := τ) h2 h3 h4 h5 h6 h7 h18 h19 h20 h23 h24 h25 h28 s)
theorem FrmL.mk {τ : Tys} {m : Fr} {x0 : UInt8} {x1 : Int} {x2 : Int} {x3 : List UInt8} {x4 : List UInt8} {x5 : Int} {x6 : Int} {x7 : Int} {x8 : List UInt8} {v8 : Value} {x9 : List UInt8} {v9 : Value} {x10 : List UInt8} {v10 : Value} {x11 : List (List UInt8)} {v11 : Value} {x12 : List StubT} {v12 : Value} {x13 : UInt8} {x14 : List UInt8} {v14 : Value} {x15 : List UInt8} {v15 : Value} {x16 : List LeafT} {v16 : Value} {x17 : List RecT} {v17 : Value} {x18 : Int} {x19 : Int} {x20 : Int} {x21 : List UInt8} {v21 : Value} {x22 : List UInt8} {v22 : Value} {x23 : Int} {x24 : Int} {x25 : Int} {x26 : List UInt8} {v26 : Value} {x27 : List UInt8} {v27 : Value} {x28 : Int} (h1 : InI64 x1) (h2 : InI64 x2) (h3 : x3.length ≤ 9223372036854775807) (h4 : x4.length ≤ 9223372036854775807) (h5 : InI64 x5) (h6 : InI64 x6) (h7 : InI64 x7) (h18 : InI64 x18) (h19 : InI64 x19) (h20 : InI64 x20) (h23 : InI64 x23) (h24 : InI64 x24) (h25 : InI64 x25) (h28 : InI64 x28) (s : Sat [LentQ Rp.u8 τ.u8 (markB 1) v8 x8, LentQ Rp.u8 τ.u8 (markB 1) v9 x9, LentQ Rp.u8 τ.u8 (markB 1) v10 x10, LentL (Lp.flat Rp.u8 τ.u8 (markB 1)) τ.bytes (markT 1) v11 x11, LentL (StubL τ) τ.stub (markStub 1) v12 x12, LentQ Rp.u8 τ.u8 (markB 1) v14 x14, LentQ Rp.u8 τ.u8 (markB 1) v15 x15, LentL (LeafL τ) τ.leaf (markLeaf 1) v16 x16, LentL (RecL τ) τ.recd (markRec 1) v17 x17, LentQ Rp.u8 τ.u8 (markB 1) v21 x21, LentQ Rp.u8 τ.u8 (markB 1) v22 x22, LentQ Rp.u8 τ.u8 (markB 1) v26 x26, LentQ Rp.u8 τ.u8 (markB 1) v27 x27] m) : (Lp.prod (Lp.pure Rp.u8) (Lp.prod (Lp.pure Rp.i64) (Lp.prod (Lp.pure Rp.i64) (Lp.prod (Lp.pure Rp.str) (Lp.prod (Lp.pure Rp.str) (Lp.prod (RootL τ) (Lp.prod (Lp.flat Rp.u8 τ.u8 (markB 1)) (Lp.prod (PrfL τ) (Lp.prod (NodeL τ) (Lp.prod (Lp.list (RecL τ) τ.recd (markRec 1)) (Lp.prod (EvdL τ) (Lp.prod (Lp.pure Rp.i64) (Lp.unit))))))))))))).own [byteV x0, .int .i64 x1, .int .i64 x2, .string (str x3), .string (str x4), .int .i64 x5, .int .i64 x6, .int .i64 x7, v8, v9, v10, v11, v12, byteV x13, v14, v15, v16, v17, .int .i64 x18, .int .i64 x19, .int .i64 x20, v21, v22, .int .i64 x23, .int .i64 x24, .int .i64 x25, v26, v27, .int .i64 x28] (x0, x1, x2, x3, x4, (x5, x6, x7, x8, x9, ()), x10, (x11, x12, ()), (x13, x14, x15, x16, ()), x17, ((x18, x19, x20, x21, x22, ()), (x23, x24, x25, x26, x27, ()), ()), x28, ()) m := by
  exact Lp.own_pure_prod (T := Rp.u8) (c := [byteV x0]) rfl (FrmL.mk1 (τ := τ) h1 h2 h3 h4 h5 h6 h7 h18 h19 h20 h23 h24 h25 h28 s)
theorem FrmL.opn {τ : Tys} {h : Fr} {cs : List Value} {x : FrmT} (r : (FrmL τ).rd h cs x) : ∃ v8 v9 v10 v11 v12 v14 v15 v16 v17 v21 v22 v26 v27, cs = [byteV x.1, .int .i64 x.2.1, .int .i64 x.2.2.1, .string (str x.2.2.2.1), .string (str x.2.2.2.2.1), .int .i64 x.2.2.2.2.2.1.1, .int .i64 x.2.2.2.2.2.1.2.1, .int .i64 x.2.2.2.2.2.1.2.2.1, v8, v9, v10, v11, v12, byteV x.2.2.2.2.2.2.2.2.1.1, v14, v15, v16, v17, .int .i64 x.2.2.2.2.2.2.2.2.2.2.1.1.1, .int .i64 x.2.2.2.2.2.2.2.2.2.2.1.1.2.1, .int .i64 x.2.2.2.2.2.2.2.2.2.2.1.1.2.2.1, v21, v22, .int .i64 x.2.2.2.2.2.2.2.2.2.2.1.2.1.1, .int .i64 x.2.2.2.2.2.2.2.2.2.2.1.2.1.2.1, .int .i64 x.2.2.2.2.2.2.2.2.2.2.1.2.1.2.2.1, v26, v27, .int .i64 x.2.2.2.2.2.2.2.2.2.2.2.1] ∧ InI64 x.2.1 ∧ InI64 x.2.2.1 ∧ x.2.2.2.1.length ≤ 9223372036854775807 ∧ x.2.2.2.2.1.length ≤ 9223372036854775807 ∧ InI64 x.2.2.2.2.2.1.1 ∧ InI64 x.2.2.2.2.2.1.2.1 ∧ InI64 x.2.2.2.2.2.1.2.2.1 ∧ LentQA Rp.u8 (markB 1) h v8 x.2.2.2.2.2.1.2.2.2.1 ∧ LentQA Rp.u8 (markB 1) h v9 x.2.2.2.2.2.1.2.2.2.2.1 ∧ LentQA Rp.u8 (markB 1) h v10 x.2.2.2.2.2.2.1 ∧ LentLA (Lp.flat Rp.u8 τ.u8 (markB 1)) (markT 1) h v11 x.2.2.2.2.2.2.2.1.1 ∧ LentLA (StubL τ) (markStub 1) h v12 x.2.2.2.2.2.2.2.1.2.1 ∧ LentQA Rp.u8 (markB 1) h v14 x.2.2.2.2.2.2.2.2.1.2.1 ∧ LentQA Rp.u8 (markB 1) h v15 x.2.2.2.2.2.2.2.2.1.2.2.1 ∧ LentLA (LeafL τ) (markLeaf 1) h v16 x.2.2.2.2.2.2.2.2.1.2.2.2.1 ∧ LentLA (RecL τ) (markRec 1) h v17 x.2.2.2.2.2.2.2.2.2.1 ∧ InI64 x.2.2.2.2.2.2.2.2.2.2.1.1.1 ∧ InI64 x.2.2.2.2.2.2.2.2.2.2.1.1.2.1 ∧ InI64 x.2.2.2.2.2.2.2.2.2.2.1.1.2.2.1 ∧ LentQA Rp.u8 (markB 1) h v21 x.2.2.2.2.2.2.2.2.2.2.1.1.2.2.2.1 ∧ LentQA Rp.u8 (markB 1) h v22 x.2.2.2.2.2.2.2.2.2.2.1.1.2.2.2.2.1 ∧ InI64 x.2.2.2.2.2.2.2.2.2.2.1.2.1.1 ∧ InI64 x.2.2.2.2.2.2.2.2.2.2.1.2.1.2.1 ∧ InI64 x.2.2.2.2.2.2.2.2.2.2.1.2.1.2.2.1 ∧ LentQA Rp.u8 (markB 1) h v26 x.2.2.2.2.2.2.2.2.2.2.1.2.1.2.2.2.1 ∧ LentQA Rp.u8 (markB 1) h v27 x.2.2.2.2.2.2.2.2.2.2.1.2.1.2.2.2.2.1 ∧ InI64 x.2.2.2.2.2.2.2.2.2.2.2.1 := by
  obtain ⟨c0, d0, rfl, r0, r⟩ := r
  obtain ⟨c1, d1, rfl, r1, r⟩ := r
  obtain ⟨c2, d2, rfl, r2, r⟩ := r
  obtain ⟨c3, d3, rfl, r3, r⟩ := r
  obtain ⟨c4, d4, rfl, r4, r⟩ := r
  obtain ⟨c5, d5, rfl, r5, r⟩ := r
  obtain ⟨c6, d6, rfl, r6, r⟩ := r
  obtain ⟨c7, d7, rfl, r7, r⟩ := r
  obtain ⟨c8, d8, rfl, r8, r⟩ := r
  obtain ⟨c9, d9, rfl, r9, r⟩ := r
  obtain ⟨c10, d10, rfl, r10, r⟩ := r
  obtain ⟨c11, d11, rfl, r11, r⟩ := r
  obtain rfl : d11 = [] := r
  obtain rfl : c0 = [byteV x.1] := r0
  obtain ⟨rfl, h1⟩ := r1
  obtain ⟨rfl, h2⟩ := r2
  obtain ⟨rfl, h3⟩ := r3
  obtain ⟨rfl, h4⟩ := r4
  obtain ⟨v8, v9, rfl, h5, h6, h7, h8, h9⟩ := RootL.opn (τ := τ) r5
  obtain ⟨v10, rfl, h10⟩ := r6
  obtain ⟨v11, v12, rfl, h11, h12⟩ := PrfL.opn (τ := τ) r7
  obtain ⟨v14, v15, v16, rfl, h14, h15, h16⟩ := NodeL.opn (τ := τ) r8
  obtain ⟨v17, rfl, h17⟩ := r9
  obtain ⟨v21, v22, v26, v27, rfl, h18, h19, h20, h21, h22, h23, h24, h25, h26, h27⟩ := EvdL.opn (τ := τ) r10
  obtain ⟨rfl, h28⟩ := r11
  exact ⟨v8, v9, v10, v11, v12, v14, v15, v16, v17, v21, v22, v26, v27, rfl, h1, h2, h3, h4, h5, h6, h7, h8, h9, h10, h11, h12, h14, h15, h16, h17, h18, h19, h20, h21, h22, h23, h24, h25, h26, h27, h28⟩
def FrmOk (N : Nat) (x : FrmT) : Prop := x.2.2.2.1.length ≤ N ∧ x.2.2.2.2.1.length ≤ N ∧ x.2.2.2.2.2.1.2.2.2.1.length ≤ N ∧ x.2.2.2.2.2.1.2.2.2.2.1.length ≤ N ∧ x.2.2.2.2.2.2.1.length ≤ N ∧ (x.2.2.2.2.2.2.2.1.1.length ≤ N ∧ ∀ y ∈ x.2.2.2.2.2.2.2.1.1, y.length ≤ N) ∧ (x.2.2.2.2.2.2.2.1.2.1.length ≤ N ∧ ∀ y ∈ x.2.2.2.2.2.2.2.1.2.1, StubOk N y) ∧ x.2.2.2.2.2.2.2.2.1.2.1.length ≤ N ∧ x.2.2.2.2.2.2.2.2.1.2.2.1.length ≤ N ∧ (x.2.2.2.2.2.2.2.2.1.2.2.2.1.length ≤ N ∧ ∀ y ∈ x.2.2.2.2.2.2.2.2.1.2.2.2.1, LeafOk N y) ∧ (x.2.2.2.2.2.2.2.2.2.1.length ≤ N ∧ ∀ y ∈ x.2.2.2.2.2.2.2.2.2.1, RecOk N y) ∧ x.2.2.2.2.2.2.2.2.2.2.1.1.2.2.2.1.length ≤ N ∧ x.2.2.2.2.2.2.2.2.2.2.1.1.2.2.2.2.1.length ≤ N ∧ x.2.2.2.2.2.2.2.2.2.2.1.2.1.2.2.2.1.length ≤ N ∧ x.2.2.2.2.2.2.2.2.2.2.1.2.1.2.2.2.2.1.length ≤ N
theorem FrmOk.mono {N M : Nat} {x : FrmT} (hM : N ≤ M) (h : FrmOk N x) : FrmOk M x := by
  obtain ⟨h0, h1, h2, h3, h4, h5, h6, h7, h8, h9, h10, h11, h12, h13, h14⟩ := h
  exact ⟨Nat.le_trans h0 hM, Nat.le_trans h1 hM, Nat.le_trans h2 hM, Nat.le_trans h3 hM, Nat.le_trans h4 hM, ⟨Nat.le_trans h5.1 hM, fun y hy => Nat.le_trans (h5.2 y hy) hM⟩, ⟨Nat.le_trans h6.1 hM, fun y hy => (StubOk.mono hM (h6.2 y hy))⟩, Nat.le_trans h7 hM, Nat.le_trans h8 hM, ⟨Nat.le_trans h9.1 hM, fun y hy => (LeafOk.mono hM (h9.2 y hy))⟩, ⟨Nat.le_trans h10.1 hM, fun y hy => (RecOk.mono hM (h10.2 y hy))⟩, Nat.le_trans h11 hM, Nat.le_trans h12 hM, Nat.le_trans h13 hM, Nat.le_trans h14 hM⟩
/-! buttress/api.Held -/
abbrev HeldT : Type := (List LeafT) × (List RootT) × (List EvdT) × (List Int) × Unit
abbrev HeldRp : Rp HeldT := Rp.prod (Rp.slice LeafRp) (Rp.prod (Rp.slice RootRp) (Rp.prod (Rp.slice EvdRp) (Rp.prod (Rp.slice Rp.i64) (Rp.unit))))
def markHeld (k i : Int) : HeldT := ([], [], [], [markZ k i], ())
theorem HeldRp.open {h : Fr} {cs : List Value} {x : HeldT} (r : HeldRp.rel h cs x) : ∃ v0 v1 v2 v3, cs = [v0, v1, v2, v3] ∧ Arr LeafRp h v0 x.1 ∧ Arr RootRp h v1 x.2.1 ∧ Arr EvdRp h v2 x.2.2.1 ∧ Arr Rp.i64 h v3 x.2.2.2.1 := by
  obtain ⟨c0, d0, rfl, r0, r⟩ := r
  obtain ⟨c1, d1, rfl, r1, r⟩ := r
  obtain ⟨c2, d2, rfl, r2, r⟩ := r
  obtain ⟨c3, d3, rfl, r3, r⟩ := r
  obtain rfl : d3 = [] := r
  obtain ⟨v0, rfl, h0⟩ := r0
  obtain ⟨v1, rfl, h1⟩ := r1
  obtain ⟨v2, rfl, h2⟩ := r2
  obtain ⟨v3, rfl, h3⟩ := r3
  exact ⟨v0, v1, v2, v3, rfl, h0, h1, h2, h3⟩
theorem HeldRp.sh {h : Fr} {cs : List Value} {x : HeldT} (r : HeldRp.rel h cs x) : ∃ a0 a1 a2 a3 c0 c1 c2 c3, cs = [.slice a0 x.1.length c0, .slice a1 x.2.1.length c1, .slice a2 x.2.2.1.length c2, .slice a3 x.2.2.2.1.length c3] ∧ Arr LeafRp h (.slice a0 x.1.length c0) x.1 ∧ Arr RootRp h (.slice a1 x.2.1.length c1) x.2.1 ∧ Arr EvdRp h (.slice a2 x.2.2.1.length c2) x.2.2.1 ∧ Arr Rp.i64 h (.slice a3 x.2.2.2.1.length c3) x.2.2.2.1 := by
  obtain ⟨v0, v1, v2, v3, rfl, h0, h1, h2, h3⟩ := HeldRp.open r
  obtain ⟨a0, c0, rfl⟩ := h0.shape
  obtain ⟨a1, c1, rfl⟩ := h1.shape
  obtain ⟨a2, c2, rfl⟩ := h2.shape
  obtain ⟨a3, c3, rfl⟩ := h3.shape
  exact ⟨a0, a1, a2, a3, c0, c1, c2, c3, rfl, h0, h1, h2, h3⟩
theorem HeldRp.mk {h : Fr} {x0 : List LeafT} {v0 : Value} {x1 : List RootT} {v1 : Value} {x2 : List EvdT} {v2 : Value} {x3 : List Int} {v3 : Value} (h0 : Arr LeafRp h v0 x0) (h1 : Arr RootRp h v1 x1) (h2 : Arr EvdRp h v2 x2) (h3 : Arr Rp.i64 h v3 x3) : HeldRp.rel h [v0, v1, v2, v3] (x0, x1, x2, x3, ()) :=
  ⟨[v0], [v1, v2, v3], rfl, ⟨v0, rfl, h0⟩, ⟨[v1], [v2, v3], rfl, ⟨v1, rfl, h1⟩, ⟨[v2], [v3], rfl, ⟨v2, rfl, h2⟩, ⟨[v3], [], rfl, ⟨v3, rfl, h3⟩, rfl⟩⟩⟩⟩
theorem HeldRp.k_eq : HeldRp.k = 4 := rfl
abbrev HeldG (τ : Tys) : Gp HeldT := Gp.prod (Gp.list (LeafG τ) τ.leaf) (Gp.prod (Gp.list (RootG τ) τ.root) (Gp.prod (Gp.list (EvdG τ) τ.evd) (Gp.prod (Gp.row Rp.i64 τ.int) (Gp.unit))))
abbrev HeldL (τ : Tys) : Lp HeldT := Lp.prod (Lp.list (LeafL τ) τ.leaf (markLeaf 1)) (Lp.prod (Lp.list (RootL τ) τ.root (markRoot 1)) (Lp.prod (Lp.list (EvdL τ) τ.evd (markEvd 1)) (Lp.prod (Lp.flat Rp.i64 τ.int (markZ 1)) (Lp.unit))))
theorem HeldG.open4 {τ : Tys} {cs : List Value} {x : Unit} {m : Fr} (r : (Gp.unit).own cs x m) : cs = [] ∧ Sat [] m := by
  exact ⟨r, trivial⟩
theorem HeldG.open3 {τ : Tys} {cs : List Value} {x : (List Int) × Unit} {m : Fr} (r : (Gp.prod (Gp.row Rp.i64 τ.int) (Gp.unit)).own cs x m) : ∃ v3, cs = [v3] ∧ Sat [OwnP Rp.i64 τ.int v3 x.1] m := by
  obtain ⟨c, d, rfl, k1, k2, dj, s1, s2, o, k3, k4, _, t1, _, r, _⟩ := r
  obtain ⟨rfl, st⟩ := HeldG.open4 (τ := τ) r
  obtain ⟨v, rfl, o⟩ := o
  exact ⟨v, rfl, ⟨k1, k3, Fr.disj_sub dj (Fr.sub_refl _) t1, s1, Fr.sub_trans t1 s2, o, st⟩⟩
theorem HeldG.open2 {τ : Tys} {cs : List Value} {x : (List EvdT) × (List Int) × Unit} {m : Fr} (r : (Gp.prod (Gp.list (EvdG τ) τ.evd) (Gp.prod (Gp.row Rp.i64 τ.int) (Gp.unit))).own cs x m) : ∃ v2 v3, cs = [v2, v3] ∧ Sat [ListP (EvdG τ) τ.evd v2 x.1, OwnP Rp.i64 τ.int v3 x.2.1] m := by
  obtain ⟨c, d, rfl, k1, k2, dj, s1, s2, o, k3, k4, _, t1, _, r, _⟩ := r
  obtain ⟨v3, rfl, st⟩ := HeldG.open3 (τ := τ) r
  obtain ⟨v, rfl, o⟩ := o
  exact ⟨v, v3, rfl, ⟨k1, k3, Fr.disj_sub dj (Fr.sub_refl _) t1, s1, Fr.sub_trans t1 s2, o, st⟩⟩
theorem HeldG.open1 {τ : Tys} {cs : List Value} {x : (List RootT) × (List EvdT) × (List Int) × Unit} {m : Fr} (r : (Gp.prod (Gp.list (RootG τ) τ.root) (Gp.prod (Gp.list (EvdG τ) τ.evd) (Gp.prod (Gp.row Rp.i64 τ.int) (Gp.unit)))).own cs x m) : ∃ v1 v2 v3, cs = [v1, v2, v3] ∧ Sat [ListP (RootG τ) τ.root v1 x.1, ListP (EvdG τ) τ.evd v2 x.2.1, OwnP Rp.i64 τ.int v3 x.2.2.1] m := by
  obtain ⟨c, d, rfl, k1, k2, dj, s1, s2, o, k3, k4, _, t1, _, r, _⟩ := r
  obtain ⟨v2, v3, rfl, st⟩ := HeldG.open2 (τ := τ) r
  obtain ⟨v, rfl, o⟩ := o
  exact ⟨v, v2, v3, rfl, ⟨k1, k3, Fr.disj_sub dj (Fr.sub_refl _) t1, s1, Fr.sub_trans t1 s2, o, st⟩⟩
theorem HeldG.open {τ : Tys} {cs : List Value} {x : (List LeafT) × (List RootT) × (List EvdT) × (List Int) × Unit} {m : Fr} (r : (Gp.prod (Gp.list (LeafG τ) τ.leaf) (Gp.prod (Gp.list (RootG τ) τ.root) (Gp.prod (Gp.list (EvdG τ) τ.evd) (Gp.prod (Gp.row Rp.i64 τ.int) (Gp.unit))))).own cs x m) : ∃ v0 v1 v2 v3, cs = [v0, v1, v2, v3] ∧ Sat [ListP (LeafG τ) τ.leaf v0 x.1, ListP (RootG τ) τ.root v1 x.2.1, ListP (EvdG τ) τ.evd v2 x.2.2.1, OwnP Rp.i64 τ.int v3 x.2.2.2.1] m := by
  obtain ⟨c, d, rfl, k1, k2, dj, s1, s2, o, k3, k4, _, t1, _, r, _⟩ := r
  obtain ⟨v1, v2, v3, rfl, st⟩ := HeldG.open1 (τ := τ) r
  obtain ⟨v, rfl, o⟩ := o
  exact ⟨v, v1, v2, v3, rfl, ⟨k1, k3, Fr.disj_sub dj (Fr.sub_refl _) t1, s1, Fr.sub_trans t1 s2, o, st⟩⟩
theorem HeldG.mk4 {τ : Tys} {m : Fr}   (s : Sat [] m) : (Gp.unit).own [] () m := by
  exact rfl
theorem HeldG.mk3 {τ : Tys} {m : Fr} {x3 : List Int} {v3 : Value}  (s : Sat [OwnP Rp.i64 τ.int v3 x3] m) : (Gp.prod (Gp.row Rp.i64 τ.int) (Gp.unit)).own [v3] (x3, ()) m := by
  obtain ⟨k1, k2, dj, s1, s2, o, st⟩ := s
  exact ⟨[v3], [], rfl, k1, k2, dj, s1, s2, ⟨v3, rfl, o⟩, k2, Fr.emp, Fr.disj_symm (Fr.emp_disj _), Fr.sub_refl _, Fr.emp_sub _, HeldG.mk4 (τ := τ)  st, trivial⟩
theorem HeldG.mk2 {τ : Tys} {m : Fr} {x2 : List EvdT} {v2 : Value} {x3 : List Int} {v3 : Value}  (s : Sat [ListP (EvdG τ) τ.evd v2 x2, OwnP Rp.i64 τ.int v3 x3] m) : (Gp.prod (Gp.list (EvdG τ) τ.evd) (Gp.prod (Gp.row Rp.i64 τ.int) (Gp.unit))).own [v2, v3] (x2, x3, ()) m := by
  obtain ⟨k1, k2, dj, s1, s2, o, st⟩ := s
  exact ⟨[v2], [v3], rfl, k1, k2, dj, s1, s2, ⟨v2, rfl, o⟩, k2, Fr.emp, Fr.disj_symm (Fr.emp_disj _), Fr.sub_refl _, Fr.emp_sub _, HeldG.mk3 (τ := τ)  st, trivial⟩
theorem HeldG.mk1 {τ : Tys} {m : Fr} {x1 : List RootT} {v1 : Value} {x2 : List EvdT} {v2 : Value} {x3 : List Int} {v3 : Value}  (s : Sat [ListP (RootG τ) τ.root v1 x1, ListP (EvdG τ) τ.evd v2 x2, OwnP Rp.i64 τ.int v3 x3] m) : (Gp.prod (Gp.list (RootG τ) τ.root) (Gp.prod (Gp.list (EvdG τ) τ.evd) (Gp.prod (Gp.row Rp.i64 τ.int) (Gp.unit)))).own [v1, v2, v3] (x1, x2, x3, ()) m := by
  obtain ⟨k1, k2, dj, s1, s2, o, st⟩ := s
  exact ⟨[v1], [v2, v3], rfl, k1, k2, dj, s1, s2, ⟨v1, rfl, o⟩, k2, Fr.emp, Fr.disj_symm (Fr.emp_disj _), Fr.sub_refl _, Fr.emp_sub _, HeldG.mk2 (τ := τ)  st, trivial⟩
theorem HeldG.mk {τ : Tys} {m : Fr} {x0 : List LeafT} {v0 : Value} {x1 : List RootT} {v1 : Value} {x2 : List EvdT} {v2 : Value} {x3 : List Int} {v3 : Value}  (s : Sat [ListP (LeafG τ) τ.leaf v0 x0, ListP (RootG τ) τ.root v1 x1, ListP (EvdG τ) τ.evd v2 x2, OwnP Rp.i64 τ.int v3 x3] m) : (Gp.prod (Gp.list (LeafG τ) τ.leaf) (Gp.prod (Gp.list (RootG τ) τ.root) (Gp.prod (Gp.list (EvdG τ) τ.evd) (Gp.prod (Gp.row Rp.i64 τ.int) (Gp.unit))))).own [v0, v1, v2, v3] (x0, x1, x2, x3, ()) m := by
  obtain ⟨k1, k2, dj, s1, s2, o, st⟩ := s
  exact ⟨[v0], [v1, v2, v3], rfl, k1, k2, dj, s1, s2, ⟨v0, rfl, o⟩, k2, Fr.emp, Fr.disj_symm (Fr.emp_disj _), Fr.sub_refl _, Fr.emp_sub _, HeldG.mk1 (τ := τ)  st, trivial⟩
theorem HeldL.open4 {τ : Tys} {cs : List Value} {x : Unit} {m : Fr} (r : (Lp.unit).own cs x m) : cs = [] ∧ Sat [] m := by
  exact ⟨r, trivial⟩
theorem HeldL.open3 {τ : Tys} {cs : List Value} {x : (List Int) × Unit} {m : Fr} (r : (Lp.prod (Lp.flat Rp.i64 τ.int (markZ 1)) (Lp.unit)).own cs x m) : ∃ v3, cs = [v3] ∧ Sat [LentQ Rp.i64 τ.int (markZ 1) v3 x.1] m := by
  obtain ⟨c, d, rfl, k1, k2, dj, s1, s2, o, k3, k4, _, t1, _, r, _⟩ := r
  obtain ⟨rfl, st⟩ := HeldL.open4 (τ := τ) r
  obtain ⟨v, rfl, o⟩ := o
  exact ⟨v, rfl, ⟨k1, k3, Fr.disj_sub dj (Fr.sub_refl _) t1, s1, Fr.sub_trans t1 s2, o, st⟩⟩
theorem HeldL.open2 {τ : Tys} {cs : List Value} {x : (List EvdT) × (List Int) × Unit} {m : Fr} (r : (Lp.prod (Lp.list (EvdL τ) τ.evd (markEvd 1)) (Lp.prod (Lp.flat Rp.i64 τ.int (markZ 1)) (Lp.unit))).own cs x m) : ∃ v2 v3, cs = [v2, v3] ∧ Sat [LentL (EvdL τ) τ.evd (markEvd 1) v2 x.1, LentQ Rp.i64 τ.int (markZ 1) v3 x.2.1] m := by
  obtain ⟨c, d, rfl, k1, k2, dj, s1, s2, o, k3, k4, _, t1, _, r, _⟩ := r
  obtain ⟨v3, rfl, st⟩ := HeldL.open3 (τ := τ) r
  obtain ⟨v, rfl, o⟩ := o
  exact ⟨v, v3, rfl, ⟨k1, k3, Fr.disj_sub dj (Fr.sub_refl _) t1, s1, Fr.sub_trans t1 s2, o, st⟩⟩
theorem HeldL.open1 {τ : Tys} {cs : List Value} {x : (List RootT) × (List EvdT) × (List Int) × Unit} {m : Fr} (r : (Lp.prod (Lp.list (RootL τ) τ.root (markRoot 1)) (Lp.prod (Lp.list (EvdL τ) τ.evd (markEvd 1)) (Lp.prod (Lp.flat Rp.i64 τ.int (markZ 1)) (Lp.unit)))).own cs x m) : ∃ v1 v2 v3, cs = [v1, v2, v3] ∧ Sat [LentL (RootL τ) τ.root (markRoot 1) v1 x.1, LentL (EvdL τ) τ.evd (markEvd 1) v2 x.2.1, LentQ Rp.i64 τ.int (markZ 1) v3 x.2.2.1] m := by
  obtain ⟨c, d, rfl, k1, k2, dj, s1, s2, o, k3, k4, _, t1, _, r, _⟩ := r
  obtain ⟨v2, v3, rfl, st⟩ := HeldL.open2 (τ := τ) r
  obtain ⟨v, rfl, o⟩ := o
  exact ⟨v, v2, v3, rfl, ⟨k1, k3, Fr.disj_sub dj (Fr.sub_refl _) t1, s1, Fr.sub_trans t1 s2, o, st⟩⟩
theorem HeldL.open {τ : Tys} {cs : List Value} {x : (List LeafT) × (List RootT) × (List EvdT) × (List Int) × Unit} {m : Fr} (r : (Lp.prod (Lp.list (LeafL τ) τ.leaf (markLeaf 1)) (Lp.prod (Lp.list (RootL τ) τ.root (markRoot 1)) (Lp.prod (Lp.list (EvdL τ) τ.evd (markEvd 1)) (Lp.prod (Lp.flat Rp.i64 τ.int (markZ 1)) (Lp.unit))))).own cs x m) : ∃ v0 v1 v2 v3, cs = [v0, v1, v2, v3] ∧ Sat [LentL (LeafL τ) τ.leaf (markLeaf 1) v0 x.1, LentL (RootL τ) τ.root (markRoot 1) v1 x.2.1, LentL (EvdL τ) τ.evd (markEvd 1) v2 x.2.2.1, LentQ Rp.i64 τ.int (markZ 1) v3 x.2.2.2.1] m := by
  obtain ⟨c, d, rfl, k1, k2, dj, s1, s2, o, k3, k4, _, t1, _, r, _⟩ := r
  obtain ⟨v1, v2, v3, rfl, st⟩ := HeldL.open1 (τ := τ) r
  obtain ⟨v, rfl, o⟩ := o
  exact ⟨v, v1, v2, v3, rfl, ⟨k1, k3, Fr.disj_sub dj (Fr.sub_refl _) t1, s1, Fr.sub_trans t1 s2, o, st⟩⟩
theorem HeldL.mk4 {τ : Tys} {m : Fr}   (s : Sat [] m) : (Lp.unit).own [] () m := by
  exact rfl
theorem HeldL.mk3 {τ : Tys} {m : Fr} {x3 : List Int} {v3 : Value}  (s : Sat [LentQ Rp.i64 τ.int (markZ 1) v3 x3] m) : (Lp.prod (Lp.flat Rp.i64 τ.int (markZ 1)) (Lp.unit)).own [v3] (x3, ()) m := by
  obtain ⟨k1, k2, dj, s1, s2, o, st⟩ := s
  exact ⟨[v3], [], rfl, k1, k2, dj, s1, s2, ⟨v3, rfl, o⟩, k2, Fr.emp, Fr.disj_symm (Fr.emp_disj _), Fr.sub_refl _, Fr.emp_sub _, HeldL.mk4 (τ := τ)  st, trivial⟩
theorem HeldL.mk2 {τ : Tys} {m : Fr} {x2 : List EvdT} {v2 : Value} {x3 : List Int} {v3 : Value}  (s : Sat [LentL (EvdL τ) τ.evd (markEvd 1) v2 x2, LentQ Rp.i64 τ.int (markZ 1) v3 x3] m) : (Lp.prod (Lp.list (EvdL τ) τ.evd (markEvd 1)) (Lp.prod (Lp.flat Rp.i64 τ.int (markZ 1)) (Lp.unit))).own [v2, v3] (x2, x3, ()) m := by
  obtain ⟨k1, k2, dj, s1, s2, o, st⟩ := s
  exact ⟨[v2], [v3], rfl, k1, k2, dj, s1, s2, ⟨v2, rfl, o⟩, k2, Fr.emp, Fr.disj_symm (Fr.emp_disj _), Fr.sub_refl _, Fr.emp_sub _, HeldL.mk3 (τ := τ)  st, trivial⟩
theorem HeldL.mk1 {τ : Tys} {m : Fr} {x1 : List RootT} {v1 : Value} {x2 : List EvdT} {v2 : Value} {x3 : List Int} {v3 : Value}  (s : Sat [LentL (RootL τ) τ.root (markRoot 1) v1 x1, LentL (EvdL τ) τ.evd (markEvd 1) v2 x2, LentQ Rp.i64 τ.int (markZ 1) v3 x3] m) : (Lp.prod (Lp.list (RootL τ) τ.root (markRoot 1)) (Lp.prod (Lp.list (EvdL τ) τ.evd (markEvd 1)) (Lp.prod (Lp.flat Rp.i64 τ.int (markZ 1)) (Lp.unit)))).own [v1, v2, v3] (x1, x2, x3, ()) m := by
  obtain ⟨k1, k2, dj, s1, s2, o, st⟩ := s
  exact ⟨[v1], [v2, v3], rfl, k1, k2, dj, s1, s2, ⟨v1, rfl, o⟩, k2, Fr.emp, Fr.disj_symm (Fr.emp_disj _), Fr.sub_refl _, Fr.emp_sub _, HeldL.mk2 (τ := τ)  st, trivial⟩
theorem HeldL.mk {τ : Tys} {m : Fr} {x0 : List LeafT} {v0 : Value} {x1 : List RootT} {v1 : Value} {x2 : List EvdT} {v2 : Value} {x3 : List Int} {v3 : Value}  (s : Sat [LentL (LeafL τ) τ.leaf (markLeaf 1) v0 x0, LentL (RootL τ) τ.root (markRoot 1) v1 x1, LentL (EvdL τ) τ.evd (markEvd 1) v2 x2, LentQ Rp.i64 τ.int (markZ 1) v3 x3] m) : (Lp.prod (Lp.list (LeafL τ) τ.leaf (markLeaf 1)) (Lp.prod (Lp.list (RootL τ) τ.root (markRoot 1)) (Lp.prod (Lp.list (EvdL τ) τ.evd (markEvd 1)) (Lp.prod (Lp.flat Rp.i64 τ.int (markZ 1)) (Lp.unit))))).own [v0, v1, v2, v3] (x0, x1, x2, x3, ()) m := by
  obtain ⟨k1, k2, dj, s1, s2, o, st⟩ := s
  exact ⟨[v0], [v1, v2, v3], rfl, k1, k2, dj, s1, s2, ⟨v0, rfl, o⟩, k2, Fr.emp, Fr.disj_symm (Fr.emp_disj _), Fr.sub_refl _, Fr.emp_sub _, HeldL.mk1 (τ := τ)  st, trivial⟩
theorem HeldL.opn {τ : Tys} {h : Fr} {cs : List Value} {x : HeldT} (r : (HeldL τ).rd h cs x) : ∃ v0 v1 v2 v3, cs = [v0, v1, v2, v3] ∧ LentLA (LeafL τ) (markLeaf 1) h v0 x.1 ∧ LentLA (RootL τ) (markRoot 1) h v1 x.2.1 ∧ LentLA (EvdL τ) (markEvd 1) h v2 x.2.2.1 ∧ LentQA Rp.i64 (markZ 1) h v3 x.2.2.2.1 := by
  obtain ⟨c0, d0, rfl, r0, r⟩ := r
  obtain ⟨c1, d1, rfl, r1, r⟩ := r
  obtain ⟨c2, d2, rfl, r2, r⟩ := r
  obtain ⟨c3, d3, rfl, r3, r⟩ := r
  obtain rfl : d3 = [] := r
  obtain ⟨v0, rfl, h0⟩ := r0
  obtain ⟨v1, rfl, h1⟩ := r1
  obtain ⟨v2, rfl, h2⟩ := r2
  obtain ⟨v3, rfl, h3⟩ := r3
  exact ⟨v0, v1, v2, v3, rfl, h0, h1, h2, h3⟩
def HeldOk (N : Nat) (x : HeldT) : Prop := (x.1.length ≤ N ∧ ∀ y ∈ x.1, LeafOk N y) ∧ (x.2.1.length ≤ N ∧ ∀ y ∈ x.2.1, RootOk N y) ∧ (x.2.2.1.length ≤ N ∧ ∀ y ∈ x.2.2.1, EvdOk N y) ∧ x.2.2.2.1.length ≤ N
theorem HeldOk.mono {N M : Nat} {x : HeldT} (hM : N ≤ M) (h : HeldOk N x) : HeldOk M x := by
  obtain ⟨h0, h1, h2, h3⟩ := h
  exact ⟨⟨Nat.le_trans h0.1 hM, fun y hy => (LeafOk.mono hM (h0.2 y hy))⟩, ⟨Nat.le_trans h1.1 hM, fun y hy => (RootOk.mono hM (h1.2 y hy))⟩, ⟨Nat.le_trans h2.1 hM, fun y hy => (EvdOk.mono hM (h2.2 y hy))⟩, Nat.le_trans h3 hM⟩
end Go.Sp
