import Derived.Test.YtodhbhanmdfdeaaSpWalk
import Derived.WalkLawsBesides
import Derived.IntWalk
namespace Go.Sp

def Fr.cell (h : Fr) (a : Addr) : Option Value :=
  match h a.block with
  | some (.cells c _ _) => if a.spot.isSome then none else c[a.off]?
  | _ => none
theorem Fr.cell_mono {h k : Fr} (s : h.sub k) {a : Addr} {v : Value} (x : h.cell a = some v) : k.cell a = some v := by
  unfold Fr.cell at *
  split at x
  · rename_i c t f hb; rw [s _ _ hb]; exact x
  · cases x
theorem World.cell?_fr (w : World) (a : Addr) : w.cell? a = w.fr.cell a := rfl

/-- a type whose values lie in one cell -/
def flat (P : Program) (t : TypeId) : Bool :=
  match P.underlying t with
  | some (.struct _) | some (.array ..) => false
  | some _ => true
  | none => false
theorem run_isAgg_flat {P : Program} {t : TypeId} (h : flat P t = true) (w : World) : (isAgg t).run P w = .ok false w := by
  unfold flat at h
  split at h
  · cases h
  · cases h
  · rename_i d h1 h2 hd
    rw [isAgg, Sem.run_bind, run_underlying hd]
    cases d <;> first | rfl | exact (h1 _ rfl).elim | exact (h2 _ _ rfl).elim
  · cases h

section
variable {P : Program} {σ : List (Nat × Value)} {g : Gr} {η : List SProp}

theorem Does.run {op : Op} {v : Value} (h : ∀ (o : Oper) (ρ : Operand → Value) (w : World), o.op = op → Knows σ ρ → (execOp ρ o).run P w = .ok (.value v) w) : Does P op σ g η v η :=
  fun o ρ w ho hk hw => ⟨w, h o ρ w ho hk, hw⟩

theorem Does.mv {x : Operand} {v : Value} (hx : ev σ x = some v) : Does P (.move x) σ g η v η := .run fun o ρ w ho hk => by simp [execOp, ho, hk x v hx]
theorem Does.as {x : Operand} {v : Value} (hx : ev σ x = some v) : Does P (.assign x) σ g η v η := .run fun o ρ w ho hk => by simp [execOp, ho, hk x v hx]
theorem Does.pickT {c x y : Operand} {v : Value} (hc : ev σ c = some (.bool true)) (hx : ev σ x = some v) : Does P (.pick c x y) σ g η v η :=
  .run fun o ρ w ho hk => by simp [execOp, ho, hk x v hx, hk c _ hc, asBool]
theorem Does.pickF {c x y : Operand} {v : Value} (hc : ev σ c = some (.bool false)) (hx : ev σ y = some v) : Does P (.pick c x y) σ g η v η :=
  .run fun o ρ w ho hk => by simp [execOp, ho, hk y v hx, hk c _ hc, asBool]

/-- what two integers come to -/
theorem Does.int2 {op : BinOp} {t u : TypeId} {x y : Operand} {j : IntKind} {a b : Int} {v : Value} (hx : ev σ x = some (.int j a)) (hy : ev σ y = some (.int j b))
    (h : ∀ w, (Go.binOp op t (.int j a) (.int j b)).run P w = .ok v w) : Does P (.binOp op t x y u) σ g η v η :=
  .run fun o ρ w ho hk => by
    have := h w
    simp [execOp, ho, hk x _ hx, hk y _ hy, eqGuard, this]
theorem Does.add {t u : TypeId} {x y : Operand} {j : IntKind} {a b : Int} (hx : ev σ x = some (.int j a)) (hy : ev σ y = some (.int j b)) (hw : j.wrap (a + b) = a + b) :
    Does P (.binOp .add t x y u) σ g η (.int j (a + b)) η := .int2 hx hy fun w => by simp [Go.binOp, Op.intArith, hw]
theorem Does.sub {t u : TypeId} {x y : Operand} {j : IntKind} {a b : Int} (hx : ev σ x = some (.int j a)) (hy : ev σ y = some (.int j b)) (hw : j.wrap (a - b) = a - b) :
    Does P (.binOp .sub t x y u) σ g η (.int j (a - b)) η := .int2 hx hy fun w => by simp [Go.binOp, Op.intArith, hw]
theorem Does.mul {t u : TypeId} {x y : Operand} {j : IntKind} {a b : Int} (hx : ev σ x = some (.int j a)) (hy : ev σ y = some (.int j b)) (hw : j.wrap (a * b) = a * b) :
    Does P (.binOp .mul t x y u) σ g η (.int j (a * b)) η := .int2 hx hy fun w => by simp [Go.binOp, Op.intArith, hw]
theorem Does.addW {t u : TypeId} {x y : Operand} {j : IntKind} {a b : Int} (hx : ev σ x = some (.int j a)) (hy : ev σ y = some (.int j b)) :
    Does P (.binOp .add t x y u) σ g η (.int j (j.wrap (a + b))) η := .int2 hx hy fun w => by simp [Go.binOp, Op.intArith]
theorem Does.subW {t u : TypeId} {x y : Operand} {j : IntKind} {a b : Int} (hx : ev σ x = some (.int j a)) (hy : ev σ y = some (.int j b)) :
    Does P (.binOp .sub t x y u) σ g η (.int j (j.wrap (a - b))) η := .int2 hx hy fun w => by simp [Go.binOp, Op.intArith]
theorem Does.mulW {t u : TypeId} {x y : Operand} {j : IntKind} {a b : Int} (hx : ev σ x = some (.int j a)) (hy : ev σ y = some (.int j b)) :
    Does P (.binOp .mul t x y u) σ g η (.int j (j.wrap (a * b))) η := .int2 hx hy fun w => by simp [Go.binOp, Op.intArith]
theorem Does.quo {t u : TypeId} {x y : Operand} {j : IntKind} {a b : Int} (hx : ev σ x = some (.int j a)) (hy : ev σ y = some (.int j b)) (h0 : b ≠ 0) :
    Does P (.binOp .quo t x y u) σ g η (.int j (j.wrap (a.tdiv b))) η := .int2 hx hy fun w => by simp [Go.binOp, Op.intDiv, h0]
theorem Does.rem {t u : TypeId} {x y : Operand} {j : IntKind} {a b : Int} (hx : ev σ x = some (.int j a)) (hy : ev σ y = some (.int j b)) (h0 : b ≠ 0) :
    Does P (.binOp .rem t x y u) σ g η (.int j (a.tmod b)) η := .int2 hx hy fun w => by simp [Go.binOp, Op.intDiv, h0]
theorem Does.lss {t u : TypeId} {x y : Operand} {j : IntKind} {a b : Int} (hx : ev σ x = some (.int j a)) (hy : ev σ y = some (.int j b)) :
    Does P (.binOp .lss t x y u) σ g η (.bool (decide (a < b))) η := .int2 hx hy fun w => by simp [Go.binOp, Op.intCmp]
theorem Does.leq {t u : TypeId} {x y : Operand} {j : IntKind} {a b : Int} (hx : ev σ x = some (.int j a)) (hy : ev σ y = some (.int j b)) :
    Does P (.binOp .leq t x y u) σ g η (.bool (decide (a ≤ b))) η := .int2 hx hy fun w => by simp [Go.binOp, Op.intCmp]
theorem Does.gtr {t u : TypeId} {x y : Operand} {j : IntKind} {a b : Int} (hx : ev σ x = some (.int j a)) (hy : ev σ y = some (.int j b)) :
    Does P (.binOp .gtr t x y u) σ g η (.bool (decide (b < a))) η := .int2 hx hy fun w => by simp [Go.binOp, Op.intCmp]
theorem Does.geq {t u : TypeId} {x y : Operand} {j : IntKind} {a b : Int} (hx : ev σ x = some (.int j a)) (hy : ev σ y = some (.int j b)) :
    Does P (.binOp .geq t x y u) σ g η (.bool (decide (b ≤ a))) η := .int2 hx hy fun w => by simp [Go.binOp, Op.intCmp]
theorem Does.eql {t u : TypeId} {x y : Operand} {j : IntKind} {a b : Int} (hx : ev σ x = some (.int j a)) (hy : ev σ y = some (.int j b)) :
    Does P (.binOp .eql t x y u) σ g η (.bool (decide (a = b))) η := .int2 hx hy fun w => by simp [Go.binOp, Op.intCmp]; rfl
theorem Does.neq {t u : TypeId} {x y : Operand} {j : IntKind} {a b : Int} (hx : ev σ x = some (.int j a)) (hy : ev σ y = some (.int j b)) :
    Does P (.binOp .neq t x y u) σ g η (.bool (decide (a ≠ b))) η := .int2 hx hy fun w => by simp [Go.binOp, Op.intCmp]; rfl
theorem Does.shl {t u : TypeId} {x y : Operand} {j i : IntKind} {a b : Int} (hx : ev σ x = some (.int j a)) (hy : ev σ y = some (.int i b)) (h0 : 0 ≤ b) :
    Does P (.binOp .shl t x y u) σ g η (.int j (j.wrap (a * 2 ^ min b.toNat j.bits))) η :=
  .run fun o ρ w ho hk => by
    have : ¬ b < 0 := by omega
    simp [execOp, ho, hk x _ hx, hk y _ hy, eqGuard, Go.binOp, Op.shift, this]
theorem Does.shr {t u : TypeId} {x y : Operand} {j i : IntKind} {a b : Int} (hx : ev σ x = some (.int j a)) (hy : ev σ y = some (.int i b)) (h0 : 0 ≤ b) :
    Does P (.binOp .shr t x y u) σ g η (.int j (a.fdiv (2 ^ min b.toNat j.bits))) η :=
  .run fun o ρ w ho hk => by
    have : ¬ b < 0 := by omega
    simp [execOp, ho, hk x _ hx, hk y _ hy, eqGuard, Go.binOp, Op.shift, this]
/-- the bits of two integers -/
def bitsOf (op : BinOp) (k : IntKind) (a b : Int) : Int :=
  let x := BitVec.ofInt k.bits a
  let y := BitVec.ofInt k.bits b
  match op with
  | .and => k.wrap (x &&& y).toNat
  | .or => k.wrap (x ||| y).toNat
  | .xor => k.wrap (x ^^^ y).toNat
  | .andNot => k.wrap (x &&& ~~~y).toNat
  | _ => 0
theorem Does.and {t u : TypeId} {x y : Operand} {j : IntKind} {a b : Int} (hx : ev σ x = some (.int j a)) (hy : ev σ y = some (.int j b)) :
    Does P (.binOp .and t x y u) σ g η (.int j (bitsOf .and j a b)) η := .int2 hx hy fun w => by simp [Go.binOp, Op.intBits, bitsOf]
theorem Does.or {t u : TypeId} {x y : Operand} {j : IntKind} {a b : Int} (hx : ev σ x = some (.int j a)) (hy : ev σ y = some (.int j b)) :
    Does P (.binOp .or t x y u) σ g η (.int j (bitsOf .or j a b)) η := .int2 hx hy fun w => by simp [Go.binOp, Op.intBits, bitsOf]
theorem Does.xor {t u : TypeId} {x y : Operand} {j : IntKind} {a b : Int} (hx : ev σ x = some (.int j a)) (hy : ev σ y = some (.int j b)) :
    Does P (.binOp .xor t x y u) σ g η (.int j (bitsOf .xor j a b)) η := .int2 hx hy fun w => by simp [Go.binOp, Op.intBits, bitsOf]
theorem Does.andNot {t u : TypeId} {x y : Operand} {j : IntKind} {a b : Int} (hx : ev σ x = some (.int j a)) (hy : ev σ y = some (.int j b)) :
    Does P (.binOp .andNot t x y u) σ g η (.int j (bitsOf .andNot j a b)) η := .int2 hx hy fun w => by simp [Go.binOp, Op.intBits, bitsOf]
theorem Does.not {t : TypeId} {x : Operand} {b : Bool} (hx : ev σ x = some (.bool b)) : Does P (.unOp .not t x) σ g η (.bool (!b)) η :=
  .run fun o ρ w ho hk => by simp [execOp, ho, hk x _ hx, Op.unary]
theorem Does.notD {t : TypeId} {x : Operand} {p : Prop} [Decidable p] (hx : ev σ x = some (.bool (decide p))) : Does P (.unOp .not t x) σ g η (.bool (decide (¬ p))) η := by
  rw [decide_not]; exact .not hx
theorem Does.neg {t : TypeId} {x : Operand} {j : IntKind} {a : Int} (hx : ev σ x = some (.int j a)) : Does P (.unOp .neg t x) σ g η (.int j (j.wrap (0 - a))) η :=
  .run fun o ρ w ho hk => by simp [execOp, ho, hk x _ hx, Op.unary, Op.intArith]
theorem Does.compl {t : TypeId} {x : Operand} {j : IntKind} {a : Int} (hx : ev σ x = some (.int j a)) : Does P (.unOp .xor t x) σ g η (.int j (bitsOf .xor j (if j.signed then -1 else j.max) a)) η :=
  .run fun o ρ w ho hk => by simp [execOp, ho, hk x _ hx, Op.unary, Op.intBits, bitsOf]
/-- a conversion between integers -/
theorem Does.cvt {s t : TypeId} {x : Operand} {j k : IntKind} {a : Int} {d : TypeDesc} (hs : P.underlying s = some d) (ht : P.underlying t = some (.int k)) (hx : ev σ x = some (.int j a)) :
    Does P (.convert s t x) σ g η (.int k (k.wrap a)) η :=
  .run fun o ρ w ho hk => by simp [execOp, ho, hk x _ hx, convert, run_underlying hs, run_underlying ht, Conv.intToInt]
theorem Does.cvtIn {s t : TypeId} {x : Operand} {j k : IntKind} {a : Int} {d : TypeDesc} (hs : P.underlying s = some d) (ht : P.underlying t = some (.int k)) (hx : ev σ x = some (.int j a)) (hw : k.wrap a = a) :
    Does P (.convert s t x) σ g η (.int k a) η := by
  have := Does.cvt (g := g) (η := η) hs ht hx; rwa [hw] at this
/-- the truth of two truths -/
theorem run_equal_bool {t : TypeId} (ht : P.underlying t = some .bool) (a b : Bool) (w : World) : (Op.equal t (.bool a) (.bool b)).run P w = .ok (a == b) w := by
  show (Op.equalIn (9999 + 1) t (.bool a) (.bool b)).run P w = _
  rw [Op.equalIn]
  simp [run_underlying ht]
theorem Does.eqlB {t u : TypeId} {x y : Operand} {a b : Bool} (ht : P.underlying t = some .bool) (hx : ev σ x = some (.bool a)) (hy : ev σ y = some (.bool b)) :
    Does P (.binOp .eql t x y u) σ g η (.bool (decide (a = b))) η :=
  .run fun o ρ w ho hk => by simp [execOp, ho, hk x _ hx, hk y _ hy, eqGuard, Go.binOp, run_equal_bool ht]; rfl
theorem Does.neqB {t u : TypeId} {x y : Operand} {a b : Bool} (ht : P.underlying t = some .bool) (hx : ev σ x = some (.bool a)) (hy : ev σ y = some (.bool b)) :
    Does P (.binOp .neq t x y u) σ g η (.bool (decide (a ≠ b))) η :=
  .run fun o ρ w ho hk => by
    simp [execOp, ho, hk x _ hx, hk y _ hy, eqGuard, Go.binOp, run_equal_bool ht]
    cases a <;> cases b <;> rfl
/-- strings -/
theorem Does.eqlS {t u : TypeId} {x y : Operand} {a b : ByteArray} (hx : ev σ x = some (.string a)) (hy : ev σ y = some (.string b)) :
    Does P (.binOp .eql t x y u) σ g η (.bool (decide (a.toList = b.toList))) η :=
  .run fun o ρ w ho hk => by
    have : (a.toList == b.toList) = decide (a.toList = b.toList) := by rw [Bool.eq_iff_iff]; simp
    simp [execOp, ho, hk x _ hx, hk y _ hy, eqGuard, Go.binOp, Op.stringOp, this]
theorem Does.neqS {t u : TypeId} {x y : Operand} {a b : ByteArray} (hx : ev σ x = some (.string a)) (hy : ev σ y = some (.string b)) :
    Does P (.binOp .neq t x y u) σ g η (.bool (decide (a.toList ≠ b.toList))) η :=
  .run fun o ρ w ho hk => by
    have : (a.toList == b.toList) = decide (a.toList = b.toList) := by rw [Bool.eq_iff_iff]; simp
    simp [execOp, ho, hk x _ hx, hk y _ hy, eqGuard, Go.binOp, Op.stringOp, this]
theorem Does.lssS {t u : TypeId} {x y : Operand} {a b : ByteArray} (hx : ev σ x = some (.string a)) (hy : ev σ y = some (.string b)) :
    Does P (.binOp .lss t x y u) σ g η (.bool (Op.bytesLess a.toList b.toList)) η :=
  .run fun o ρ w ho hk => by simp [execOp, ho, hk x _ hx, hk y _ hy, eqGuard, Go.binOp, Op.stringOp]
theorem Does.gtrS {t u : TypeId} {x y : Operand} {a b : ByteArray} (hx : ev σ x = some (.string a)) (hy : ev σ y = some (.string b)) :
    Does P (.binOp .gtr t x y u) σ g η (.bool !(Op.bytesLess a.toList b.toList || a.toList == b.toList)) η :=
  .run fun o ρ w ho hk => by simp [execOp, ho, hk x _ hx, hk y _ hy, eqGuard, Go.binOp, Op.stringOp]
theorem Does.addS {t u : TypeId} {x y : Operand} {a b : ByteArray} (hx : ev σ x = some (.string a)) (hy : ev σ y = some (.string b)) (hl : a.size + b.size ≤ 9223372036854775807) :
    Does P (.binOp .add t x y u) σ g η (.string (a ++ b)) η :=
  .run fun o ρ w ho hk => by
    have : ¬ (9223372036854775807 < ((a.size : Int) + (b.size : Int))) := by omega
    simp [execOp, ho, hk x _ hx, hk y _ hy, eqGuard, Go.binOp, Op.stringOp, this]
/-- len -/
theorem Does.len {t : TypeId} {x : Operand} {e : TypeId} {a : Option Addr} {m c : Nat} {ts : Array TypeId} (hts : ts[0]? = some t) (ht : P.underlying t = some (.slice e)) (hx : ev σ x = some (.slice a m c)) :
    Does P (.call ⟨.builtin .len, #[x], ts⟩) σ g η (.int .i64 (m : Int)) η :=
  .run fun o ρ w ho hk => by simp [execOp, ho, resolve, invoke, builtin, hk x _ hx, Builtin.len_, hts, run_underlying ht, goInt]
theorem Does.cap {t : TypeId} {x : Operand} {e : TypeId} {a : Option Addr} {m c : Nat} {ts : Array TypeId} (hts : ts[0]? = some t) (ht : P.underlying t = some (.slice e)) (hx : ev σ x = some (.slice a m c)) :
    Does P (.call ⟨.builtin .cap, #[x], ts⟩) σ g η (.int .i64 (c : Int)) η :=
  .run fun o ρ w ho hk => by simp [execOp, ho, resolve, invoke, builtin, hk x _ hx, Builtin.cap_, hts, run_underlying ht, goInt]
theorem Does.lenS {t : TypeId} {x : Operand} {s : ByteArray} {ts : Array TypeId} (hts : ts[0]? = some t) (ht : P.underlying t = some .string) (hx : ev σ x = some (.string s)) :
    Does P (.call ⟨.builtin .len, #[x], ts⟩) σ g η (.int .i64 (s.size : Int)) η :=
  .run fun o ρ w ho hk => by simp [execOp, ho, resolve, invoke, builtin, hk x _ hx, Builtin.len_, hts, run_underlying ht, goInt]
/-- a part of several results -/
theorem Does.extract {x : Operand} {vs : Array Value} {j : Nat} {v : Value} (hx : ev σ x = some (.tuple vs)) (hj : vs[j]? = some v) : Does P (.extract x j) σ g η v η :=
  .run fun o ρ w ho hk => by simp [execOp, ho, hk x _ hx, Instr.extract, hj]
theorem Does.mkFunc {fn : Go.Fn} {first cap : Array Operand} {vs us : List Value} (h1 : evs σ first.toList = some vs) (h2 : evs σ cap.toList = some us) :
    Does P (.makeFunc fn first cap) σ g η (.func fn vs.toArray us.toArray) η :=
  .run fun o ρ w ho hk => by
    have e1 : first.map ρ = vs.toArray := by rw [← evs_spec hk h1, ← Array.toList_map]
    have e2 : cap.map ρ = us.toArray := by rw [← evs_spec hk h2, ← Array.toList_map]
    simp [execOp, ho, Instr.makeFunc, e1, e2]
theorem Does.nilCheck {x : Operand} {a : Addr} (hx : ev σ x = some (.pointer (some a))) : Does P (.nilCheck x) σ g η (.pointer (some a)) η :=
  .run fun o ρ w ho hk => by simp [execOp, ho, hk x _ hx]
end
end Go.Sp
