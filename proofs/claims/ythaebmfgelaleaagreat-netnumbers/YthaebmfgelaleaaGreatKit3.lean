/- Texts of this proof, one behind the other. -/
import Derived.Test.YthaebmfgelaleaaGreatKit1
import Derived.Test.YthaebmfgelaleaaGreatSpKit
section
open Go Go.Sp
set_option maxRecDepth 100000
attribute [local irreducible] obj Own OwnP
namespace Go.Proofs.YthaebmfgelaleaaGreat
theorem FactKit2.elem5 : elemIs Go.Proofs.Tryz.prog 5 1 1 [.int .u8 0] := elemIs.mk (by kernel_rfl) rfl
theorem FactKit2.flat5 : Go.Sp.flat1 Go.Proofs.Tryz.prog 5 = true := by kernel_rfl
theorem FactKit2.mixed : Go.Proofs.Tryz.prog.follows .mixedOrders = true := by kernel_rfl
theorem FactKit2.ok50 : callable Go.Proofs.Tryz.prog 50 = true := by kernel_rfl
theorem FactKit2.ok85 : callable Go.Proofs.Tryz.prog 85 = true := by kernel_rfl
theorem FactKit2.ok98 : callable Go.Proofs.Tryz.prog 98 = true := by kernel_rfl
theorem FactKit2.size5 : (Go.Proofs.Tryz.prog.info? 5).map (·.size) = some 1 := by kernel_rfl

/-- a byte of a number -/
def byteOf (z : Int) : UInt8 := UInt8.ofNat (z % 256).toNat
theorem wrapB (z : Int) : Value.int .u8 (IntKind.u8.wrap z) = byteV (byteOf z) := by
  rw [byteV, wrap_u8_eq]
  have : ((byteOf z).toNat : Int) = z % 256 := by simp [byteOf]; omega
  rw [this]
/-- marks -/
def markZ (k i : Int) : Int := 1000003 * (k + 7) + i
def markB (k i : Int) : UInt8 := byteOf ((IntKind.u64.wrap (IntKind.u64.wrap (markZ k i) * 11400714819323198485)).fdiv (2 ^ min (56 : Int).toNat IntKind.u64.bits))
def markT (k i : Int) : List UInt8 := [35, byteOf k, byteOf (k.fdiv (2 ^ min (8 : Int).toNat IntKind.i64.bits)), byteOf (k.fdiv (2 ^ min (16 : Int).toNat IntKind.i64.bits)), 47, byteOf i, byteOf (i.fdiv (2 ^ min (8 : Int).toNat IntKind.i64.bits)), byteOf (i.fdiv (2 ^ min (16 : Int).toNat IntKind.i64.bits))]
@[simp] theorem markT_length (k i : Int) : (markT k i).length = 8 := rfl
/-- a number that a mark takes -/
def Mk (k : Int) : Prop := 0 ≤ k ∧ k ≤ 1000000000000
theorem mark_c {r : Fr} (k i : Int) (hk : Mk k) (hi : Mk i) : Con Go.Proofs.Tryz.prog 50 #[.int .i64 k, .int .i64 i] r [] (Ret fun v η => v = .int .i64 (markZ k i) ∧ η = []) := by
  refine Con.of (n := 10) [.int .i64 k, .int .i64 i] rfl Go.Proofs.Tryz.func50 rfl rfl rfl fun g hg R hR => ?_
  obtain ⟨hk1, hk2⟩ := hk
  obtain ⟨hi1, hi2⟩ := hi
  refine S.seq (S.region rfl ?_)
  refine O.op (.p rfl) (.as rfl) ?_
  refine O.nil ?_
  refine S.seq (S.region rfl ?_)
  refine O.op (.p rfl) (.mv rfl) ?_
  refine O.op (.p rfl) (.add rfl rfl (IntWalk.i64_in _ (by omega))) ?_
  refine O.op (.p rfl) (.mul rfl rfl (IntWalk.i64_in _ (by omega))) ?_
  refine O.op (.p rfl) (.mv rfl) ?_
  refine O.op (.p rfl) (.add rfl rfl (IntWalk.i64_in _ (by omega))) ?_
  refine O.op (.p rfl) (.as rfl) ?_
  refine O.nil ?_
  refine S.ret Go.Proofs.Tryz.results50 rfl fun w hw => hR _ _ w ?_ hw
  exact ⟨rfl, rfl⟩
theorem markByte_c {r : Fr} (k i : Int) (hk : Mk k) (hi : Mk i) : Con Go.Proofs.Tryz.prog 85 #[.int .i64 k, .int .i64 i] r [] (Ret fun v η => v = byteV (markB k i) ∧ η = []) := by
  refine Con.of (n := 12) [.int .i64 k, .int .i64 i] rfl Go.Proofs.Tryz.func85 rfl rfl rfl fun g hg R hR => ?_
  refine S.seq (S.region rfl ?_)
  refine O.op (.p rfl) (.as rfl) ?_
  refine O.nil ?_
  refine S.seq (S.region rfl ?_)
  refine O.op (.p rfl) (.mv rfl) ?_
  refine O.op (.p rfl) (.mv rfl) ?_
  refine O.call0 (.p rfl) rfl FactKit2.ok50 rfl rfl ((mark_c _ _ hk hi)) ?_
  rintro v7 _ ⟨rfl, rfl⟩
  try simp only [List.cons_append, List.nil_append, List.append_nil]
  refine O.op (.p rfl) (.cvt Go.Proofs.Tryz.underlying3 Go.Proofs.Tryz.underlying150 rfl) ?_
  refine O.op (.p rfl) (.mulW rfl rfl) ?_
  refine O.op (.p rfl) (.shr rfl rfl (by omega)) ?_
  refine O.op (.p rfl) (.cvt Go.Proofs.Tryz.underlying150 Go.Proofs.Tryz.underlying5 rfl) ?_
  refine O.op (.p rfl) (.as rfl) ?_
  refine O.nil ?_
  refine S.ret Go.Proofs.Tryz.results85 rfl fun w hw => hR _ _ w ?_ hw
  exact ⟨wrapB _, rfl⟩
theorem markText_c {r : Fr} (k i : Int) : Con Go.Proofs.Tryz.prog 98 #[.int .i64 k, .int .i64 i] r [] (Ret fun v η => v = .string (str (markT k i)) ∧ η = []) := by
  refine Con.of (n := 23) [.int .i64 k, .int .i64 i] rfl Go.Proofs.Tryz.func98 rfl rfl rfl fun g hg R hR => ?_
  refine S.seq (S.region rfl ?_)
  refine O.op (.p rfl) (.as rfl) ?_
  refine O.nil ?_
  refine S.seq (S.region rfl ?_)
  refine O.op (.p rfl) (.mv rfl) ?_
  refine O.op (.p rfl) (.cvt Go.Proofs.Tryz.underlying3 Go.Proofs.Tryz.underlying5 rfl) ?_
  refine O.op (.p rfl) (.mv rfl) ?_
  refine O.op (.p rfl) (.shr rfl rfl (by omega)) ?_
  refine O.op (.p rfl) (.cvt Go.Proofs.Tryz.underlying3 Go.Proofs.Tryz.underlying5 rfl) ?_
  refine O.op (.p rfl) (.mv rfl) ?_
  refine O.op (.p rfl) (.shr rfl rfl (by omega)) ?_
  refine O.op (.p rfl) (.cvt Go.Proofs.Tryz.underlying3 Go.Proofs.Tryz.underlying5 rfl) ?_
  refine O.op (.p rfl) (.mv rfl) ?_
  refine O.op (.p rfl) (.cvt Go.Proofs.Tryz.underlying3 Go.Proofs.Tryz.underlying5 rfl) ?_
  refine O.op (.p rfl) (.mv rfl) ?_
  refine O.op (.p rfl) (.shr rfl rfl (by omega)) ?_
  refine O.op (.p rfl) (.cvt Go.Proofs.Tryz.underlying3 Go.Proofs.Tryz.underlying5 rfl) ?_
  refine O.op (.p rfl) (.mv rfl) ?_
  refine O.op (.p rfl) (.shr rfl rfl (by omega)) ?_
  refine O.op (.p rfl) (.cvt Go.Proofs.Tryz.underlying3 Go.Proofs.Tryz.underlying5 rfl) ?_
  refine O.opE (.p rfl) (.litP (T := Rp.u8) (ys := markT k i) Go.Proofs.Tryz.underlying33 FactKit2.elem5 (by decide) rfl rfl ⟨rfl, congrArg (fun v => [v]) (wrapB _), congrArg (fun v => [v]) (wrapB _), congrArg (fun v => [v]) (wrapB _), rfl, congrArg (fun v => [v]) (wrapB _), congrArg (fun v => [v]) (wrapB _), congrArg (fun v => [v]) (wrapB _), trivial⟩ (by decide)) ?_
  rintro v21 _ ⟨a21, c21, rfl, rfl⟩
  refine O.frzA (by repeat (first | exact Sel.here | apply Sel.there)) fun g hs hm ha21 => ?_
  replace hg := Fr.sub_trans hg hs
  replace hR := melted hR hm
  clear hs hm
  refine O.op (.p rfl) (.toStr Go.Proofs.Tryz.underlying33 Go.Proofs.Tryz.underlying5 Go.Proofs.Tryz.underlying9 rfl (by first | assumption | exact Arr.mono hg (by assumption) | exact Arr.left (by assumption) | exact Arr.left (Arr.mono hg (by assumption)))) ?_
  refine O.op (.p rfl) (.as rfl) ?_
  refine O.nil ?_
  refine S.ret Go.Proofs.Tryz.results98 rfl fun w hw => Holds.end_ hR hw ?_
  exact ⟨_, ⟨rfl, rfl⟩, by repeat (first | exact Picks.all | exact Picks.nil | (apply Picks.cons; focus (repeat (first | exact Sel.here | apply Sel.there))) | apply Picks.skip)⟩
theorem markRow_c {r : Fr} (k i : Int) : Con Go.Proofs.Tryz.prog 99 #[.int .i64 k, .int .i64 i] r [] (Ret fun v η => ∃ a c, v = .slice a 8 c ∧ η = [fun m => Arr Rp.u8 m v (markT k i)]) := by
  refine Con.of (n := 9) [.int .i64 k, .int .i64 i] rfl Go.Proofs.Tryz.func99 rfl rfl rfl fun g hg R hR => ?_
  refine S.seq (S.region rfl ?_)
  refine O.op (.p rfl) (.as rfl) ?_
  refine O.nil ?_
  refine S.seq (S.region rfl ?_)
  refine O.op (.p rfl) (.mv rfl) ?_
  refine O.op (.p rfl) (.mv rfl) ?_
  refine O.call0 (.p rfl) rfl FactKit2.ok98 rfl rfl (markText_c _ _) ?_
  rintro v7 _ ⟨rfl, rfl⟩
  try simp only [List.cons_append, List.nil_append, List.append_nil]
  refine O.opE (.p rfl) (.strBytes (xs := markT k i) Go.Proofs.Tryz.underlying9 Go.Proofs.Tryz.underlying33 Go.Proofs.Tryz.underlying5 rfl (by simp)) ?_
  rintro v8 _ ⟨a8, c8, rfl, rfl⟩
  refine O.op (.p rfl) (.as rfl) ?_
  refine O.nil ?_
  refine S.ret Go.Proofs.Tryz.results99 rfl fun w hw => hR _ _ w ?_ hw
  exact ⟨a8, c8, rfl, rfl⟩
/-- the marks behind what is lent -/
def marks1 (n : Nat) : List UInt8 := (List.range n).map fun (i : Nat) => markB 1 (i : Int)
@[simp] theorem marks1_length (n : Nat) : (marks1 n).length = n := by simp [marks1]
theorem marks1_succ (n : Nat) : marks1 n ++ [markB 1 (n : Int)] = marks1 (n + 1) := by simp [marks1, List.range_succ]
/-- bytes that are lent: marks behind them, in their room -/
def LentP (e : TypeId) (v : Value) (xs : List UInt8) : SProp := fun h => ∃ a c, xs.length + 12 ≤ c ∧ v = .slice a xs.length c ∧ OwnP Rp.u8 e (.slice a (xs.length + 12) c) (xs ++ marks1 12) h
def LentA (h : Fr) (v : Value) (xs : List UInt8) : Prop := ∃ a c, xs.length + 12 ≤ c ∧ v = .slice a xs.length c ∧ Arr Rp.u8 h (.slice a (xs.length + 12) c) (xs ++ marks1 12)
theorem LentP.lentA {e : TypeId} {v : Value} {xs : List UInt8} {h : Fr} : LentP e v xs h → LentA h v xs
  | ⟨a, c, h1, h2, h3⟩ => ⟨a, c, h1, h2, h3.arr⟩
theorem LentA.mono {v : Value} {xs : List UInt8} {h k : Fr} (s : h.sub k) : LentA h v xs → LentA k v xs
  | ⟨a, c, h1, h2, h3⟩ => ⟨a, c, h1, h2, h3.mono s⟩
theorem LentA.arr {v : Value} {xs : List UInt8} {h : Fr} : LentA h v xs → Arr Rp.u8 h v xs
  | ⟨a, c, h1, h2, h3⟩ => by subst h2; exact Arr.cut (ys := marks1 12) rfl (by simpa using h3)
theorem LentBytes_c {r : Fr} {va : Value} {xs : List UInt8} (ha : Arr Rp.u8 r va xs) (hl : xs.length ≤ 100000000000000) :
    Con Go.Proofs.Tryz.prog 49 #[va] r [] (Ret fun v η => ∃ a c, v = .slice a xs.length c ∧ η = [LentP 5 v xs]) := by
  refine Con.of (n := 25) [va] rfl Go.Proofs.Tryz.func49 rfl rfl rfl fun g hg R hR => ?_
  have ha := ha.mono hg
  obtain ⟨a1, c1, rfl⟩ := ha.shape
  refine S.seq (S.region rfl ?_)
  refine O.op (.p rfl) (.as rfl) ?_
  refine O.nil ?_
  refine S.seq (S.region rfl ?_)
  refine O.op (.p rfl) (.mv rfl) ?_
  refine O.op (.p rfl) (.len rfl Go.Proofs.Tryz.underlying33 rfl) ?_
  refine O.op (.p rfl) (.add rfl rfl (IntWalk.i64_in _ (by omega))) ?_
  refine O.opE (.p rfl) (.makeP0 (T := Rp.u8) (c := xs.length + 12) Go.Proofs.Tryz.underlying33 FactKit2.elem5 rfl rfl rfl rfl (by omega) (by omega)) ?_
  rintro v8 _ ⟨a8, c8, rfl, rfl⟩
  refine O.op (.p rfl) (.as rfl) ?_
  refine O.nil ?_
  refine S.seq (S.region rfl ?_)
  refine O.op (.p rfl) (.mv rfl) ?_
  refine O.op (.p rfl) (.mv rfl) ?_
  refine O.opE (.p rfl) (.appendP (T := Rp.u8) pure_u8 Go.Proofs.Tryz.underlying33 FactKit2.elem5 (by decide) rfl rfl (by repeat (first | exact Sel.here | apply Sel.there)) (by first | assumption | exact Arr.mono hg (by assumption) | exact Arr.left (by assumption) | exact Arr.left (Arr.mono hg (by assumption))) (by first | omega | (simp; done) | (simp; omega) | decide) (by first | omega | (simp; done) | (simp; omega) | decide)) ?_
  rintro _ _ ⟨a11, c11, rfl, rfl⟩
  refine O.op (.p rfl) (.as rfl) ?_
  refine O.nil ?_
  refine S.seq (S.seq (S.region rfl ?_))
  refine O.op (.p rfl) (.as rfl) ?_
  refine O.nil ?_
  refine S.block ?_
  simp only [List.length_nil, Nat.zero_add, List.nil_append]
  refine S.conv (C := OwnP Rp.u8 5 (.slice a11 (xs.length + 0) c11) (xs ++ marks1 0)) Sel.here (fun m x => ⟨m, Fr.sub_refl _, by simpa [marks1] using x⟩) ?_
  refine S.loopK3 (ι := Nat) (κ := Option Addr) (υ := Nat) (fun i a c => i ≤ 12) (fun i a c => [(4, .int .i64 (i : Int)), (3, .slice a (xs.length + i) c)]) [(0, _)] (fun i a c => [OwnP Rp.u8 5 (.slice a (xs.length + i) c) (xs ++ marks1 i)]) (fun i a c => 12 - i) (0) (a11) (c11) (by simp) (.cons rfl (.cons rfl (.nil))) (.cons rfl (.nil)) rfl fun i a c hx ih => ?_
  have hm1 := meltRefl (g := g)
  refine S.seq (S.seq (S.region rfl ?_))
  refine O.op (.p rfl) (.mv rfl) ?_
  refine O.op (.p rfl) (.lss rfl rfl) ?_
  refine O.nil ?_
  first | refine S.condD rfl (fun h13 => ?_) (fun h13 => ?_) | refine S.condB rfl (fun h13 => ?_) (fun h13 => ?_)
  · refine S.skip (S.seq (S.block (S.region rfl ?_)))
    refine O.op (.p rfl) (.mv rfl) ?_
    refine O.op (.p rfl) (.mv rfl) ?_
    refine O.call0 (.p rfl) rfl FactKit2.ok85 rfl rfl (markByte_c _ _ (by constructor <;> omega) (by constructor <;> omega)) ?_
    rintro v18 _ ⟨rfl, rfl⟩
    try simp only [List.cons_append, List.nil_append, List.append_nil]
    refine O.opE (.p rfl) (.litP (T := Rp.u8) (ys := [_]) Go.Proofs.Tryz.underlying33 FactKit2.elem5 (by decide) rfl rfl ⟨rfl, trivial⟩ (by decide)) ?_
    rintro _ _ ⟨a19, c19, rfl, rfl⟩
    refine O.opE (.p rfl) (.appendO (T := Rp.u8) Go.Proofs.Tryz.underlying33 FactKit2.elem5 (by decide) rfl rfl (by repeat (first | exact Sel.here | apply Sel.there)) (by repeat (first | exact Sel.here | apply Sel.there)) (by first | omega | (simp; done) | (simp; omega) | decide) (by first | omega | (simp; done) | (simp; omega) | decide)) ?_
    rintro _ _ ⟨a20, c20, rfl, rfl⟩
    refine O.op (.p rfl) (.as rfl) ?_
    refine O.nil ?_
    refine S.inBlock (S.region rfl ?_)
    refine O.op (.p rfl) (.mv rfl) ?_
    refine O.op (.p rfl) (.add rfl rfl (IntWalk.i64_in _ (by omega))) ?_
    refine O.op (.p rfl) (.as rfl) ?_
    refine O.nil ?_
    simp only [List.length_append, marks1_length]
    rw [List.append_assoc, marks1_succ]
    refine S.weaken ?_ (ih (i + 1) (a20) (c20) (by omega) (by omega))
    repeat (first | exact Sub.nil | refine Sub.cons rfl ?_)
  · have hi : i = 12 := by omega
    subst hi
    refine S.factS Sel.here (fun _ x => OwnP.room x) fun hroom => ?_
    refine S.exit rfl ?_
    refine S.seq (S.region rfl ?_)
    refine O.op (.p rfl) (.mv rfl) ?_
    refine O.op (.p rfl) (.mv rfl) ?_
    refine O.op (.p rfl) (.len rfl Go.Proofs.Tryz.underlying33 rfl) ?_
    refine O.slice0 (q := xs.length) Rp.u8 (.p rfl) Go.Proofs.Tryz.underlying33 FactKit2.size5 rfl rfl rfl (by omega) ?_
    refine O.op (.p rfl) (.as rfl) ?_
    refine O.nil ?_
    refine S.conv (C := LentP 5 (.slice a xs.length c) xs) Sel.here (fun m x => ⟨m, Fr.sub_refl _, a, c, hroom.2, rfl, x⟩) ?_
    refine S.ret Go.Proofs.Tryz.results49 rfl fun w hw => hR _ _ w ?_ hw
    exact ⟨a, c, rfl, rfl⟩
theorem kept_step {α : Type} {zs ys : List α} {i : Nat} (hl : zs.length = ys.length) (hx : ∀ (j : Nat) (hj : j < zs.length), j < i → zs[j] = ys[j]) (he : ∀ (hi : i < zs.length), zs[i] = ys[i]) : ∀ (j : Nat) (hj : j < zs.length), j < i + 1 → zs[j] = ys[j] := by
  intro j hj h
  by_cases hji : j < i
  · exact hx j hj hji
  · have : j = i := by omega
    subst this; exact he hj
theorem kept_get (xs zs : List UInt8) (hz : zs.length = xs.length + 12) (h : ∀ (i : Nat) (hi : i < zs.length), zs[i] = (xs ++ marks1 12)[i]'(by simp; omega)) : zs = xs ++ marks1 12 :=
  List.ext_getElem (by simp; omega) fun i h1 h2 => h i h1
theorem KeptBytes_c {r : Fr} {a : Option Addr} {c : Nat} {vl : Value} {xs zs : List UInt8} (hz : Arr Rp.u8 r (.slice a (xs.length + 12) c) zs) (hl : Arr Rp.u8 r vl xs) (hb : xs.length ≤ 100000000000000) :
    Con Go.Proofs.Tryz.prog 53 #[.slice a xs.length c, vl] r [] (Ret fun v η => v = .bool (decide (zs = xs ++ marks1 12)) ∧ η = []) := by
  refine Con.of (n := 58) [.slice a xs.length c, vl] rfl Go.Proofs.Tryz.func53 rfl rfl rfl fun g hg R hR => ?_
  have hz := hz.mono hg
  have hl := hl.mono hg
  obtain ⟨hzl, hzc⟩ := hz.room
  rw [hzl] at hz hzc
  obtain ⟨a1, c1, rfl⟩ := hl.shape
  refine S.seq (S.region rfl ?_)
  refine O.op (.p rfl) (.as rfl) ?_
  refine O.nil ?_
  refine S.seq (S.seq (S.region rfl ?_))
  refine O.op (.p rfl) (.mv rfl) ?_
  refine O.op (.p rfl) (.len rfl Go.Proofs.Tryz.underlying33 rfl) ?_
  refine O.op (.p rfl) (.mv rfl) ?_
  refine O.op (.p rfl) (.len rfl Go.Proofs.Tryz.underlying33 rfl) ?_
  refine O.op (.p rfl) (.neq rfl rfl) ?_
  refine O.nil ?_
  first | refine S.condD rfl (fun h11 => ?_) (fun h11 => ?_) | refine S.condB rfl (fun h11 => ?_) (fun h11 => ?_)
  · exact absurd rfl (by assumption)
  · refine S.skip (S.seq (S.region rfl ?_))
    refine O.op (.p rfl) (.mv rfl) ?_
    refine O.op (.p rfl) (.mv rfl) ?_
    refine O.op (.p rfl) (.len rfl Go.Proofs.Tryz.underlying33 rfl) ?_
    refine O.op (.p rfl) (.add rfl rfl (IntWalk.i64_in _ (by omega))) ?_
    refine O.slice0 (q := zs.length) Rp.u8 (.p rfl) Go.Proofs.Tryz.underlying33 FactKit2.size5 rfl rfl (by omega) (by omega) ?_
    refine O.op (.p rfl) (.as rfl) ?_
    refine O.nil ?_
    refine S.seq (S.seq (S.region rfl ?_))
    refine O.op (.p rfl) (.as rfl) ?_
    refine O.nil ?_
    refine S.block ?_
    refine S.loopK (ι := Nat) (fun i => i ≤ zs.length ∧ ∀ (j : Nat) (hj : j < zs.length), j < i → zs[j] = (xs ++ marks1 12)[j]'(by simp; omega)) (fun i => [(6, .int .i64 (i : Int))]) [(1, _), (5, _)] (fun i => []) (fun i => zs.length - i) (0) (by exact ⟨by simp, fun j hj h => absurd h (by omega)⟩) (.cons rfl (.nil)) (.cons rfl (.cons rfl (.nil))) rfl fun i hx ih => ?_
    have hm1 := meltRefl (g := g)
    obtain ⟨hx1, hx⟩ := hx
    refine S.seq (S.seq (S.region rfl ?_))
    refine O.op (.p rfl) (.mv rfl) ?_
    refine O.op (.p rfl) (.mv rfl) ?_
    refine O.op (.p rfl) (.len rfl Go.Proofs.Tryz.underlying33 rfl) ?_
    refine O.op (.p rfl) (.lss rfl rfl) ?_
    refine O.nil ?_
    first | refine S.condD rfl (fun h20 => ?_) (fun h20 => ?_) | refine S.condB rfl (fun h20 => ?_) (fun h20 => ?_)
    · have hi : i < zs.length := by omega
      refine S.skip (S.seq (S.block (S.seq (S.regionD (L := [0, 1, 2, 3, 4, 5, 6, 7, 8, 9, 10, 11, 12, 13, 14, 15, 16, 17, 18, 19, 20, 21, 22, 23, 24, 25, 26, 27, 28, 29, 30, 31, 32, 33, 34]) FactKit2.mixed (by kernel_rfl) ?_))))
      refine .quiet (.p rfl) rfl (fun _ => .mv rfl) ?_
      refine .quiet (.p rfl) rfl (fun _ => .mv rfl) ?_
      refine .quiet (.p rfl) rfl (fun _ => .len rfl Go.Proofs.Tryz.underlying33 rfl) ?_
      refine .quiet (.p rfl) rfl (fun _ => .lss rfl rfl) ?_
      refine .quiet (.p rfl) rfl (fun _ => .mv rfl) ?_
      first | refine OD.caseD 27 rfl (fun h27 => ?_) (fun h27 => ?_) | refine OD.caseB 27 rfl (fun h27 => ?_) (fun h27 => ?_)
      · have hi2 : i < xs.length := by omega
        have hget : (xs ++ marks1 12)[i]'(by simp; omega) = xs[i] := List.getElem_append_left hi2
        refine .quiet (.g rfl rfl) rfl (fun _ => .mv rfl) ?_
        refine .quiet (.g rfl rfl) rfl (fun _ => .mv rfl) ?_
        refine OD.idx' (.g rfl rfl) Go.Proofs.Tryz.underlying33 FactKit2.size5 rfl rfl rfl (by first | assumption | exact Arr.mono hg (by assumption) | exact Arr.left (by assumption) | exact Arr.left (Arr.mono hg (by assumption))) (by decide) (by first | omega | (simp; done) | (simp; omega) | decide) (fun p30 cs30 hp30 hr30 => ?_)
        cases hr30
        refine .quiet (.g rfl rfl) rfl (fun _ => .loadAt FactKit2.flat5 rfl hp30 rfl) ?_
        refine .quiet (.g rfl rfl) rfl (fun _ => .mv rfl) ?_
        refine .quiet (.g rfl rfl) rfl (fun _ => .mv rfl) ?_
        refine OD.idx' (.g rfl rfl) Go.Proofs.Tryz.underlying33 FactKit2.size5 rfl rfl rfl (by first | assumption | exact Arr.mono hg (by assumption) | exact Arr.left (by assumption) | exact Arr.left (Arr.mono hg (by assumption))) (by decide) (by first | omega | (simp; done) | (simp; omega) | decide) (fun p34 cs34 hp34 hr34 => ?_)
        cases hr34
        refine .quiet (.g rfl rfl) rfl (fun _ => .loadAt FactKit2.flat5 rfl hp34 rfl) ?_
        refine .quiet (.g rfl rfl) rfl (fun _ => .eql rfl rfl) ?_
        refine .quiet (.g rfl rfl) rfl (fun _ => (by first | exact .notD rfl | exact .not rfl)) ?_
        refine .quiet (.p rfl) rfl (fun _ => .pickT rfl rfl) ?_
        refine .quiet (.p rfl) rfl (fun _ => .mv rfl) ?_
        first | refine OD.caseD 39 rfl (fun h39 => ?_) (fun h39 => ?_) | refine OD.caseB 39 rfl (fun h39 => ?_) (fun h39 => ?_)
        · refine .no rfl rfl rfl rfl ?_
          refine .no rfl rfl rfl rfl ?_
          refine .no rfl rfl rfl rfl ?_
          refine .no rfl rfl rfl rfl ?_
          refine .no rfl rfl rfl rfl ?_
          refine .no rfl rfl rfl rfl ?_
          refine .no rfl rfl rfl rfl ?_
          refine .no rfl rfl rfl rfl ?_
          refine .no rfl rfl rfl rfl ?_
          refine .no rfl rfl rfl rfl ?_
          refine .no rfl rfl rfl rfl ?_
          refine .no rfl rfl rfl rfl ?_
          refine .no rfl rfl rfl rfl ?_
          refine .no rfl rfl rfl rfl ?_
          refine .no rfl rfl rfl rfl ?_
          refine .no rfl rfl rfl rfl ?_
          refine .no rfl rfl rfl rfl ?_
          refine .quiet (.p rfl) rfl (fun _ => .pickT rfl rfl) ?_
          refine .nil ?_
          refine S.condT rfl ?_
          refine S.seq (S.region rfl ?_)
          refine O.op (.p rfl) (.as rfl) ?_
          refine O.nil ?_
          refine S.ret Go.Proofs.Tryz.results53 rfl fun w hw => hR _ _ w ?_ hw
          refine ⟨?_, rfl⟩
          have hne : ¬ zs = xs ++ marks1 12 := by
            intro e
            have h1 : zs[i] = xs[i] := by rw [← hget]; exact getElem_congr_coll e
            have := u8_toNat h1
            omega
          simp [hne]
        · refine .quiet (.g rfl rfl) rfl (fun _ => .mv rfl) ?_
          refine .quiet (.g rfl rfl) rfl (fun _ => .mv rfl) ?_
          refine .quiet (.g rfl rfl) rfl (fun _ => .len rfl Go.Proofs.Tryz.underlying33 rfl) ?_
          refine .quiet (.g rfl rfl) rfl (fun _ => .geq rfl rfl) ?_
          refine OD.slot 43 (v' := .bool false) rfl (congrArg Value.bool (by simp; omega)) ?_
          refine .quiet (.g rfl rfl) rfl (fun _ => .mv rfl) ?_
          refine .no rfl rfl rfl rfl ?_
          refine .no rfl rfl rfl rfl ?_
          refine .no rfl rfl rfl rfl ?_
          refine .no rfl rfl rfl rfl ?_
          refine .no rfl rfl rfl rfl ?_
          refine .no rfl rfl rfl rfl ?_
          refine .no rfl rfl rfl rfl ?_
          refine .no rfl rfl rfl rfl ?_
          refine .no rfl rfl rfl rfl ?_
          refine .no rfl rfl rfl rfl ?_
          refine .no rfl rfl rfl rfl ?_
          refine .quiet (.g rfl rfl) rfl (fun _ => .pickF rfl rfl) ?_
          refine .quiet (.p rfl) rfl (fun _ => .pickF rfl rfl) ?_
          refine .nil ?_
          refine S.condF rfl ?_
          refine S.skip (S.inBlock (S.region rfl ?_))
          refine O.op (.p rfl) (.mv rfl) ?_
          refine O.op (.p rfl) (.add rfl rfl (IntWalk.i64_in _ (by omega))) ?_
          refine O.op (.p rfl) (.as rfl) ?_
          refine O.nil ?_
          refine S.weaken ?_ (ih (i + 1) (by exact ⟨by omega, kept_step (by simp; omega) hx fun _ => by rw [hget]; exact u8_inj (by omega)⟩) (by omega))
          repeat (first | exact Sub.nil | refine Sub.cons rfl ?_)
      · have hi2 : xs.length ≤ i := by omega
        have hget : (xs ++ marks1 12)[i]'(by simp; omega) = markB 1 ((i : Int) - (xs.length : Int)) := by
          rw [List.getElem_append_right hi2]; simp [marks1]; congr 1; omega
        refine .no rfl rfl rfl rfl ?_
        refine .no rfl rfl rfl rfl ?_
        refine .no rfl rfl rfl rfl ?_
        refine .no rfl rfl rfl rfl ?_
        refine .no rfl rfl rfl rfl ?_
        refine .no rfl rfl rfl rfl ?_
        refine .no rfl rfl rfl rfl ?_
        refine .no rfl rfl rfl rfl ?_
        refine .no rfl rfl rfl rfl ?_
        refine .no rfl rfl rfl rfl ?_
        refine .quiet (.p rfl) rfl (fun _ => .pickF rfl rfl) ?_
        refine .quiet (.p rfl) rfl (fun _ => .mv rfl) ?_
        refine .quiet (.g rfl rfl) rfl (fun _ => .mv rfl) ?_
        refine .quiet (.g rfl rfl) rfl (fun _ => .mv rfl) ?_
        refine .quiet (.g rfl rfl) rfl (fun _ => .len rfl Go.Proofs.Tryz.underlying33 rfl) ?_
        refine .quiet (.g rfl rfl) rfl (fun _ => .geq rfl rfl) ?_
        refine OD.slot 43 (v' := .bool true) rfl (congrArg Value.bool (by simp; omega)) ?_
        refine .quiet (.g rfl rfl) rfl (fun _ => .mv rfl) ?_
        refine .quiet (.g rfl rfl) rfl (fun _ => .mv rfl) ?_
        refine .quiet (.g rfl rfl) rfl (fun _ => .mv rfl) ?_
        refine OD.idx' (.g rfl rfl) Go.Proofs.Tryz.underlying33 FactKit2.size5 rfl rfl rfl (by first | assumption | exact Arr.mono hg (by assumption) | exact Arr.left (by assumption) | exact Arr.left (Arr.mono hg (by assumption))) (by decide) (by first | omega | (simp; done) | (simp; omega) | decide) (fun p47 cs47 hp47 hr47 => ?_)
        cases hr47
        refine .quiet (.g rfl rfl) rfl (fun _ => .loadAt FactKit2.flat5 rfl hp47 rfl) ?_
        refine .quiet (.g rfl rfl) rfl (fun _ => .mv rfl) ?_
        refine .quiet (.g rfl rfl) rfl (fun _ => .mv rfl) ?_
        refine .quiet (.g rfl rfl) rfl (fun _ => .len rfl Go.Proofs.Tryz.underlying33 rfl) ?_
        refine .quiet (.g rfl rfl) rfl (fun _ => .sub rfl rfl (IntWalk.i64_in _ (by omega))) ?_
        refine OD.call0 (.g rfl rfl) (by kernel_rfl) rfl FactKit2.ok85 rfl rfl (markByte_c _ _ (by constructor <;> omega) (by constructor <;> omega)) ?_
        rintro v53 _ ⟨rfl, rfl⟩
        try simp only [List.cons_append, List.nil_append, List.append_nil]
        refine .quiet (.g rfl rfl) rfl (fun _ => .eql rfl rfl) ?_
        refine .quiet (.g rfl rfl) rfl (fun _ => (by first | exact .notD rfl | exact .not rfl)) ?_
        refine .quiet (.g rfl rfl) rfl (fun _ => .pickT rfl rfl) ?_
        refine .quiet (.p rfl) rfl (fun _ => .pickF rfl rfl) ?_
        refine .nil ?_
        first | refine S.condD rfl (fun h57 => ?_) (fun h57 => ?_) | refine S.condB rfl (fun h57 => ?_) (fun h57 => ?_)
        · refine S.seq (S.region rfl ?_)
          refine O.op (.p rfl) (.as rfl) ?_
          refine O.nil ?_
          refine S.ret Go.Proofs.Tryz.results53 rfl fun w hw => hR _ _ w ?_ hw
          refine ⟨?_, rfl⟩
          have hne : ¬ zs = xs ++ marks1 12 := by
            intro e
            have h1 : zs[i] = markB 1 ((i : Int) - (xs.length : Int)) := by rw [← hget]; exact getElem_congr_coll e
            have := u8_toNat h1
            omega
          simp [hne]
        · refine S.skip (S.inBlock (S.region rfl ?_))
          refine O.op (.p rfl) (.mv rfl) ?_
          refine O.op (.p rfl) (.add rfl rfl (IntWalk.i64_in _ (by omega))) ?_
          refine O.op (.p rfl) (.as rfl) ?_
          refine O.nil ?_
          refine S.weaken ?_ (ih (i + 1) (by exact ⟨by omega, kept_step (by simp; omega) hx fun _ => by rw [hget]; exact u8_inj (by omega)⟩) (by omega))
          repeat (first | exact Sub.nil | refine Sub.cons rfl ?_)
    · have hi : i = zs.length := by omega
      refine S.exit rfl ?_
      refine S.seq (S.region rfl ?_)
      refine O.op (.p rfl) (.as rfl) ?_
      refine O.nil ?_
      refine S.ret Go.Proofs.Tryz.results53 rfl fun w hw => hR _ _ w ?_ hw
      exact ⟨by rw [kept_get xs zs hzl.symm (fun j hj => hx j hj (by omega))]; simp, rfl⟩

def marks2 (n : Nat) : List UInt8 := (List.range n).map fun (i : Nat) => markB 2 (i : Int)
@[simp] theorem marks2_length (n : Nat) : (marks2 n).length = n := by simp [marks2]
theorem marks2_set (zs : List UInt8) (i : Nat) (h : i < zs.length) : (marks2 i ++ zs.drop i).set i (markB 2 (i : Int)) = marks2 (i + 1) ++ zs.drop (i + 1) := by
  rw [List.set_append_right _ _ (by simp), marks2_length, Nat.sub_self, List.drop_eq_getElem_cons h, List.set_cons_zero]; simp [marks2, List.range_succ]
theorem OverBytes_c {r : Fr} {a : Option Addr} {c : Nat} {xs : List UInt8} (hb : xs.length ≤ 100000000000) :
    Con Go.Proofs.Tryz.prog 54 #[.slice a xs.length c] r [LentP 5 (.slice a xs.length c) xs] (Ret fun v η => v = .tuple #[] ∧ η = []) := by
  refine Con.of (n := 23) [.slice a xs.length c] rfl Go.Proofs.Tryz.func54 rfl rfl rfl fun g hg R hR => ?_
  refine S.conv (C := fun m => xs.length + 12 ≤ c ∧ OwnP Rp.u8 5 (.slice a (xs.length + 12) c) (xs ++ marks1 12) m) Sel.here (fun m ⟨_, _, h1, h2, h3⟩ => ⟨m, Fr.sub_refl _, by cases h2; exact ⟨h1, h3⟩⟩) ?_
  refine S.factS Sel.here (fun _ x => x.1) fun hroom => ?_
  obtain ⟨zs, hzs, hzl⟩ : ∃ zs, xs ++ marks1 12 = zs ∧ zs.length = xs.length + 12 := ⟨_, rfl, by simp⟩
  refine S.conv (C := OwnP Rp.u8 5 (.slice a (xs.length + 12) c) (marks2 0 ++ zs.drop 0)) Sel.here (fun m x => ⟨m, Fr.sub_refl _, by subst hzs; simpa [marks2] using x.2⟩) ?_
  refine S.seq (S.region rfl ?_)
  refine O.op (.p rfl) (.mv rfl) ?_
  refine O.op (.p rfl) (.mv rfl) ?_
  refine O.op (.p rfl) (.cap rfl Go.Proofs.Tryz.underlying33 rfl) ?_
  refine O.op (.p rfl) (.mv rfl) ?_
  refine O.op (.p rfl) (.len rfl Go.Proofs.Tryz.underlying33 rfl) ?_
  refine O.op (.p rfl) (.add rfl rfl (IntWalk.i64_in _ (by omega))) ?_
  refine O.op (.p rfl) (.min2 rfl rfl) ?_
  refine O.slice0 (q := xs.length + 12) Rp.u8 (.p rfl) Go.Proofs.Tryz.underlying33 FactKit2.size5 rfl rfl (by split <;> omega) (by omega) ?_
  refine O.op (.p rfl) (.as rfl) ?_
  refine O.nil ?_
  refine S.seq (S.region rfl ?_)
  refine O.op (.p rfl) (.as rfl) ?_
  refine O.nil ?_
  refine S.block ?_
  refine S.loopK (ι := Nat) (fun i => i ≤ xs.length + 12) (fun i => [(3, .int .i64 (i : Int))]) [(2, _)] (fun i => [OwnP Rp.u8 5 (.slice a (xs.length + 12) c) (marks2 i ++ zs.drop i)]) (fun i => xs.length + 12 - i) (0) (by simp) (.cons rfl (.nil)) (.cons rfl (.nil)) rfl fun i hx ih => ?_
  have hm1 := meltRefl (g := g)
  refine S.seq (S.seq (S.region rfl ?_))
  refine O.op (.p rfl) (.mv rfl) ?_
  refine O.op (.p rfl) (.mv rfl) ?_
  refine O.op (.p rfl) (.len rfl Go.Proofs.Tryz.underlying33 rfl) ?_
  refine O.op (.p rfl) (.lss rfl rfl) ?_
  refine O.nil ?_
  first | refine S.condD rfl (fun h15 => ?_) (fun h15 => ?_) | refine S.condB rfl (fun h15 => ?_) (fun h15 => ?_)
  · refine S.skip (S.seq (S.block (S.region rfl ?_)))
    refine O.op (.p rfl) (.mv rfl) ?_
    refine O.op (.p rfl) (.mv rfl) ?_
    refine O.op (.p rfl) (.mv rfl) ?_
    refine O.call0 (.p rfl) rfl FactKit2.ok85 rfl rfl (markByte_c _ _ (by constructor <;> omega) (by constructor <;> omega)) ?_
    rintro v21 _ ⟨rfl, rfl⟩
    try simp only [List.cons_append, List.nil_append, List.append_nil]
    refine O.opE (.p rfl) (.idxOwn (T := Rp.u8) Go.Proofs.Tryz.underlying33 FactKit2.size5 rfl rfl rfl (by repeat (first | exact Sel.here | apply Sel.there)) (by first | omega | (simp; done) | (simp; omega))) ?_
    rintro _ _ ⟨p22, rfl, hp22, rfl⟩
    refine O.opU rfl (.storeOwn FactKit2.size5 rfl hp22 rfl (by repeat (first | exact Sel.here | apply Sel.there)) (by first | omega | (simp; done) | (simp; omega)) (show _ = _ by rfl : Rp.rel _ _ _ (markB 2 (i : Int)))) ?_
    refine O.nil ?_
    refine S.inBlock (S.region rfl ?_)
    refine O.op (.p rfl) (.mv rfl) ?_
    refine O.op (.p rfl) (.add rfl rfl (IntWalk.i64_in _ (by omega))) ?_
    refine O.op (.p rfl) (.as rfl) ?_
    refine O.nil ?_
    rw [marks2_set zs i (by omega)]
    refine S.weaken ?_ (ih (i + 1) (by omega) (by omega))
    repeat (first | exact Sub.nil | refine Sub.cons rfl ?_)
  · refine S.exit rfl ?_
    refine S.end0 Go.Proofs.Tryz.results54 fun w hw => Holds.end_ hR hw ?_
    exact ⟨_, ⟨rfl, rfl⟩, by repeat (first | exact Picks.all | exact Picks.nil | (apply Picks.cons; focus (repeat (first | exact Sel.here | apply Sel.there))) | apply Picks.skip)⟩

/-- the marks behind rows that are lent -/
def rowMarks (n : Nat) : List (List UInt8) := (List.range n).map fun (i : Nat) => markT 1 (i : Int)
@[simp] theorem rowMarks_length (n : Nat) : (rowMarks n).length = n := by simp [rowMarks]
theorem rowMarks_succ (n : Nat) : rowMarks n ++ [markT 1 (n : Int)] = rowMarks (n + 1) := by simp [rowMarks, List.range_succ]
def ArrW (v : Value) (xs : List UInt8) : SProp := fun m => Arr Rp.u8 m v xs
end Go.Proofs.YthaebmfgelaleaaGreat
end
section
open Go Go.Sp
set_option maxRecDepth 100000
attribute [local irreducible] obj Own OwnP
namespace Go.Proofs.YthaebmfgelaleaaGreat

theorem Sat.w1 {A : SProp} {B : Fr → Prop} {m : Fr} (hs : ∀ {h k : Fr}, h.sub k → B h → B k) (hA : ∀ h, A h → B h) : Sat [A] m → B m := fun ⟨_, _, _, s, _, x, _⟩ => hs s (hA _ x)
/-- the second one is lent, and let go -/
theorem SameBytes_w {r : Fr} {va vb : Value} {xs ys : List UInt8} (ha : Arr Rp.u8 r va xs) :
    Con Go.Proofs.Tryz.prog 32 #[va, vb] r [fun m => Arr Rp.u8 m vb ys] (Ret fun v η => v = .bool (decide (xs = ys)) ∧ η = []) :=
  Con.lentD (η := []) (bs := [_]) fun _ hm hd => SameBytes_c ha.left ((Sat.w1 Arr.mono (fun _ x => x) hm).right hd)

theorem lent_at {h : Fr} {vs us : List Value} {xss : List (List UInt8)} (hv : All2 (LentA h) vs xss) (i : Nat) (hi : i < xss.length) (hi2 : i < (vs ++ us).length) : LentA h (vs ++ us)[i] xss[i] := by
  have hl := hv.length
  rw [List.getElem_append_left (by omega)]
  exact hv.get i (by omega) hi
theorem mark_at {h : Fr} {vs us : List Value} {n : Nat} (hv : vs.length = n) (hu : All2 (Arr Rp.u8 h) us (rowMarks 12)) (i : Nat) (hi : n ≤ i) (hi2 : i < (vs ++ us).length) : Arr Rp.u8 h (vs ++ us)[i] (markT 1 ((i : Int) - (n : Int))) := by
  have hl := hu.length
  rw [List.getElem_append_right (by omega)]
  have := hu.get (i - vs.length) (by simp at hi2; omega) (by simp at hi2 hl ⊢; omega)
  simpa [rowMarks, hv, Int.natCast_sub hi] using this
end Go.Proofs.YthaebmfgelaleaaGreat
end
