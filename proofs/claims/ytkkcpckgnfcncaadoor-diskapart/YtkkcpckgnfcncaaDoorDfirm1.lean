import Derived.Test.YtkkcpckgnfcncaaDoorDalike
open Go Go.Sp
set_option maxRecDepth 100000
attribute [local irreducible] obj Own OwnP
namespace Go.Proofs.YtkkcpckgnfcncaaDoor
theorem FactDfirm1.elem5 : elemIs Go.Proofs.Tryd.prog 5 1 1 [.int .u8 0] := elemIs.mk (by kernel_rfl) rfl
theorem FactDfirm1.ok10 : callable Go.Proofs.Tryd.prog 10 = true := by kernel_rfl

/-- four of them -/
def arr4 (f : Nat → Value) : List Value := [f 0, f 1, f 2, f 3]
@[simp] theorem arr4_length (f : Nat → Value) : (arr4 f).length = 4 := rfl
theorem lt4 {k : Nat} (h : k < 4) : k = 0 ∨ k = 1 ∨ k = 2 ∨ k = 3 := by omega
theorem arr4_get (f : Nat → Value) {k : Nat} (h : k < 4) : (arr4 f)[k]? = some (f k) := by rcases lt4 h with rfl | rfl | rfl | rfl <;> rfl
theorem arr4_set (f : Nat → Value) {k : Nat} (v : Value) (h : k < 4) : (arr4 f).set k v = arr4 fun j => if j = k then v else f j := by rcases lt4 h with rfl | rfl | rfl | rfl <;> rfl
theorem arr4_congr {f g : Nat → Value} (h : ∀ k, k < 4 → f k = g k) : arr4 f = arr4 g := by
  unfold arr4; rw [h 0 (by decide), h 1 (by decide), h 2 (by decide), h 3 (by decide)]
/-- the how many-th of four names -/
def lk (k : Nat) : List UInt8 := [UInt8.ofNat (97 + k)]
theorem lk_inj {j k : Nat} (hj : j < 4) (hk : k < 4) (h : lk j = lk k) : j = k := by
  rcases lt4 hj with rfl | rfl | rfl | rfl <;> rcases lt4 hk with rfl | rfl | rfl | rfl <;> first | rfl | exact absurd h (by decide)
theorem lk_ok {k : Nat} (h : k < 4) : nameOk (lk k) = true := by rcases lt4 h with rfl | rfl | rfl | rfl <;> decide
theorem lk_byte {p : Int} (h0 : 0 ≤ p) (h4 : p < 4) : Value.int .u8 (IntKind.u8.wrap (97 + p)) = byteV (UInt8.ofNat (97 + p.toNat)) := by
  obtain ⟨k, rfl⟩ : ∃ k : Nat, p = k := ⟨p.toNat, by omega⟩
  rcases lt4 (k := k) (by omega) with rfl | rfl | rfl | rfl <;> rfl
theorem letter_c {r : Fr} (z : Int) : Con Go.Proofs.Tryd.prog 12 #[.int .i64 z] r [] (Ret fun v η => v = .string (str (lk (pick z 4).toNat)) ∧ η = []) := by
  refine Con.of (n := 9) [.int .i64 z] rfl Go.Proofs.Tryd.func12 rfl rfl rfl fun g hg R hR => ?_
  have hp : 0 ≤ pick z 4 ∧ pick z 4 < 4 := by
    unfold pick
    rw [if_neg (by omega)]
    have h1 := Int.tmod_lt_of_pos z (show (0 : Int) < 4 by decide)
    have h2 := Int.lt_tmod_of_pos z (show (0 : Int) < 4 by decide)
    split <;> omega
  refine S.seq (S.region rfl ?_)
  refine O.op (.p rfl) (.as rfl) ?_
  refine O.nil ?_
  refine S.seq (S.region rfl ?_)
  refine O.op (.p rfl) (.mv rfl) ?_
  refine O.call0 (.p rfl) rfl FactDfirm1.ok10 rfl rfl (Pick_c _ _ (by first | assumption | (constructor <;> omega))) ?_
  rintro v4 _ ⟨rfl, rfl⟩
  try simp only [List.cons_append, List.nil_append, List.append_nil]
  refine O.op (.p rfl) (.add rfl rfl (IntWalk.i64_in _ (by omega))) ?_
  refine O.op (.p rfl) (.cvt Go.Proofs.Tryd.underlying3 Go.Proofs.Tryd.underlying5 rfl) ?_
  refine O.slot 6 (v' := byteV (UInt8.ofNat (97 + (pick z 4).toNat))) rfl (by exact lk_byte hp.1 hp.2) ?_
  refine O.opE (.p rfl) (.litP (T := Rp.u8) (ys := [_]) Go.Proofs.Tryd.underlying31 FactDfirm1.elem5 (by decide) rfl rfl ⟨rfl, trivial⟩ (by decide)) ?_
  rintro _ _ ⟨a7, c7, rfl, rfl⟩
  refine O.frzA (by repeat (first | exact Sel.here | apply Sel.there)) fun g hs hm ha7 => ?_
  replace hg := Fr.sub_trans hg hs
  replace hR := melted hR hm
  clear hs hm
  refine O.op (.p rfl) (.toStr Go.Proofs.Tryd.underlying31 Go.Proofs.Tryd.underlying5 Go.Proofs.Tryd.underlying9 rfl (by first | assumption | exact Arr.mono hg (by assumption) | exact Arr.left (by assumption) | exact Arr.left (Arr.mono hg (by assumption)))) ?_
  refine O.op (.p rfl) (.as rfl) ?_
  refine O.nil ?_
  refine S.ret Go.Proofs.Tryd.results12 rfl fun w hw => Holds.end_ hR hw ?_
  exact ⟨_, ⟨rfl, rfl⟩, by repeat (first | exact Picks.all | exact Picks.nil | (apply Picks.cons; focus (repeat (first | exact Sel.here | apply Sel.there))) | apply Picks.skip)⟩

end Go.Proofs.YtkkcpckgnfcncaaDoor
