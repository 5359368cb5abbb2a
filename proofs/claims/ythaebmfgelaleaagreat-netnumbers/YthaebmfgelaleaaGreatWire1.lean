import Derived.Test.YthaebmfgelaleaaGreatKit1
import Derived.Test.YthaebmfgelaleaaGreatSpBytes
import Derived.Test.YthaebmfgelaleaaGreatSpOwn3
open Go Go.Sp
set_option maxRecDepth 100000
attribute [local irreducible] obj Own OwnP
namespace Go.Proofs.YthaebmfgelaleaaGreat
theorem FactWire1.elem5 : elemIs Go.Proofs.Tryz.prog 5 1 1 [.int .u8 0] := elemIs.mk (by kernel_rfl) rfl

theorem set_be (n : Int) (i : Nat) (h : i < 8) : (List.replicate (8 - i) (0 : UInt8) ++ (be n).drop (8 - i)).set (7 - i) (beAt n i) = List.replicate (8 - (i + 1)) 0 ++ (be n).drop (8 - (i + 1)) := by
  match i, h with
  | 0, _ | 1, _ | 2, _ | 3, _ | 4, _ | 5, _ | 6, _ | 7, _ => rfl
theorem cloneB_c {r : Fr} {va : Value} {xs : List UInt8} (ha : Arr Rp.u8 r va xs) (hl : xs.length ≤ 140737488355328) :
    Con Go.Proofs.Tryz.prog 84 #[va] r [] (Ret fun v η => ∃ a c, v = .slice a xs.length c ∧ η = [OwnP Rp.u8 5 v xs]) := by
  refine Con.of (n := 8) [va] rfl Go.Proofs.Tryz.func84 rfl rfl rfl fun g hg R hR => ?_
  have ha := ha.mono hg
  obtain ⟨a1, c1, rfl⟩ := ha.shape
  cases a1 with
  | none =>
    refine S.seq (S.region rfl ?_)
    refine O.op (.p rfl) (.as rfl) ?_
    refine O.nil ?_
    refine S.seq (S.seq (S.region rfl ?_))
    refine O.op (.p rfl) (.mv rfl) ?_
    refine O.op (.p rfl) (.eqlNil Go.Proofs.Tryz.underlying33 rfl rfl) ?_
    refine O.nil ?_
    refine S.condT rfl ?_
    refine S.seq (S.region rfl ?_)
    refine O.op (.p rfl) (.as rfl) ?_
    refine O.nil ?_
    obtain ⟨rfl, _, rfl⟩ := Arr.nil_of (by decide) ha
    refine S.addNil (T := Rp.u8) (e := 5) ?_
    refine S.ret Go.Proofs.Tryz.results84 rfl fun w hw => hR _ _ w ?_ hw
    exact ⟨none, 0, rfl, rfl⟩
  | some a1 =>
    refine S.seq (S.region rfl ?_)
    refine O.op (.p rfl) (.as rfl) ?_
    refine O.nil ?_
    refine S.seq (S.seq (S.region rfl ?_))
    refine O.op (.p rfl) (.mv rfl) ?_
    refine O.op (.p rfl) (.eqlNil Go.Proofs.Tryz.underlying33 rfl rfl) ?_
    refine O.nil ?_
    refine S.condF rfl ?_
    refine S.skip (S.seq (S.region rfl ?_))
    refine O.opE (.p rfl) (.litP (T := Rp.u8) (ys := []) Go.Proofs.Tryz.underlying33 FactWire1.elem5 (by decide) rfl rfl trivial (by decide)) ?_
    rintro _ _ ⟨a5, c5, rfl, rfl⟩
    refine O.op (.p rfl) (.mv rfl) ?_
    refine O.opE (.p rfl) (.appendP (T := Rp.u8) pure_u8 Go.Proofs.Tryz.underlying33 FactWire1.elem5 (by decide) rfl rfl (by repeat (first | exact Sel.here | apply Sel.there)) (by first | assumption | exact Arr.mono hg (by assumption) | exact Arr.left (by assumption) | exact Arr.left (Arr.mono hg (by assumption))) (by first | omega | (simp; done) | (simp; omega) | decide) (by first | omega | (simp; done) | (simp; omega) | decide)) ?_
    rintro _ _ ⟨a7, c7, rfl, rfl⟩
    refine O.op (.p rfl) (.as rfl) ?_
    refine O.nil ?_
    refine S.ret Go.Proofs.Tryz.results84 rfl fun w hw => hR _ _ w ?_ hw
    exact ⟨a7, c7, by simp, by simp⟩

theorem flat_len (xss : List (List UInt8)) (i : Nat) (h : i < xss.length) : (xss.take (i + 1)).flatten = (xss.take i).flatten ++ xss[i] := by
  rw [List.take_succ_eq_append_getElem h, List.flatten_append, List.flatten_singleton]
theorem flat_le (xss : List (List UInt8)) (i : Nat) : (xss.take i).flatten.length ≤ xss.flatten.length := by
  have : xss.flatten = (xss.take i).flatten ++ (xss.drop i).flatten := by rw [← List.flatten_append, List.take_append_drop]
  rw [this, List.length_append]; omega
/-- bytes, and how many they are ahead -/
def bytesOf (xs : List UInt8) : List UInt8 := be xs.length ++ xs
@[simp] theorem bytesOf_length (xs : List UInt8) : (bytesOf xs).length = 8 + xs.length := by simp [bytesOf]
theorem one_of {α : Type} {rest : List α} (h : (0 : Int) ≤ 1 ∧ (1 : Int) ≤ rest.length) : ∃ x xs, rest = x :: xs := by
  cases rest with
  | nil => simp at h
  | cons x xs => exact ⟨x, xs, rfl⟩
theorem none_of {α : Type} {rest : List α} (h : ¬((0 : Int) ≤ 1 ∧ (1 : Int) ≤ rest.length)) : rest = [] := by
  cases rest with
  | nil => rfl
  | cons x xs => simp at h; omega
/-- a number that bytes hold -/
def ofBe (xs : List UInt8) : Int := s64 (beVal (xs.take 8))
theorem ofBe_in (xs : List UInt8) : InI64 (ofBe xs) := s64_in _ (Nat.lt_of_lt_of_le (beVal_lt xs 8) (by decide))
end Go.Proofs.YthaebmfgelaleaaGreat
