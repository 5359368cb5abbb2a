import Derived.Test.YtcghiboamlaenaaDoorWire1
import Derived.Test.YtcghiboamlaenaaDoorSpKit
import Derived.Test.YtcghiboamlaenaaDoorSpGp
open Go Go.Sp
set_option maxRecDepth 100000
attribute [local irreducible] obj Own OwnP
namespace Go.Proofs.YtcghiboamlaenaaDoor
theorem FactRefnum.elem5 : elemIs Go.Proofs.Tryd.prog 5 1 1 [.int .u8 0] := elemIs.mk (by kernel_rfl) rfl

theorem be_take (n : Int) (j : Nat) (h : j < 8) : (be n).take j ++ [beAt n (7 - j)] = (be n).take (j + 1) := by
  match j, h with
  | 0, _ | 1, _ | 2, _ | 3, _ | 4, _ | 5, _ | 6, _ | 7, _ => rfl
theorem be_take_len (n : Int) (j : Nat) (h : j ≤ 8) : ((be n).take j).length = j := by rw [List.length_take, be_length]; omega
theorem refNumber_c {r : Fr} (n : Int) : Con Go.Proofs.Tryd.prog 34 #[.int .i64 n] r [] (Ret fun v η => ∃ a c, v = .slice a 8 c ∧ η = [OwnP Rp.u8 5 v (be n)]) := by
  refine Con.of (n := 20) [.int .i64 n] rfl Go.Proofs.Tryd.func34 rfl rfl rfl fun g hg R hR => ?_
  refine S.addNil (T := Rp.u8) (e := 5) ?_
  refine S.seq (S.region rfl ?_)
  refine O.op (.p rfl) (.as rfl) ?_
  refine O.nil ?_
  refine S.seq (S.region rfl ?_)
  refine O.op (.p rfl) (.as rfl) ?_
  refine O.nil ?_
  refine S.seq (S.seq (S.region rfl ?_))
  refine O.op (.p rfl) (.as rfl) ?_
  refine O.nil ?_
  refine S.block ?_
  refine S.loopK3 (ι := Nat) (κ := Option Addr) (υ := Nat) (fun j a c => j ≤ 8) (fun j a c => [(4, .int .i64 ((7 : Int) - (j : Int))), (3, .slice a j c)]) [(0, _)] (fun j a c => [OwnP Rp.u8 5 (.slice a j c) ((be n).take j)]) (fun j a c => 8 - j) (0) (none) (0) (by simp) (.cons rfl (.cons rfl (.nil))) (.cons rfl (.nil)) rfl fun j a c hx ih => ?_
  have hm1 := meltRefl (g := g)
  refine S.seq (S.seq (S.region rfl ?_))
  refine O.op (.p rfl) (.mv rfl) ?_
  refine O.op (.p rfl) (.geq rfl rfl) ?_
  refine O.nil ?_
  first | refine S.condD rfl (fun h6 => ?_) (fun h6 => ?_) | refine S.condB rfl (fun h6 => ?_) (fun h6 => ?_)
  · have hj : j < 8 := by omega
    have hl := be_take_len n j (by omega)
    have hw : IntKind.u64.wrap (8 * (7 - (j : Int))) = 8 * (7 - (j : Int)) := by rw [wrap_u64_eq]; unfold u64; omega
    refine S.skip (S.seq (S.block (S.region rfl ?_)))
    refine O.op (.p rfl) (.mv rfl) ?_
    refine O.op (.p rfl) (.mv rfl) ?_
    refine O.op (.p rfl) (.cvt Go.Proofs.Tryd.underlying3 Go.Proofs.Tryd.underlying96 rfl) ?_
    refine O.op (.p rfl) (.mv rfl) ?_
    refine O.op (.p rfl) (.mul rfl rfl (IntWalk.i64_in _ (by omega))) ?_
    refine O.op (.p rfl) (.cvt Go.Proofs.Tryd.underlying3 Go.Proofs.Tryd.underlying95 rfl) ?_
    refine O.op (.p rfl) (.shr rfl rfl (by omega)) ?_
    refine O.op (.p rfl) (.cvt Go.Proofs.Tryd.underlying96 Go.Proofs.Tryd.underlying5 rfl) ?_
    refine O.opE (.p rfl) (.litP (T := Rp.u8) (ys := [beAt n (7 - j)]) Go.Proofs.Tryd.underlying23 FactRefnum.elem5 (by decide) rfl rfl ⟨congrArg (fun v => [v]) (by simp only [byteV]; rw [shift_byte n (7 - j) (by omega) _ (by rw [wrap_u64_eq]; unfold u64; omega)]), trivial⟩ (by decide)) ?_
    rintro v17 _ ⟨a17, c17, rfl, rfl⟩
    refine O.frzA (by repeat (first | exact Sel.here | apply Sel.there)) fun g hs hm ha17 => ?_
    replace hg := Fr.sub_trans hg hs
    replace hR := melted hR hm
    replace hm1 := meltTrans hm1 hm
    clear hs hm
    refine O.opE (.p rfl) (.appendP (T := Rp.u8) pure_u8 Go.Proofs.Tryd.underlying23 FactRefnum.elem5 (by decide) rfl rfl (by repeat (first | exact Sel.here | apply Sel.there)) (by first | assumption | exact Arr.mono hg (by assumption) | exact Arr.left (by assumption) | exact Arr.left (Arr.mono hg (by assumption))) (by first | omega | (simp; done) | (simp; omega) | decide) (by first | omega | (simp; done) | (simp; omega) | decide)) ?_
    rintro _ _ ⟨a18, c18, rfl, rfl⟩
    refine O.op (.p rfl) (.as rfl) ?_
    refine O.nil ?_
    refine S.inBlock (S.region rfl ?_)
    refine O.op (.p rfl) (.mv rfl) ?_
    refine O.op (.p rfl) (.sub rfl rfl (IntWalk.i64_in _ (by omega))) ?_
    refine O.op (.p rfl) (.as rfl) ?_
    refine O.nil ?_
    rw [be_take n j hj, hl]
    refine S.slot 4 (v' := .int .i64 ((7 : Int) - ((j + 1 : Nat) : Int))) rfl (congrArg _ (by omega)) ?_
    refine S.melt hm1 (S.weaken ?_ (ih (j + 1) (a18) (c18) (by omega) (by omega)))
    repeat (first | exact Sub.nil | refine Sub.cons rfl ?_)
  · have hj : j = 8 := by omega
    subst hj
    refine S.exit rfl ?_
    refine S.seq (S.region rfl ?_)
    refine O.op (.p rfl) (.mv rfl) ?_
    refine O.op (.p rfl) (.as rfl) ?_
    refine O.nil ?_
    refine S.ret Go.Proofs.Tryd.results34 rfl fun w hw => hR _ _ w ?_ hw
    exact ⟨a, c, rfl, rfl⟩

end Go.Proofs.YtcghiboamlaenaaDoor
