import Derived.Test.YthaebmfgelaleaaKit1
import Derived.Test.YthaebmfgelaleaaSpKit
import Derived.Test.YthaebmfgelaleaaSpGp
open Go Go.Sp
set_option maxRecDepth 100000
attribute [local irreducible] obj Own OwnP
namespace Go.Proofs.Ythaebmfgelaleaa

/-- a thing from a number: 0 .. n-1 -/
def pick (x n : Int) : Int := if n < 1 then 0 else if x.tmod n < 0 then x.tmod n + n else x.tmod n
theorem Pick_c {r : Fr} (x n : Int) (hn : InI64 n) : Con Go.Proofs.Try.prog 14 #[.int .i64 x, .int .i64 n] r [] (Ret fun v η => v = .int .i64 (pick x n) ∧ η = []) := by
  refine Con.of (n := 16) [.int .i64 x, .int .i64 n] rfl Go.Proofs.Try.func14 rfl rfl rfl fun g hg R hR => ?_
  unfold InI64 at hn
  refine S.seq (S.region rfl ?_)
  refine O.op (.p rfl) (.as rfl) ?_
  refine O.nil ?_
  refine S.seq (S.seq (S.region rfl ?_))
  refine O.op (.p rfl) (.mv rfl) ?_
  refine O.op (.p rfl) (.lss rfl rfl) ?_
  refine O.nil ?_
  first | refine S.condD rfl (fun h6 => ?_) (fun h6 => ?_) | refine S.condB rfl (fun h6 => ?_) (fun h6 => ?_)
  · refine S.seq (S.region rfl ?_)
    refine O.op (.p rfl) (.as rfl) ?_
    refine O.nil ?_
    refine S.ret Go.Proofs.Try.results14 rfl fun w hw => hR _ _ w ?_ hw
    exact ⟨by simp [pick, h6], rfl⟩
  · have b1 := Int.tmod_lt_of_pos x (show 0 < n by omega)
    have b2 := Int.lt_tmod_of_pos x (show 0 < n by omega)
    refine S.skip (S.seq (S.region rfl ?_))
    refine O.op (.p rfl) (.mv rfl) ?_
    refine O.op (.p rfl) (.mv rfl) ?_
    refine O.op (.p rfl) (.rem rfl rfl (by omega)) ?_
    refine O.op (.p rfl) (.as rfl) ?_
    refine O.nil ?_
    refine S.seq (S.seq (S.region rfl ?_))
    refine O.op (.p rfl) (.mv rfl) ?_
    refine O.op (.p rfl) (.lss rfl rfl) ?_
    refine O.nil ?_
    first | refine S.condD rfl (fun h11 => ?_) (fun h11 => ?_) | refine S.condB rfl (fun h11 => ?_) (fun h11 => ?_)
    · refine S.region rfl ?_
      refine O.op (.p rfl) (.mv rfl) ?_
      refine O.op (.p rfl) (.mv rfl) ?_
      refine O.op (.p rfl) (.add rfl rfl (IntWalk.i64_in _ (by omega))) ?_
      refine O.op (.p rfl) (.as rfl) ?_
      refine O.nil ?_
      refine S.seq (S.region rfl ?_)
      refine O.op (.p rfl) (.mv rfl) ?_
      refine O.op (.p rfl) (.as rfl) ?_
      refine O.nil ?_
      refine S.ret Go.Proofs.Try.results14 rfl fun w hw => hR _ _ w ?_ hw
      exact ⟨by simp [pick, h6, h11], rfl⟩
    · refine S.skip (S.seq (S.region rfl ?_))
      refine O.op (.p rfl) (.mv rfl) ?_
      refine O.op (.p rfl) (.as rfl) ?_
      refine O.nil ?_
      refine S.ret Go.Proofs.Try.results14 rfl fun w hw => hR _ _ w ?_ hw
      exact ⟨by simp [pick, h6, h11], rfl⟩

end Go.Proofs.Ythaebmfgelaleaa
