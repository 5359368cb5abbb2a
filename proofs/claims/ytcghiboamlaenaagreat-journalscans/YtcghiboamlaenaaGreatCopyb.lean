import Derived.Test.YtcghiboamlaenaaGreatWire1
import Derived.Test.YtcghiboamlaenaaGreatSpKit
import Derived.Test.YtcghiboamlaenaaGreatSpGp
open Go Go.Sp
set_option maxRecDepth 100000
attribute [local irreducible] obj Own OwnP
namespace Go.Proofs.YtcghiboamlaenaaGreat
theorem FactCopyb.elem5 : elemIs Go.Proofs.Tryz.prog 5 1 1 [.int .u8 0] := elemIs.mk (by kernel_rfl) rfl

theorem CopyBytes_c {r : Fr} {va : Value} {xs : List UInt8} (ha : Arr Rp.u8 r va xs) (hl : xs.length ≤ 140737488355328) :
    Con Go.Proofs.Tryz.prog 18 #[va] r [] (Ret fun v η => ∃ a c, v = .slice a xs.length c ∧ η = [OwnP Rp.u8 5 v xs]) := by
  refine Con.of (n := 7) [va] rfl Go.Proofs.Tryz.func18 rfl rfl rfl fun g hg R hR => ?_
  obtain ⟨a1, c1, rfl⟩ := ha.shape
  refine S.addNil (T := Rp.u8) (e := 5) ?_
  refine S.seq (S.region rfl ?_)
  refine O.op (.p rfl) (.as rfl) ?_
  refine O.nil ?_
  refine S.seq (S.region rfl ?_)
  refine O.op (.p rfl) (.as rfl) ?_
  refine O.nil ?_
  refine S.seq (S.region rfl ?_)
  refine O.op (.p rfl) (.mv rfl) ?_
  refine O.op (.p rfl) (.mv rfl) ?_
  refine O.opE (.p rfl) (.appendP (T := Rp.u8) pure_u8 Go.Proofs.Tryz.underlying23 FactCopyb.elem5 (by decide) rfl rfl (by repeat (first | exact Sel.here | apply Sel.there)) (by first | assumption | exact Arr.mono hg (by assumption) | exact Arr.left (by assumption) | exact Arr.left (Arr.mono hg (by assumption))) (by first | omega | (simp; done) | (simp; omega) | decide) (by first | omega | (simp; done) | (simp; omega) | decide)) ?_
  rintro _ _ ⟨a6, c6, rfl, rfl⟩
  refine O.op (.p rfl) (.as rfl) ?_
  refine O.nil ?_
  refine S.ret Go.Proofs.Tryz.results18 rfl fun w hw => hR _ _ w ?_ hw
  exact ⟨a6, c6, by simp, rfl⟩
/-- a thing from a number: 0 .. n-1 -/
def pick (x n : Int) : Int := if n < 1 then 0 else if x.tmod n < 0 then x.tmod n + n else x.tmod n
end Go.Proofs.YtcghiboamlaenaaGreat
