import Derived.Test.YtkkcpckgnfcncaaGreatDoorKit1
import Derived.Test.YtkkcpckgnfcncaaGreatDoorSpKit
import Derived.Test.YtkkcpckgnfcncaaGreatDoorSpGp
open Go Go.Sp
set_option maxRecDepth 100000
attribute [local irreducible] obj Own OwnP
namespace Go.Proofs.YtkkcpckgnfcncaaGreatDoor
theorem FactCopyb.elem5 : elemIs Go.Proofs.Tryz.prog 5 1 1 [.int .u8 0] := elemIs.mk (by kernel_rfl) rfl

theorem CopyBytes_c {r : Fr} {va : Value} {xs : List UInt8} (ha : Arr Rp.u8 r va xs) (hl : xs.length ≤ 140737488355328) :
    Con Go.Proofs.Tryz.prog 12 #[va] r [] (Ret fun v η => ∃ a c, v = .slice a xs.length c ∧ η = [OwnP Rp.u8 5 v xs]) := by
  refine Con.of (n := 7) [va] rfl Go.Proofs.Tryz.func12 rfl rfl rfl fun g hg R hR => ?_
  obtain ⟨a1, c1, rfl⟩ := ha.shape
  refine S.addNil (T := Rp.u8) (e := 5) ?_
  refine S.seq (S.region rfl ?_)
  refine O.op (.p rfl) (.as rfl) ?_
  refine O.nil ?_
  refine S.seq (S.region rfl ?_)
  refine O.op (.p rfl) (.as rfl) ?_
  refine O.nil ?_
  refine S.seq (S.region rfl ?_)
  refine O.op (.p rfl) (.mv rfl) ?_
  refine O.op (.p rfl) (.mv rfl) ?_
  refine O.opE (.p rfl) (.appendP (T := Rp.u8) pure_u8 Go.Proofs.Tryz.underlying22 FactCopyb.elem5 (by decide) rfl rfl (by repeat (first | exact Sel.here | apply Sel.there)) (by first | assumption | exact Arr.mono hg (by assumption) | exact Arr.left (by assumption) | exact Arr.left (Arr.mono hg (by assumption))) (by first | omega | (simp; done) | (simp; omega) | decide) (by first | omega | (simp; done) | (simp; omega) | decide)) ?_
  rintro _ _ ⟨a6, c6, rfl, rfl⟩
  refine O.op (.p rfl) (.as rfl) ?_
  refine O.nil ?_
  refine S.ret Go.Proofs.Tryz.results12 rfl fun w hw => hR _ _ w ?_ hw
  exact ⟨a6, c6, by simp, rfl⟩
/-- a thing from a number: 0 .. n-1 -/
def pick (x n : Int) : Int := if n < 1 then 0 else if x.tmod n < 0 then x.tmod n + n else x.tmod n
theorem Pick_c {r : Fr} (x n : Int) (hn : InI64 n) : Con Go.Proofs.Tryz.prog 40 #[.int .i64 x, .int .i64 n] r [] (Ret fun v η => v = .int .i64 (pick x n) ∧ η = []) := by
  refine Con.of (n := 16) [.int .i64 x, .int .i64 n] rfl Go.Proofs.Tryz.func40 rfl rfl rfl fun g hg R hR => ?_
  unfold InI64 at hn
  refine S.seq (S.region rfl ?_)
  refine O.op (.p rfl) (.as rfl) ?_
  refine O.nil ?_
  refine S.seq (S.seq (S.region rfl ?_))
  refine O.op (.p rfl) (.mv rfl) ?_
  refine O.op (.p rfl) (.lss rfl rfl) ?_
  refine O.nil ?_
  first | refine S.condD rfl (fun h6 => ?_) (fun h6 => ?_) | refine S.condB rfl (fun h6 => ?_) (fun h6 => ?_)
  · refine S.seq (S.region rfl ?_)
    refine O.op (.p rfl) (.as rfl) ?_
    refine O.nil ?_
    refine S.ret Go.Proofs.Tryz.results40 rfl fun w hw => hR _ _ w ?_ hw
    exact ⟨by simp [pick, h6], rfl⟩
  · have b1 := Int.tmod_lt_of_pos x (show 0 < n by omega)
    have b2 := Int.lt_tmod_of_pos x (show 0 < n by omega)
    refine S.skip (S.seq (S.region rfl ?_))
    refine O.op (.p rfl) (.mv rfl) ?_
    refine O.op (.p rfl) (.mv rfl) ?_
    refine O.op (.p rfl) (.rem rfl rfl (by omega)) ?_
    refine O.op (.p rfl) (.as rfl) ?_
    refine O.nil ?_
    refine S.seq (S.seq (S.region rfl ?_))
    refine O.op (.p rfl) (.mv rfl) ?_
    refine O.op (.p rfl) (.lss rfl rfl) ?_
    refine O.nil ?_
    first | refine S.condD rfl (fun h11 => ?_) (fun h11 => ?_) | refine S.condB rfl (fun h11 => ?_) (fun h11 => ?_)
    · refine S.region rfl ?_
      refine O.op (.p rfl) (.mv rfl) ?_
      refine O.op (.p rfl) (.mv rfl) ?_
      refine O.op (.p rfl) (.add rfl rfl (IntWalk.i64_in _ (by omega))) ?_
      refine O.op (.p rfl) (.as rfl) ?_
      refine O.nil ?_
      refine S.seq (S.region rfl ?_)
      refine O.op (.p rfl) (.mv rfl) ?_
      refine O.op (.p rfl) (.as rfl) ?_
      refine O.nil ?_
      refine S.ret Go.Proofs.Tryz.results40 rfl fun w hw => hR _ _ w ?_ hw
      exact ⟨by simp [pick, h6, h11], rfl⟩
    · refine S.skip (S.seq (S.region rfl ?_))
      refine O.op (.p rfl) (.mv rfl) ?_
      refine O.op (.p rfl) (.as rfl) ?_
      refine O.nil ?_
      refine S.ret Go.Proofs.Tryz.results40 rfl fun w hw => hR _ _ w ?_ hw
      exact ⟨by simp [pick, h6, h11], rfl⟩

end Go.Proofs.YtkkcpckgnfcncaaGreatDoor
