/- Texts of this proof. -/
import Derived.Test.YtodhbhanmdfdeaaGreatQFc
import Derived.Test.YtodhbhanmdfdeaaGreatQKit2
import Derived.Test.YtodhbhanmdfdeaaGreatQSpLent
import Derived.Test.YtodhbhanmdfdeaaGreatQSpAuto
open Go Go.Sp
set_option maxRecDepth 100000
attribute [local irreducible] obj Own OwnP
namespace Go.Proofs.YtodhbhanmdfdeaaGreat
theorem flatLimbs_0 {r : Fr} : Con Tryz.prog 162 #[.slice none 0 0] r [] (Ret fun v η => v = .bool true ∧ η = []) := by
 refine Con.of (n := 200) _ rfl Tryz.func162 rfl rfl rfl fun g hg R hR => ?_
 refine S.seq <| S.region rfl <| O.q 1 rfl <| O.nil <| S.seq <| S.seq <| S.region rfl <| O.q 1 rfl <| O.nil <| S.block <| S.unroll <| S.seq <| S.seq <| S.region rfl <| O.q 2 rfl <| O.op (.p rfl) (.len rfl Tryz.underlying100 rfl) <| O.op (.p rfl) (.lss rfl rfl) <| O.nil ?_
 first | refine S.condD rfl (fun h19 => ?_) (fun h19 => ?_) | refine S.condB rfl (fun h19 => ?_) (fun h19 => ?_)
 ·exact absurd (by assumption) (by simp)
 refine S.exit rfl <| S.seq <| S.region rfl <| O.q 1 rfl <| O.op (.p rfl) (.len rfl Tryz.underlying100 rfl) <| O.opE (.p rfl) (.makeP (T := Rp.val) (.slice none 0 0) (m := 0) Tryz.underlying100 F.elem260 (by decide) ⟨rfl, rfl⟩ rfl rfl rfl rfl (by decide) (by decide)) ?_
 rintro _ _ ⟨a43, c43, rfl, rfl⟩
 refine O.q 1 rfl <| O.nil <| S.seq <| S.seq <| S.region rfl <| O.q 1 rfl <| O.nil <| S.block <| S.unroll <| S.seq <| S.seq <| S.region rfl <| O.q 2 rfl <| O.op (.p rfl) (.len rfl Tryz.underlying100 rfl) <| O.op (.p rfl) (.lss rfl rfl) <| O.nil ?_
 first | refine S.condD rfl (fun h47 => ?_) (fun h47 => ?_) | refine S.condB rfl (fun h47 => ?_) (fun h47 => ?_)
 ·exact absurd (by assumption) (by simp)
 refine S.exit rfl <| S.seq <| S.seq <| S.region rfl <| O.q 1 rfl <| O.nil <| S.block <| S.unroll <| S.seq <| S.seq <| S.region rfl <| O.q 2 rfl <| O.op (.p rfl) (.len rfl Tryz.underlying100 rfl) <| O.op (.p rfl) (.lss rfl rfl) <| O.nil ?_
 first | refine S.condD rfl (fun h78 => ?_) (fun h78 => ?_) | refine S.condB rfl (fun h78 => ?_) (fun h78 => ?_)
 ·exact absurd (by assumption) (by simp)
 refine S.exit rfl <| S.seq <| S.seq <| S.region rfl <| O.q 1 rfl <| O.nil <| S.block <| S.unroll <| S.seq <| S.seq <| S.region rfl <| O.q 2 rfl <| O.op (.p rfl) (.len rfl Tryz.underlying100 rfl) <| O.op (.p rfl) (.lss rfl rfl) <| O.nil ?_
 first | refine S.condD rfl (fun h130 => ?_) (fun h130 => ?_) | refine S.condB rfl (fun h130 => ?_) (fun h130 => ?_)
 ·exact absurd (by assumption) (by simp)
 refine S.exit rfl <| S.seq <| S.seq <| S.region rfl <| O.q 1 rfl <| O.nil <| S.block <| S.unroll <| S.seq <| S.seq <| S.region rfl <| O.q 2 rfl <| O.op (.p rfl) (.len rfl Tryz.underlying100 rfl) <| O.op (.p rfl) (.lss rfl rfl) <| O.nil ?_
 first | refine S.condD rfl (fun h160 => ?_) (fun h160 => ?_) | refine S.condB rfl (fun h160 => ?_) (fun h160 => ?_)
 ·exact absurd (by assumption) (by simp)
 refine S.exit rfl <| S.seq <| S.region rfl <| O.q 1 rfl <| O.nil ?_
 exact S.rt Tryz.results162 rfl hR ⟨rfl, rfl⟩
theorem flatWords_0 {r : Fr} : Con Tryz.prog 163 #[.slice none 0 0] r [] (Ret fun v η => v = .bool true ∧ η = []) := by
 refine Con.of (n := 200) _ rfl Tryz.func163 rfl rfl rfl fun g hg R hR => ?_
 refine S.seq <| S.region rfl <| O.q 1 rfl <| O.nil <| S.seq <| S.seq <| S.region rfl <| O.q 1 rfl <| O.nil <| S.block <| S.unroll <| S.seq <| S.seq <| S.region rfl <| O.q 2 rfl <| O.op (.p rfl) (.len rfl Tryz.underlying101 rfl) <| O.op (.p rfl) (.lss rfl rfl) <| O.nil ?_
 first | refine S.condD rfl (fun h19 => ?_) (fun h19 => ?_) | refine S.condB rfl (fun h19 => ?_) (fun h19 => ?_)
 ·exact absurd (by assumption) (by simp)
 refine S.exit rfl <| S.seq <| S.region rfl <| O.q 1 rfl <| O.op (.p rfl) (.len rfl Tryz.underlying101 rfl) <| O.opE (.p rfl) (.makeP (T := Rp.val) (.slice none 0 0) (m := 0) Tryz.underlying101 F.elem262 (by decide) ⟨rfl, rfl⟩ rfl rfl rfl rfl (by decide) (by decide)) ?_
 rintro _ _ ⟨a43, c43, rfl, rfl⟩
 refine O.q 1 rfl <| O.nil <| S.seq <| S.seq <| S.region rfl <| O.q 1 rfl <| O.nil <| S.block <| S.unroll <| S.seq <| S.seq <| S.region rfl <| O.q 2 rfl <| O.op (.p rfl) (.len rfl Tryz.underlying101 rfl) <| O.op (.p rfl) (.lss rfl rfl) <| O.nil ?_
 first | refine S.condD rfl (fun h47 => ?_) (fun h47 => ?_) | refine S.condB rfl (fun h47 => ?_) (fun h47 => ?_)
 ·exact absurd (by assumption) (by simp)
 refine S.exit rfl <| S.seq <| S.seq <| S.region rfl <| O.q 1 rfl <| O.nil <| S.block <| S.unroll <| S.seq <| S.seq <| S.region rfl <| O.q 2 rfl <| O.op (.p rfl) (.len rfl Tryz.underlying101 rfl) <| O.op (.p rfl) (.lss rfl rfl) <| O.nil ?_
 first | refine S.condD rfl (fun h78 => ?_) (fun h78 => ?_) | refine S.condB rfl (fun h78 => ?_) (fun h78 => ?_)
 ·exact absurd (by assumption) (by simp)
 refine S.exit rfl <| S.seq <| S.seq <| S.region rfl <| O.q 1 rfl <| O.nil <| S.block <| S.unroll <| S.seq <| S.seq <| S.region rfl <| O.q 2 rfl <| O.op (.p rfl) (.len rfl Tryz.underlying101 rfl) <| O.op (.p rfl) (.lss rfl rfl) <| O.nil ?_
 first | refine S.condD rfl (fun h130 => ?_) (fun h130 => ?_) | refine S.condB rfl (fun h130 => ?_) (fun h130 => ?_)
 ·exact absurd (by assumption) (by simp)
 refine S.exit rfl <| S.seq <| S.seq <| S.region rfl <| O.q 1 rfl <| O.nil <| S.block <| S.unroll <| S.seq <| S.seq <| S.region rfl <| O.q 2 rfl <| O.op (.p rfl) (.len rfl Tryz.underlying101 rfl) <| O.op (.p rfl) (.lss rfl rfl) <| O.nil ?_
 first | refine S.condD rfl (fun h160 => ?_) (fun h160 => ?_) | refine S.condB rfl (fun h160 => ?_) (fun h160 => ?_)
 ·exact absurd (by assumption) (by simp)
 refine S.exit rfl <| S.seq <| S.region rfl <| O.q 1 rfl <| O.nil ?_
 exact S.rt Tryz.results163 rfl hR ⟨rfl, rfl⟩
theorem flatInts_0 {r : Fr} : Con Tryz.prog 164 #[.slice none 0 0] r [] (Ret fun v η => v = .bool true ∧ η = []) := by
 refine Con.of (n := 193) _ rfl Tryz.func164 rfl rfl rfl fun g hg R hR => ?_
 refine S.seq <| S.region rfl <| O.q 1 rfl <| O.nil <| S.seq <| S.seq <| S.region rfl <| O.q 1 rfl <| O.nil <| S.block <| S.unroll <| S.seq <| S.seq <| S.region rfl <| O.q 2 rfl <| O.op (.p rfl) (.len rfl Tryz.underlying102 rfl) <| O.op (.p rfl) (.lss rfl rfl) <| O.nil ?_
 first | refine S.condD rfl (fun h19 => ?_) (fun h19 => ?_) | refine S.condB rfl (fun h19 => ?_) (fun h19 => ?_)
 ·exact absurd (by assumption) (by simp)
 refine S.exit rfl <| S.seq <| S.region rfl <| O.q 1 rfl <| O.op (.p rfl) (.len rfl Tryz.underlying102 rfl) <| O.opE (.p rfl) (.makeP (T := Rp.val) (.slice none 0 0) (m := 0) Tryz.underlying102 F.elem25 (by decide) ⟨rfl, rfl⟩ rfl rfl rfl rfl (by decide) (by decide)) ?_
 rintro _ _ ⟨a42, c42, rfl, rfl⟩
 refine O.q 1 rfl <| O.nil <| S.seq <| S.seq <| S.region rfl <| O.q 1 rfl <| O.nil <| S.block <| S.unroll <| S.seq <| S.seq <| S.region rfl <| O.q 2 rfl <| O.op (.p rfl) (.len rfl Tryz.underlying102 rfl) <| O.op (.p rfl) (.lss rfl rfl) <| O.nil ?_
 first | refine S.condD rfl (fun h46 => ?_) (fun h46 => ?_) | refine S.condB rfl (fun h46 => ?_) (fun h46 => ?_)
 ·exact absurd (by assumption) (by simp)
 refine S.exit rfl <| S.seq <| S.seq <| S.region rfl <| O.q 1 rfl <| O.nil <| S.block <| S.unroll <| S.seq <| S.seq <| S.region rfl <| O.q 2 rfl <| O.op (.p rfl) (.len rfl Tryz.underlying102 rfl) <| O.op (.p rfl) (.lss rfl rfl) <| O.nil ?_
 first | refine S.condD rfl (fun h76 => ?_) (fun h76 => ?_) | refine S.condB rfl (fun h76 => ?_) (fun h76 => ?_)
 ·exact absurd (by assumption) (by simp)
 refine S.exit rfl <| S.seq <| S.seq <| S.region rfl <| O.q 1 rfl <| O.nil <| S.block <| S.unroll <| S.seq <| S.seq <| S.region rfl <| O.q 2 rfl <| O.op (.p rfl) (.len rfl Tryz.underlying102 rfl) <| O.op (.p rfl) (.lss rfl rfl) <| O.nil ?_
 first | refine S.condD rfl (fun h126 => ?_) (fun h126 => ?_) | refine S.condB rfl (fun h126 => ?_) (fun h126 => ?_)
 ·exact absurd (by assumption) (by simp)
 refine S.exit rfl <| S.seq <| S.seq <| S.region rfl <| O.q 1 rfl <| O.nil <| S.block <| S.unroll <| S.seq <| S.seq <| S.region rfl <| O.q 2 rfl <| O.op (.p rfl) (.len rfl Tryz.underlying102 rfl) <| O.op (.p rfl) (.lss rfl rfl) <| O.nil ?_
 first | refine S.condD rfl (fun h155 => ?_) (fun h155 => ?_) | refine S.condB rfl (fun h155 => ?_) (fun h155 => ?_)
 ·exact absurd (by assumption) (by simp)
 refine S.exit rfl <| S.seq <| S.region rfl <| O.q 1 rfl <| O.nil ?_
 exact S.rt Tryz.results164 rfl hR ⟨rfl, rfl⟩
theorem flatLongs_0 {r : Fr} : Con Tryz.prog 165 #[.slice none 0 0] r [] (Ret fun v η => v = .bool true ∧ η = []) := by
 refine Con.of (n := 193) _ rfl Tryz.func165 rfl rfl rfl fun g hg R hR => ?_
 refine S.seq <| S.region rfl <| O.q 1 rfl <| O.nil <| S.seq <| S.seq <| S.region rfl <| O.q 1 rfl <| O.nil <| S.block <| S.unroll <| S.seq <| S.seq <| S.region rfl <| O.q 2 rfl <| O.op (.p rfl) (.len rfl Tryz.underlying103 rfl) <| O.op (.p rfl) (.lss rfl rfl) <| O.nil ?_
 first | refine S.condD rfl (fun h19 => ?_) (fun h19 => ?_) | refine S.condB rfl (fun h19 => ?_) (fun h19 => ?_)
 ·exact absurd (by assumption) (by simp)
 refine S.exit rfl <| S.seq <| S.region rfl <| O.q 1 rfl <| O.op (.p rfl) (.len rfl Tryz.underlying103 rfl) <| O.opE (.p rfl) (.makeP (T := Rp.val) (.slice none 0 0) (m := 0) Tryz.underlying103 F.elem263 (by decide) ⟨rfl, rfl⟩ rfl rfl rfl rfl (by decide) (by decide)) ?_
 rintro _ _ ⟨a42, c42, rfl, rfl⟩
 refine O.q 1 rfl <| O.nil <| S.seq <| S.seq <| S.region rfl <| O.q 1 rfl <| O.nil <| S.block <| S.unroll <| S.seq <| S.seq <| S.region rfl <| O.q 2 rfl <| O.op (.p rfl) (.len rfl Tryz.underlying103 rfl) <| O.op (.p rfl) (.lss rfl rfl) <| O.nil ?_
 first | refine S.condD rfl (fun h46 => ?_) (fun h46 => ?_) | refine S.condB rfl (fun h46 => ?_) (fun h46 => ?_)
 ·exact absurd (by assumption) (by simp)
 refine S.exit rfl <| S.seq <| S.seq <| S.region rfl <| O.q 1 rfl <| O.nil <| S.block <| S.unroll <| S.seq <| S.seq <| S.region rfl <| O.q 2 rfl <| O.op (.p rfl) (.len rfl Tryz.underlying103 rfl) <| O.op (.p rfl) (.lss rfl rfl) <| O.nil ?_
 first | refine S.condD rfl (fun h76 => ?_) (fun h76 => ?_) | refine S.condB rfl (fun h76 => ?_) (fun h76 => ?_)
 ·exact absurd (by assumption) (by simp)
 refine S.exit rfl <| S.seq <| S.seq <| S.region rfl <| O.q 1 rfl <| O.nil <| S.block <| S.unroll <| S.seq <| S.seq <| S.region rfl <| O.q 2 rfl <| O.op (.p rfl) (.len rfl Tryz.underlying103 rfl) <| O.op (.p rfl) (.lss rfl rfl) <| O.nil ?_
 first | refine S.condD rfl (fun h126 => ?_) (fun h126 => ?_) | refine S.condB rfl (fun h126 => ?_) (fun h126 => ?_)
 ·exact absurd (by assumption) (by simp)
 refine S.exit rfl <| S.seq <| S.seq <| S.region rfl <| O.q 1 rfl <| O.nil <| S.block <| S.unroll <| S.seq <| S.seq <| S.region rfl <| O.q 2 rfl <| O.op (.p rfl) (.len rfl Tryz.underlying103 rfl) <| O.op (.p rfl) (.lss rfl rfl) <| O.nil ?_
 first | refine S.condD rfl (fun h155 => ?_) (fun h155 => ?_) | refine S.condB rfl (fun h155 => ?_) (fun h155 => ?_)
 ·exact absurd (by assumption) (by simp)
 refine S.exit rfl <| S.seq <| S.region rfl <| O.q 1 rfl <| O.nil ?_
 exact S.rt Tryz.results165 rfl hR ⟨rfl, rfl⟩
theorem flatTexts_0 {r : Fr} : Con Tryz.prog 166 #[.slice none 0 0] r [] (Ret fun v η => v = .bool true ∧ η = []) := by
 refine Con.of (n := 193) _ rfl Tryz.func166 rfl rfl rfl fun g hg R hR => ?_
 refine S.seq <| S.region rfl <| O.q 1 rfl <| O.nil <| S.seq <| S.seq <| S.region rfl <| O.q 1 rfl <| O.nil <| S.block <| S.unroll <| S.seq <| S.seq <| S.region rfl <| O.q 2 rfl <| O.op (.p rfl) (.len rfl Tryz.underlying104 rfl) <| O.op (.p rfl) (.lss rfl rfl) <| O.nil ?_
 first | refine S.condD rfl (fun h19 => ?_) (fun h19 => ?_) | refine S.condB rfl (fun h19 => ?_) (fun h19 => ?_)
 ·exact absurd (by assumption) (by simp)
 refine S.exit rfl <| S.seq <| S.region rfl <| O.q 1 rfl <| O.op (.p rfl) (.len rfl Tryz.underlying104 rfl) <| O.opE (.p rfl) (.makeP (T := Rp.val) (.slice none 0 0) (m := 0) Tryz.underlying104 F.elem184 (by decide) ⟨rfl, rfl⟩ rfl rfl rfl rfl (by decide) (by decide)) ?_
 rintro _ _ ⟨a42, c42, rfl, rfl⟩
 refine O.q 1 rfl <| O.nil <| S.seq <| S.seq <| S.region rfl <| O.q 1 rfl <| O.nil <| S.block <| S.unroll <| S.seq <| S.seq <| S.region rfl <| O.q 2 rfl <| O.op (.p rfl) (.len rfl Tryz.underlying104 rfl) <| O.op (.p rfl) (.lss rfl rfl) <| O.nil ?_
 first | refine S.condD rfl (fun h46 => ?_) (fun h46 => ?_) | refine S.condB rfl (fun h46 => ?_) (fun h46 => ?_)
 ·exact absurd (by assumption) (by simp)
 refine S.exit rfl <| S.seq <| S.seq <| S.region rfl <| O.q 1 rfl <| O.nil <| S.block <| S.unroll <| S.seq <| S.seq <| S.region rfl <| O.q 2 rfl <| O.op (.p rfl) (.len rfl Tryz.underlying104 rfl) <| O.op (.p rfl) (.lss rfl rfl) <| O.nil ?_
 first | refine S.condD rfl (fun h76 => ?_) (fun h76 => ?_) | refine S.condB rfl (fun h76 => ?_) (fun h76 => ?_)
 ·exact absurd (by assumption) (by simp)
 refine S.exit rfl <| S.seq <| S.seq <| S.region rfl <| O.q 1 rfl <| O.nil <| S.block <| S.unroll <| S.seq <| S.seq <| S.region rfl <| O.q 2 rfl <| O.op (.p rfl) (.len rfl Tryz.underlying104 rfl) <| O.op (.p rfl) (.lss rfl rfl) <| O.nil ?_
 first | refine S.condD rfl (fun h126 => ?_) (fun h126 => ?_) | refine S.condB rfl (fun h126 => ?_) (fun h126 => ?_)
 ·exact absurd (by assumption) (by simp)
 refine S.exit rfl <| S.seq <| S.seq <| S.region rfl <| O.q 1 rfl <| O.nil <| S.block <| S.unroll <| S.seq <| S.seq <| S.region rfl <| O.q 2 rfl <| O.op (.p rfl) (.len rfl Tryz.underlying104 rfl) <| O.op (.p rfl) (.lss rfl rfl) <| O.nil ?_
 first | refine S.condD rfl (fun h155 => ?_) (fun h155 => ?_) | refine S.condB rfl (fun h155 => ?_) (fun h155 => ?_)
 ·exact absurd (by assumption) (by simp)
 refine S.exit rfl <| S.seq <| S.region rfl <| O.q 1 rfl <| O.nil ?_
 exact S.rt Tryz.results166 rfl hR ⟨rfl, rfl⟩
theorem flatTruths_0 {r : Fr} : Con Tryz.prog 168 #[.slice none 0 0] r [] (Ret fun v η => v = .bool true ∧ η = []) := by
 refine Con.of (n := 207) _ rfl Tryz.func168 rfl rfl rfl fun g hg R hR => ?_
 refine S.seq <| S.region rfl <| O.q 1 rfl <| O.nil <| S.seq <| S.seq <| S.region rfl <| O.q 1 rfl <| O.nil <| S.block <| S.unroll <| S.seq <| S.seq <| S.region rfl <| O.q 2 rfl <| O.op (.p rfl) (.len rfl Tryz.underlying105 rfl) <| O.op (.p rfl) (.lss rfl rfl) <| O.nil ?_
 first | refine S.condD rfl (fun h19 => ?_) (fun h19 => ?_) | refine S.condB rfl (fun h19 => ?_) (fun h19 => ?_)
 ·exact absurd (by assumption) (by simp)
 refine S.exit rfl <| S.seq <| S.region rfl <| O.q 1 rfl <| O.op (.p rfl) (.len rfl Tryz.underlying105 rfl) <| O.opE (.p rfl) (.makeP (T := Rp.val) (.slice none 0 0) (m := 0) Tryz.underlying105 F.elem264 (by decide) ⟨rfl, rfl⟩ rfl rfl rfl rfl (by decide) (by decide)) ?_
 rintro _ _ ⟨a44, c44, rfl, rfl⟩
 refine O.q 1 rfl <| O.nil <| S.seq <| S.seq <| S.region rfl <| O.q 1 rfl <| O.nil <| S.block <| S.unroll <| S.seq <| S.seq <| S.region rfl <| O.q 2 rfl <| O.op (.p rfl) (.len rfl Tryz.underlying105 rfl) <| O.op (.p rfl) (.lss rfl rfl) <| O.nil ?_
 first | refine S.condD rfl (fun h48 => ?_) (fun h48 => ?_) | refine S.condB rfl (fun h48 => ?_) (fun h48 => ?_)
 ·exact absurd (by assumption) (by simp)
 refine S.exit rfl <| S.seq <| S.seq <| S.region rfl <| O.q 1 rfl <| O.nil <| S.block <| S.unroll <| S.seq <| S.seq <| S.region rfl <| O.q 2 rfl <| O.op (.p rfl) (.len rfl Tryz.underlying105 rfl) <| O.op (.p rfl) (.lss rfl rfl) <| O.nil ?_
 first | refine S.condD rfl (fun h80 => ?_) (fun h80 => ?_) | refine S.condB rfl (fun h80 => ?_) (fun h80 => ?_)
 ·exact absurd (by assumption) (by simp)
 refine S.exit rfl <| S.seq <| S.seq <| S.region rfl <| O.q 1 rfl <| O.nil <| S.block <| S.unroll <| S.seq <| S.seq <| S.region rfl <| O.q 2 rfl <| O.op (.p rfl) (.len rfl Tryz.underlying105 rfl) <| O.op (.p rfl) (.lss rfl rfl) <| O.nil ?_
 first | refine S.condD rfl (fun h134 => ?_) (fun h134 => ?_) | refine S.condB rfl (fun h134 => ?_) (fun h134 => ?_)
 ·exact absurd (by assumption) (by simp)
 refine S.exit rfl <| S.seq <| S.seq <| S.region rfl <| O.q 1 rfl <| O.nil <| S.block <| S.unroll <| S.seq <| S.seq <| S.region rfl <| O.q 2 rfl <| O.op (.p rfl) (.len rfl Tryz.underlying105 rfl) <| O.op (.p rfl) (.lss rfl rfl) <| O.nil ?_
 first | refine S.condD rfl (fun h165 => ?_) (fun h165 => ?_) | refine S.condB rfl (fun h165 => ?_) (fun h165 => ?_)
 ·exact absurd (by assumption) (by simp)
 refine S.exit rfl <| S.seq <| S.region rfl <| O.q 1 rfl <| O.nil ?_
 exact S.rt Tryz.results168 rfl hR ⟨rfl, rfl⟩
theorem flatRows_0 {r : Fr} : Con Tryz.prog 169 #[.slice none 0 0] r [] (Ret fun v η => v = .bool true ∧ η = []) := by
 refine Con.of (n := 193) _ rfl Tryz.func169 rfl rfl rfl fun g hg R hR => ?_
 refine S.seq <| S.region rfl <| O.q 1 rfl <| O.nil <| S.seq <| S.seq <| S.region rfl <| O.q 1 rfl <| O.nil <| S.block <| S.unroll <| S.seq <| S.seq <| S.region rfl <| O.q 2 rfl <| O.op (.p rfl) (.len rfl Tryz.underlying106 rfl) <| O.op (.p rfl) (.lss rfl rfl) <| O.nil ?_
 first | refine S.condD rfl (fun h19 => ?_) (fun h19 => ?_) | refine S.condB rfl (fun h19 => ?_) (fun h19 => ?_)
 ·exact absurd (by assumption) (by simp)
 refine S.exit rfl <| S.seq <| S.region rfl <| O.q 1 rfl <| O.op (.p rfl) (.len rfl Tryz.underlying106 rfl) <| O.opE (.p rfl) (.makeP (T := Rp.val) (.slice none 0 0) (m := 0) Tryz.underlying106 F.elem39 (by decide) ⟨rfl, rfl⟩ rfl rfl rfl rfl (by decide) (by decide)) ?_
 rintro _ _ ⟨a42, c42, rfl, rfl⟩
 refine O.q 1 rfl <| O.nil <| S.seq <| S.seq <| S.region rfl <| O.q 1 rfl <| O.nil <| S.block <| S.unroll <| S.seq <| S.seq <| S.region rfl <| O.q 2 rfl <| O.op (.p rfl) (.len rfl Tryz.underlying106 rfl) <| O.op (.p rfl) (.lss rfl rfl) <| O.nil ?_
 first | refine S.condD rfl (fun h46 => ?_) (fun h46 => ?_) | refine S.condB rfl (fun h46 => ?_) (fun h46 => ?_)
 ·exact absurd (by assumption) (by simp)
 refine S.exit rfl <| S.seq <| S.seq <| S.region rfl <| O.q 1 rfl <| O.nil <| S.block <| S.unroll <| S.seq <| S.seq <| S.region rfl <| O.q 2 rfl <| O.op (.p rfl) (.len rfl Tryz.underlying106 rfl) <| O.op (.p rfl) (.lss rfl rfl) <| O.nil ?_
 first | refine S.condD rfl (fun h76 => ?_) (fun h76 => ?_) | refine S.condB rfl (fun h76 => ?_) (fun h76 => ?_)
 ·exact absurd (by assumption) (by simp)
 refine S.exit rfl <| S.seq <| S.seq <| S.region rfl <| O.q 1 rfl <| O.nil <| S.block <| S.unroll <| S.seq <| S.seq <| S.region rfl <| O.q 2 rfl <| O.op (.p rfl) (.len rfl Tryz.underlying106 rfl) <| O.op (.p rfl) (.lss rfl rfl) <| O.nil ?_
 first | refine S.condD rfl (fun h126 => ?_) (fun h126 => ?_) | refine S.condB rfl (fun h126 => ?_) (fun h126 => ?_)
 ·exact absurd (by assumption) (by simp)
 refine S.exit rfl <| S.seq <| S.seq <| S.region rfl <| O.q 1 rfl <| O.nil <| S.block <| S.unroll <| S.seq <| S.seq <| S.region rfl <| O.q 2 rfl <| O.op (.p rfl) (.len rfl Tryz.underlying106 rfl) <| O.op (.p rfl) (.lss rfl rfl) <| O.nil ?_
 first | refine S.condD rfl (fun h155 => ?_) (fun h155 => ?_) | refine S.condB rfl (fun h155 => ?_) (fun h155 => ?_)
 ·exact absurd (by assumption) (by simp)
 refine S.exit rfl <| S.seq <| S.region rfl <| O.q 1 rfl <| O.nil ?_
 exact S.rt Tryz.results169 rfl hR ⟨rfl, rfl⟩
theorem flatDots_0 {r : Fr} : Con Tryz.prog 170 #[.slice none 0 0] r [] (Ret fun v η => v = .bool true ∧ η = []) := by
 refine Con.of (n := 193) _ rfl Tryz.func170 rfl rfl rfl fun g hg R hR => ?_
 refine S.seq <| S.region rfl <| O.q 1 rfl <| O.nil <| S.seq <| S.seq <| S.region rfl <| O.q 1 rfl <| O.nil <| S.block <| S.unroll <| S.seq <| S.seq <| S.region rfl <| O.q 2 rfl <| O.op (.p rfl) (.len rfl Tryz.underlying107 rfl) <| O.op (.p rfl) (.lss rfl rfl) <| O.nil ?_
 first | refine S.condD rfl (fun h19 => ?_) (fun h19 => ?_) | refine S.condB rfl (fun h19 => ?_) (fun h19 => ?_)
 ·exact absurd (by assumption) (by simp)
 refine S.exit rfl <| S.seq <| S.region rfl <| O.q 1 rfl <| O.op (.p rfl) (.len rfl Tryz.underlying107 rfl) <| O.opE (.p rfl) (.makeP (T := Rp.val) (.slice none 0 0) (m := 0) Tryz.underlying107 F.elem72 (by decide) ⟨rfl, rfl⟩ rfl rfl rfl rfl (by decide) (by decide)) ?_
 rintro _ _ ⟨a42, c42, rfl, rfl⟩
 refine O.q 1 rfl <| O.nil <| S.seq <| S.seq <| S.region rfl <| O.q 1 rfl <| O.nil <| S.block <| S.unroll <| S.seq <| S.seq <| S.region rfl <| O.q 2 rfl <| O.op (.p rfl) (.len rfl Tryz.underlying107 rfl) <| O.op (.p rfl) (.lss rfl rfl) <| O.nil ?_
 first | refine S.condD rfl (fun h46 => ?_) (fun h46 => ?_) | refine S.condB rfl (fun h46 => ?_) (fun h46 => ?_)
 ·exact absurd (by assumption) (by simp)
 refine S.exit rfl <| S.seq <| S.seq <| S.region rfl <| O.q 1 rfl <| O.nil <| S.block <| S.unroll <| S.seq <| S.seq <| S.region rfl <| O.q 2 rfl <| O.op (.p rfl) (.len rfl Tryz.underlying107 rfl) <| O.op (.p rfl) (.lss rfl rfl) <| O.nil ?_
 first | refine S.condD rfl (fun h76 => ?_) (fun h76 => ?_) | refine S.condB rfl (fun h76 => ?_) (fun h76 => ?_)
 ·exact absurd (by assumption) (by simp)
 refine S.exit rfl <| S.seq <| S.seq <| S.region rfl <| O.q 1 rfl <| O.nil <| S.block <| S.unroll <| S.seq <| S.seq <| S.region rfl <| O.q 2 rfl <| O.op (.p rfl) (.len rfl Tryz.underlying107 rfl) <| O.op (.p rfl) (.lss rfl rfl) <| O.nil ?_
 first | refine S.condD rfl (fun h126 => ?_) (fun h126 => ?_) | refine S.condB rfl (fun h126 => ?_) (fun h126 => ?_)
 ·exact absurd (by assumption) (by simp)
 refine S.exit rfl <| S.seq <| S.seq <| S.region rfl <| O.q 1 rfl <| O.nil <| S.block <| S.unroll <| S.seq <| S.seq <| S.region rfl <| O.q 2 rfl <| O.op (.p rfl) (.len rfl Tryz.underlying107 rfl) <| O.op (.p rfl) (.lss rfl rfl) <| O.nil ?_
 first | refine S.condD rfl (fun h155 => ?_) (fun h155 => ?_) | refine S.condB rfl (fun h155 => ?_) (fun h155 => ?_)
 ·exact absurd (by assumption) (by simp)
 refine S.exit rfl <| S.seq <| S.region rfl <| O.q 1 rfl <| O.nil ?_
 exact S.rt Tryz.results170 rfl hR ⟨rfl, rfl⟩
theorem flatRecords_0 {r : Fr} : Con Tryz.prog 171 #[.slice none 0 0] r [] (Ret fun v η => v = .bool true ∧ η = []) := by
 refine Con.of (n := 193) _ rfl Tryz.func171 rfl rfl rfl fun g hg R hR => ?_
 refine S.seq <| S.region rfl <| O.q 1 rfl <| O.nil <| S.seq <| S.seq <| S.region rfl <| O.q 1 rfl <| O.nil <| S.block <| S.unroll <| S.seq <| S.seq <| S.region rfl <| O.q 2 rfl <| O.op (.p rfl) (.len rfl Tryz.underlying65 rfl) <| O.op (.p rfl) (.lss rfl rfl) <| O.nil ?_
 first | refine S.condD rfl (fun h19 => ?_) (fun h19 => ?_) | refine S.condB rfl (fun h19 => ?_) (fun h19 => ?_)
 ·exact absurd (by assumption) (by simp)
 refine S.exit rfl <| S.seq <| S.region rfl <| O.q 1 rfl <| O.op (.p rfl) (.len rfl Tryz.underlying65 rfl) <| O.opE (.p rfl) (.makeP (T := Rp.val) (.slice none 0 0) (m := 0) Tryz.underlying65 F.elem47 (by decide) ⟨rfl, rfl⟩ rfl rfl rfl rfl (by decide) (by decide)) ?_
 rintro _ _ ⟨a42, c42, rfl, rfl⟩
 refine O.q 1 rfl <| O.nil <| S.seq <| S.seq <| S.region rfl <| O.q 1 rfl <| O.nil <| S.block <| S.unroll <| S.seq <| S.seq <| S.region rfl <| O.q 2 rfl <| O.op (.p rfl) (.len rfl Tryz.underlying65 rfl) <| O.op (.p rfl) (.lss rfl rfl) <| O.nil ?_
 first | refine S.condD rfl (fun h46 => ?_) (fun h46 => ?_) | refine S.condB rfl (fun h46 => ?_) (fun h46 => ?_)
 ·exact absurd (by assumption) (by simp)
 refine S.exit rfl <| S.seq <| S.seq <| S.region rfl <| O.q 1 rfl <| O.nil <| S.block <| S.unroll <| S.seq <| S.seq <| S.region rfl <| O.q 2 rfl <| O.op (.p rfl) (.len rfl Tryz.underlying65 rfl) <| O.op (.p rfl) (.lss rfl rfl) <| O.nil ?_
 first | refine S.condD rfl (fun h76 => ?_) (fun h76 => ?_) | refine S.condB rfl (fun h76 => ?_) (fun h76 => ?_)
 ·exact absurd (by assumption) (by simp)
 refine S.exit rfl <| S.seq <| S.seq <| S.region rfl <| O.q 1 rfl <| O.nil <| S.block <| S.unroll <| S.seq <| S.seq <| S.region rfl <| O.q 2 rfl <| O.op (.p rfl) (.len rfl Tryz.underlying65 rfl) <| O.op (.p rfl) (.lss rfl rfl) <| O.nil ?_
 first | refine S.condD rfl (fun h126 => ?_) (fun h126 => ?_) | refine S.condB rfl (fun h126 => ?_) (fun h126 => ?_)
 ·exact absurd (by assumption) (by simp)
 refine S.exit rfl <| S.seq <| S.seq <| S.region rfl <| O.q 1 rfl <| O.nil <| S.block <| S.unroll <| S.seq <| S.seq <| S.region rfl <| O.q 2 rfl <| O.op (.p rfl) (.len rfl Tryz.underlying65 rfl) <| O.op (.p rfl) (.lss rfl rfl) <| O.nil ?_
 first | refine S.condD rfl (fun h155 => ?_) (fun h155 => ?_) | refine S.condB rfl (fun h155 => ?_) (fun h155 => ?_)
 ·exact absurd (by assumption) (by simp)
 refine S.exit rfl <| S.seq <| S.region rfl <| O.q 1 rfl <| O.nil ?_
 exact S.rt Tryz.results171 rfl hR ⟨rfl, rfl⟩
theorem flatLeaves_0 {r : Fr} : Con Tryz.prog 172 #[.slice none 0 0] r [] (Ret fun v η => v = .bool true ∧ η = []) := by
 refine Con.of (n := 193) _ rfl Tryz.func172 rfl rfl rfl fun g hg R hR => ?_
 refine S.seq <| S.region rfl <| O.q 1 rfl <| O.nil <| S.seq <| S.seq <| S.region rfl <| O.q 1 rfl <| O.nil <| S.block <| S.unroll <| S.seq <| S.seq <| S.region rfl <| O.q 2 rfl <| O.op (.p rfl) (.len rfl Tryz.underlying108 rfl) <| O.op (.p rfl) (.lss rfl rfl) <| O.nil ?_
 first | refine S.condD rfl (fun h19 => ?_) (fun h19 => ?_) | refine S.condB rfl (fun h19 => ?_) (fun h19 => ?_)
 ·exact absurd (by assumption) (by simp)
 refine S.exit rfl <| S.seq <| S.region rfl <| O.q 1 rfl <| O.op (.p rfl) (.len rfl Tryz.underlying108 rfl) <| O.opE (.p rfl) (.makeP (T := Rp.val) (.slice none 0 0) (m := 0) Tryz.underlying108 F.elem22 (by decide) ⟨rfl, rfl⟩ rfl rfl rfl rfl (by decide) (by decide)) ?_
 rintro _ _ ⟨a42, c42, rfl, rfl⟩
 refine O.q 1 rfl <| O.nil <| S.seq <| S.seq <| S.region rfl <| O.q 1 rfl <| O.nil <| S.block <| S.unroll <| S.seq <| S.seq <| S.region rfl <| O.q 2 rfl <| O.op (.p rfl) (.len rfl Tryz.underlying108 rfl) <| O.op (.p rfl) (.lss rfl rfl) <| O.nil ?_
 first | refine S.condD rfl (fun h46 => ?_) (fun h46 => ?_) | refine S.condB rfl (fun h46 => ?_) (fun h46 => ?_)
 ·exact absurd (by assumption) (by simp)
 refine S.exit rfl <| S.seq <| S.seq <| S.region rfl <| O.q 1 rfl <| O.nil <| S.block <| S.unroll <| S.seq <| S.seq <| S.region rfl <| O.q 2 rfl <| O.op (.p rfl) (.len rfl Tryz.underlying108 rfl) <| O.op (.p rfl) (.lss rfl rfl) <| O.nil ?_
 first | refine S.condD rfl (fun h76 => ?_) (fun h76 => ?_) | refine S.condB rfl (fun h76 => ?_) (fun h76 => ?_)
 ·exact absurd (by assumption) (by simp)
 refine S.exit rfl <| S.seq <| S.seq <| S.region rfl <| O.q 1 rfl <| O.nil <| S.block <| S.unroll <| S.seq <| S.seq <| S.region rfl <| O.q 2 rfl <| O.op (.p rfl) (.len rfl Tryz.underlying108 rfl) <| O.op (.p rfl) (.lss rfl rfl) <| O.nil ?_
 first | refine S.condD rfl (fun h126 => ?_) (fun h126 => ?_) | refine S.condB rfl (fun h126 => ?_) (fun h126 => ?_)
 ·exact absurd (by assumption) (by simp)
 refine S.exit rfl <| S.seq <| S.seq <| S.region rfl <| O.q 1 rfl <| O.nil <| S.block <| S.unroll <| S.seq <| S.seq <| S.region rfl <| O.q 2 rfl <| O.op (.p rfl) (.len rfl Tryz.underlying108 rfl) <| O.op (.p rfl) (.lss rfl rfl) <| O.nil ?_
 first | refine S.condD rfl (fun h155 => ?_) (fun h155 => ?_) | refine S.condB rfl (fun h155 => ?_) (fun h155 => ?_)
 ·exact absurd (by assumption) (by simp)
 refine S.exit rfl <| S.seq <| S.region rfl <| O.q 1 rfl <| O.nil ?_
 exact S.rt Tryz.results172 rfl hR ⟨rfl, rfl⟩
theorem flatGrants_0 {r : Fr} : Con Tryz.prog 173 #[.slice none 0 0] r [] (Ret fun v η => v = .bool true ∧ η = []) := by
 refine Con.of (n := 193) _ rfl Tryz.func173 rfl rfl rfl fun g hg R hR => ?_
 refine S.seq <| S.region rfl <| O.q 1 rfl <| O.nil <| S.seq <| S.seq <| S.region rfl <| O.q 1 rfl <| O.nil <| S.block <| S.unroll <| S.seq <| S.seq <| S.region rfl <| O.q 2 rfl <| O.op (.p rfl) (.len rfl Tryz.underlying109 rfl) <| O.op (.p rfl) (.lss rfl rfl) <| O.nil ?_
 first | refine S.condD rfl (fun h19 => ?_) (fun h19 => ?_) | refine S.condB rfl (fun h19 => ?_) (fun h19 => ?_)
 ·exact absurd (by assumption) (by simp)
 refine S.exit rfl <| S.seq <| S.region rfl <| O.q 1 rfl <| O.op (.p rfl) (.len rfl Tryz.underlying109 rfl) <| O.opE (.p rfl) (.makeP (T := Rp.val) (.slice none 0 0) (m := 0) Tryz.underlying109 F.elem267 (by decide) ⟨rfl, rfl⟩ rfl rfl rfl rfl (by decide) (by decide)) ?_
 rintro _ _ ⟨a42, c42, rfl, rfl⟩
 refine O.q 1 rfl <| O.nil <| S.seq <| S.seq <| S.region rfl <| O.q 1 rfl <| O.nil <| S.block <| S.unroll <| S.seq <| S.seq <| S.region rfl <| O.q 2 rfl <| O.op (.p rfl) (.len rfl Tryz.underlying109 rfl) <| O.op (.p rfl) (.lss rfl rfl) <| O.nil ?_
 first | refine S.condD rfl (fun h46 => ?_) (fun h46 => ?_) | refine S.condB rfl (fun h46 => ?_) (fun h46 => ?_)
 ·exact absurd (by assumption) (by simp)
 refine S.exit rfl <| S.seq <| S.seq <| S.region rfl <| O.q 1 rfl <| O.nil <| S.block <| S.unroll <| S.seq <| S.seq <| S.region rfl <| O.q 2 rfl <| O.op (.p rfl) (.len rfl Tryz.underlying109 rfl) <| O.op (.p rfl) (.lss rfl rfl) <| O.nil ?_
 first | refine S.condD rfl (fun h76 => ?_) (fun h76 => ?_) | refine S.condB rfl (fun h76 => ?_) (fun h76 => ?_)
 ·exact absurd (by assumption) (by simp)
 refine S.exit rfl <| S.seq <| S.seq <| S.region rfl <| O.q 1 rfl <| O.nil <| S.block <| S.unroll <| S.seq <| S.seq <| S.region rfl <| O.q 2 rfl <| O.op (.p rfl) (.len rfl Tryz.underlying109 rfl) <| O.op (.p rfl) (.lss rfl rfl) <| O.nil ?_
 first | refine S.condD rfl (fun h126 => ?_) (fun h126 => ?_) | refine S.condB rfl (fun h126 => ?_) (fun h126 => ?_)
 ·exact absurd (by assumption) (by simp)
 refine S.exit rfl <| S.seq <| S.seq <| S.region rfl <| O.q 1 rfl <| O.nil <| S.block <| S.unroll <| S.seq <| S.seq <| S.region rfl <| O.q 2 rfl <| O.op (.p rfl) (.len rfl Tryz.underlying109 rfl) <| O.op (.p rfl) (.lss rfl rfl) <| O.nil ?_
 first | refine S.condD rfl (fun h155 => ?_) (fun h155 => ?_) | refine S.condB rfl (fun h155 => ?_) (fun h155 => ?_)
 ·exact absurd (by assumption) (by simp)
 refine S.exit rfl <| S.seq <| S.region rfl <| O.q 1 rfl <| O.nil ?_
 exact S.rt Tryz.results173 rfl hR ⟨rfl, rfl⟩
theorem flatNodes_0 {r : Fr} : Con Tryz.prog 174 #[.slice none 0 0] r [] (Ret fun v η => v = .bool true ∧ η = []) := by
 refine Con.of (n := 193) _ rfl Tryz.func174 rfl rfl rfl fun g hg R hR => ?_
 refine S.seq <| S.region rfl <| O.q 1 rfl <| O.nil <| S.seq <| S.seq <| S.region rfl <| O.q 1 rfl <| O.nil <| S.block <| S.unroll <| S.seq <| S.seq <| S.region rfl <| O.q 2 rfl <| O.op (.p rfl) (.len rfl Tryz.underlying110 rfl) <| O.op (.p rfl) (.lss rfl rfl) <| O.nil ?_
 first | refine S.condD rfl (fun h19 => ?_) (fun h19 => ?_) | refine S.condB rfl (fun h19 => ?_) (fun h19 => ?_)
 ·exact absurd (by assumption) (by simp)
 refine S.exit rfl <| S.seq <| S.region rfl <| O.q 1 rfl <| O.op (.p rfl) (.len rfl Tryz.underlying110 rfl) <| O.opE (.p rfl) (.makeP (T := Rp.val) (.slice none 0 0) (m := 0) Tryz.underlying110 F.elem272 (by decide) ⟨rfl, rfl⟩ rfl rfl rfl rfl (by decide) (by decide)) ?_
 rintro _ _ ⟨a42, c42, rfl, rfl⟩
 refine O.q 1 rfl <| O.nil <| S.seq <| S.seq <| S.region rfl <| O.q 1 rfl <| O.nil <| S.block <| S.unroll <| S.seq <| S.seq <| S.region rfl <| O.q 2 rfl <| O.op (.p rfl) (.len rfl Tryz.underlying110 rfl) <| O.op (.p rfl) (.lss rfl rfl) <| O.nil ?_
 first | refine S.condD rfl (fun h46 => ?_) (fun h46 => ?_) | refine S.condB rfl (fun h46 => ?_) (fun h46 => ?_)
 ·exact absurd (by assumption) (by simp)
 refine S.exit rfl <| S.seq <| S.seq <| S.region rfl <| O.q 1 rfl <| O.nil <| S.block <| S.unroll <| S.seq <| S.seq <| S.region rfl <| O.q 2 rfl <| O.op (.p rfl) (.len rfl Tryz.underlying110 rfl) <| O.op (.p rfl) (.lss rfl rfl) <| O.nil ?_
 first | refine S.condD rfl (fun h76 => ?_) (fun h76 => ?_) | refine S.condB rfl (fun h76 => ?_) (fun h76 => ?_)
 ·exact absurd (by assumption) (by simp)
 refine S.exit rfl <| S.seq <| S.seq <| S.region rfl <| O.q 1 rfl <| O.nil <| S.block <| S.unroll <| S.seq <| S.seq <| S.region rfl <| O.q 2 rfl <| O.op (.p rfl) (.len rfl Tryz.underlying110 rfl) <| O.op (.p rfl) (.lss rfl rfl) <| O.nil ?_
 first | refine S.condD rfl (fun h126 => ?_) (fun h126 => ?_) | refine S.condB rfl (fun h126 => ?_) (fun h126 => ?_)
 ·exact absurd (by assumption) (by simp)
 refine S.exit rfl <| S.seq <| S.seq <| S.region rfl <| O.q 1 rfl <| O.nil <| S.block <| S.unroll <| S.seq <| S.seq <| S.region rfl <| O.q 2 rfl <| O.op (.p rfl) (.len rfl Tryz.underlying110 rfl) <| O.op (.p rfl) (.lss rfl rfl) <| O.nil ?_
 first | refine S.condD rfl (fun h155 => ?_) (fun h155 => ?_) | refine S.condB rfl (fun h155 => ?_) (fun h155 => ?_)
 ·exact absurd (by assumption) (by simp)
 refine S.exit rfl <| S.seq <| S.region rfl <| O.q 1 rfl <| O.nil ?_
 exact S.rt Tryz.results174 rfl hR ⟨rfl, rfl⟩
theorem flatStubs_0 {r : Fr} : Con Tryz.prog 175 #[.slice none 0 0] r [] (Ret fun v η => v = .bool true ∧ η = []) := by
 refine Con.of (n := 193) _ rfl Tryz.func175 rfl rfl rfl fun g hg R hR => ?_
 refine S.seq <| S.region rfl <| O.q 1 rfl <| O.nil <| S.seq <| S.seq <| S.region rfl <| O.q 1 rfl <| O.nil <| S.block <| S.unroll <| S.seq <| S.seq <| S.region rfl <| O.q 2 rfl <| O.op (.p rfl) (.len rfl Tryz.underlying111 rfl) <| O.op (.p rfl) (.lss rfl rfl) <| O.nil ?_
 first | refine S.condD rfl (fun h19 => ?_) (fun h19 => ?_) | refine S.condB rfl (fun h19 => ?_) (fun h19 => ?_)
 ·exact absurd (by assumption) (by simp)
 refine S.exit rfl <| S.seq <| S.region rfl <| O.q 1 rfl <| O.op (.p rfl) (.len rfl Tryz.underlying111 rfl) <| O.opE (.p rfl) (.makeP (T := Rp.val) (.slice none 0 0) (m := 0) Tryz.underlying111 F.elem278 (by decide) ⟨rfl, rfl⟩ rfl rfl rfl rfl (by decide) (by decide)) ?_
 rintro _ _ ⟨a42, c42, rfl, rfl⟩
 refine O.q 1 rfl <| O.nil <| S.seq <| S.seq <| S.region rfl <| O.q 1 rfl <| O.nil <| S.block <| S.unroll <| S.seq <| S.seq <| S.region rfl <| O.q 2 rfl <| O.op (.p rfl) (.len rfl Tryz.underlying111 rfl) <| O.op (.p rfl) (.lss rfl rfl) <| O.nil ?_
 first | refine S.condD rfl (fun h46 => ?_) (fun h46 => ?_) | refine S.condB rfl (fun h46 => ?_) (fun h46 => ?_)
 ·exact absurd (by assumption) (by simp)
 refine S.exit rfl <| S.seq <| S.seq <| S.region rfl <| O.q 1 rfl <| O.nil <| S.block <| S.unroll <| S.seq <| S.seq <| S.region rfl <| O.q 2 rfl <| O.op (.p rfl) (.len rfl Tryz.underlying111 rfl) <| O.op (.p rfl) (.lss rfl rfl) <| O.nil ?_
 first | refine S.condD rfl (fun h76 => ?_) (fun h76 => ?_) | refine S.condB rfl (fun h76 => ?_) (fun h76 => ?_)
 ·exact absurd (by assumption) (by simp)
 refine S.exit rfl <| S.seq <| S.seq <| S.region rfl <| O.q 1 rfl <| O.nil <| S.block <| S.unroll <| S.seq <| S.seq <| S.region rfl <| O.q 2 rfl <| O.op (.p rfl) (.len rfl Tryz.underlying111 rfl) <| O.op (.p rfl) (.lss rfl rfl) <| O.nil ?_
 first | refine S.condD rfl (fun h126 => ?_) (fun h126 => ?_) | refine S.condB rfl (fun h126 => ?_) (fun h126 => ?_)
 ·exact absurd (by assumption) (by simp)
 refine S.exit rfl <| S.seq <| S.seq <| S.region rfl <| O.q 1 rfl <| O.nil <| S.block <| S.unroll <| S.seq <| S.seq <| S.region rfl <| O.q 2 rfl <| O.op (.p rfl) (.len rfl Tryz.underlying111 rfl) <| O.op (.p rfl) (.lss rfl rfl) <| O.nil ?_
 first | refine S.condD rfl (fun h155 => ?_) (fun h155 => ?_) | refine S.condB rfl (fun h155 => ?_) (fun h155 => ?_)
 ·exact absurd (by assumption) (by simp)
 refine S.exit rfl <| S.seq <| S.region rfl <| O.q 1 rfl <| O.nil ?_
 exact S.rt Tryz.results175 rfl hR ⟨rfl, rfl⟩
theorem flatProofs_0 {r : Fr} : Con Tryz.prog 176 #[.slice none 0 0] r [] (Ret fun v η => v = .bool true ∧ η = []) := by
 refine Con.of (n := 193) _ rfl Tryz.func176 rfl rfl rfl fun g hg R hR => ?_
 refine S.seq <| S.region rfl <| O.q 1 rfl <| O.nil <| S.seq <| S.seq <| S.region rfl <| O.q 1 rfl <| O.nil <| S.block <| S.unroll <| S.seq <| S.seq <| S.region rfl <| O.q 2 rfl <| O.op (.p rfl) (.len rfl Tryz.underlying112 rfl) <| O.op (.p rfl) (.lss rfl rfl) <| O.nil ?_
 first | refine S.condD rfl (fun h19 => ?_) (fun h19 => ?_) | refine S.condB rfl (fun h19 => ?_) (fun h19 => ?_)
 ·exact absurd (by assumption) (by simp)
 refine S.exit rfl <| S.seq <| S.region rfl <| O.q 1 rfl <| O.op (.p rfl) (.len rfl Tryz.underlying112 rfl) <| O.opE (.p rfl) (.makeP (T := Rp.val) (.slice none 0 0) (m := 0) Tryz.underlying112 F.elem283 (by decide) ⟨rfl, rfl⟩ rfl rfl rfl rfl (by decide) (by decide)) ?_
 rintro _ _ ⟨a42, c42, rfl, rfl⟩
 refine O.q 1 rfl <| O.nil <| S.seq <| S.seq <| S.region rfl <| O.q 1 rfl <| O.nil <| S.block <| S.unroll <| S.seq <| S.seq <| S.region rfl <| O.q 2 rfl <| O.op (.p rfl) (.len rfl Tryz.underlying112 rfl) <| O.op (.p rfl) (.lss rfl rfl) <| O.nil ?_
 first | refine S.condD rfl (fun h46 => ?_) (fun h46 => ?_) | refine S.condB rfl (fun h46 => ?_) (fun h46 => ?_)
 ·exact absurd (by assumption) (by simp)
 refine S.exit rfl <| S.seq <| S.seq <| S.region rfl <| O.q 1 rfl <| O.nil <| S.block <| S.unroll <| S.seq <| S.seq <| S.region rfl <| O.q 2 rfl <| O.op (.p rfl) (.len rfl Tryz.underlying112 rfl) <| O.op (.p rfl) (.lss rfl rfl) <| O.nil ?_
 first | refine S.condD rfl (fun h76 => ?_) (fun h76 => ?_) | refine S.condB rfl (fun h76 => ?_) (fun h76 => ?_)
 ·exact absurd (by assumption) (by simp)
 refine S.exit rfl <| S.seq <| S.seq <| S.region rfl <| O.q 1 rfl <| O.nil <| S.block <| S.unroll <| S.seq <| S.seq <| S.region rfl <| O.q 2 rfl <| O.op (.p rfl) (.len rfl Tryz.underlying112 rfl) <| O.op (.p rfl) (.lss rfl rfl) <| O.nil ?_
 first | refine S.condD rfl (fun h126 => ?_) (fun h126 => ?_) | refine S.condB rfl (fun h126 => ?_) (fun h126 => ?_)
 ·exact absurd (by assumption) (by simp)
 refine S.exit rfl <| S.seq <| S.seq <| S.region rfl <| O.q 1 rfl <| O.nil <| S.block <| S.unroll <| S.seq <| S.seq <| S.region rfl <| O.q 2 rfl <| O.op (.p rfl) (.len rfl Tryz.underlying112 rfl) <| O.op (.p rfl) (.lss rfl rfl) <| O.nil ?_
 first | refine S.condD rfl (fun h155 => ?_) (fun h155 => ?_) | refine S.condB rfl (fun h155 => ?_) (fun h155 => ?_)
 ·exact absurd (by assumption) (by simp)
 refine S.exit rfl <| S.seq <| S.region rfl <| O.q 1 rfl <| O.nil ?_
 exact S.rt Tryz.results176 rfl hR ⟨rfl, rfl⟩
theorem flatRoots_0 {r : Fr} : Con Tryz.prog 177 #[.slice none 0 0] r [] (Ret fun v η => v = .bool true ∧ η = []) := by
 refine Con.of (n := 193) _ rfl Tryz.func177 rfl rfl rfl fun g hg R hR => ?_
 refine S.seq <| S.region rfl <| O.q 1 rfl <| O.nil <| S.seq <| S.seq <| S.region rfl <| O.q 1 rfl <| O.nil <| S.block <| S.unroll <| S.seq <| S.seq <| S.region rfl <| O.q 2 rfl <| O.op (.p rfl) (.len rfl Tryz.underlying113 rfl) <| O.op (.p rfl) (.lss rfl rfl) <| O.nil ?_
 first | refine S.condD rfl (fun h19 => ?_) (fun h19 => ?_) | refine S.condB rfl (fun h19 => ?_) (fun h19 => ?_)
 ·exact absurd (by assumption) (by simp)
 refine S.exit rfl <| S.seq <| S.region rfl <| O.q 1 rfl <| O.op (.p rfl) (.len rfl Tryz.underlying113 rfl) <| O.opE (.p rfl) (.makeP (T := Rp.val) (.slice none 0 0) (m := 0) Tryz.underlying113 F.elem23 (by decide) ⟨rfl, rfl⟩ rfl rfl rfl rfl (by decide) (by decide)) ?_
 rintro _ _ ⟨a42, c42, rfl, rfl⟩
 refine O.q 1 rfl <| O.nil <| S.seq <| S.seq <| S.region rfl <| O.q 1 rfl <| O.nil <| S.block <| S.unroll <| S.seq <| S.seq <| S.region rfl <| O.q 2 rfl <| O.op (.p rfl) (.len rfl Tryz.underlying113 rfl) <| O.op (.p rfl) (.lss rfl rfl) <| O.nil ?_
 first | refine S.condD rfl (fun h46 => ?_) (fun h46 => ?_) | refine S.condB rfl (fun h46 => ?_) (fun h46 => ?_)
 ·exact absurd (by assumption) (by simp)
 refine S.exit rfl <| S.seq <| S.seq <| S.region rfl <| O.q 1 rfl <| O.nil <| S.block <| S.unroll <| S.seq <| S.seq <| S.region rfl <| O.q 2 rfl <| O.op (.p rfl) (.len rfl Tryz.underlying113 rfl) <| O.op (.p rfl) (.lss rfl rfl) <| O.nil ?_
 first | refine S.condD rfl (fun h76 => ?_) (fun h76 => ?_) | refine S.condB rfl (fun h76 => ?_) (fun h76 => ?_)
 ·exact absurd (by assumption) (by simp)
 refine S.exit rfl <| S.seq <| S.seq <| S.region rfl <| O.q 1 rfl <| O.nil <| S.block <| S.unroll <| S.seq <| S.seq <| S.region rfl <| O.q 2 rfl <| O.op (.p rfl) (.len rfl Tryz.underlying113 rfl) <| O.op (.p rfl) (.lss rfl rfl) <| O.nil ?_
 first | refine S.condD rfl (fun h126 => ?_) (fun h126 => ?_) | refine S.condB rfl (fun h126 => ?_) (fun h126 => ?_)
 ·exact absurd (by assumption) (by simp)
 refine S.exit rfl <| S.seq <| S.seq <| S.region rfl <| O.q 1 rfl <| O.nil <| S.block <| S.unroll <| S.seq <| S.seq <| S.region rfl <| O.q 2 rfl <| O.op (.p rfl) (.len rfl Tryz.underlying113 rfl) <| O.op (.p rfl) (.lss rfl rfl) <| O.nil ?_
 first | refine S.condD rfl (fun h155 => ?_) (fun h155 => ?_) | refine S.condB rfl (fun h155 => ?_) (fun h155 => ?_)
 ·exact absurd (by assumption) (by simp)
 refine S.exit rfl <| S.seq <| S.region rfl <| O.q 1 rfl <| O.nil ?_
 exact S.rt Tryz.results177 rfl hR ⟨rfl, rfl⟩
theorem flatEvidenceRow_0 {r : Fr} : Con Tryz.prog 178 #[.slice none 0 0] r [] (Ret fun v η => v = .bool true ∧ η = []) := by
 refine Con.of (n := 193) _ rfl Tryz.func178 rfl rfl rfl fun g hg R hR => ?_
 refine S.seq <| S.region rfl <| O.q 1 rfl <| O.nil <| S.seq <| S.seq <| S.region rfl <| O.q 1 rfl <| O.nil <| S.block <| S.unroll <| S.seq <| S.seq <| S.region rfl <| O.q 2 rfl <| O.op (.p rfl) (.len rfl Tryz.underlying114 rfl) <| O.op (.p rfl) (.lss rfl rfl) <| O.nil ?_
 first | refine S.condD rfl (fun h19 => ?_) (fun h19 => ?_) | refine S.condB rfl (fun h19 => ?_) (fun h19 => ?_)
 ·exact absurd (by assumption) (by simp)
 refine S.exit rfl <| S.seq <| S.region rfl <| O.q 1 rfl <| O.op (.p rfl) (.len rfl Tryz.underlying114 rfl) <| O.opE (.p rfl) (.makeP (T := Rp.val) (.slice none 0 0) (m := 0) Tryz.underlying114 F.elem24 (by decide) ⟨rfl, rfl⟩ rfl rfl rfl rfl (by decide) (by decide)) ?_
 rintro _ _ ⟨a42, c42, rfl, rfl⟩
 refine O.q 1 rfl <| O.nil <| S.seq <| S.seq <| S.region rfl <| O.q 1 rfl <| O.nil <| S.block <| S.unroll <| S.seq <| S.seq <| S.region rfl <| O.q 2 rfl <| O.op (.p rfl) (.len rfl Tryz.underlying114 rfl) <| O.op (.p rfl) (.lss rfl rfl) <| O.nil ?_
 first | refine S.condD rfl (fun h46 => ?_) (fun h46 => ?_) | refine S.condB rfl (fun h46 => ?_) (fun h46 => ?_)
 ·exact absurd (by assumption) (by simp)
 refine S.exit rfl <| S.seq <| S.seq <| S.region rfl <| O.q 1 rfl <| O.nil <| S.block <| S.unroll <| S.seq <| S.seq <| S.region rfl <| O.q 2 rfl <| O.op (.p rfl) (.len rfl Tryz.underlying114 rfl) <| O.op (.p rfl) (.lss rfl rfl) <| O.nil ?_
 first | refine S.condD rfl (fun h76 => ?_) (fun h76 => ?_) | refine S.condB rfl (fun h76 => ?_) (fun h76 => ?_)
 ·exact absurd (by assumption) (by simp)
 refine S.exit rfl <| S.seq <| S.seq <| S.region rfl <| O.q 1 rfl <| O.nil <| S.block <| S.unroll <| S.seq <| S.seq <| S.region rfl <| O.q 2 rfl <| O.op (.p rfl) (.len rfl Tryz.underlying114 rfl) <| O.op (.p rfl) (.lss rfl rfl) <| O.nil ?_
 first | refine S.condD rfl (fun h126 => ?_) (fun h126 => ?_) | refine S.condB rfl (fun h126 => ?_) (fun h126 => ?_)
 ·exact absurd (by assumption) (by simp)
 refine S.exit rfl <| S.seq <| S.seq <| S.region rfl <| O.q 1 rfl <| O.nil <| S.block <| S.unroll <| S.seq <| S.seq <| S.region rfl <| O.q 2 rfl <| O.op (.p rfl) (.len rfl Tryz.underlying114 rfl) <| O.op (.p rfl) (.lss rfl rfl) <| O.nil ?_
 first | refine S.condD rfl (fun h155 => ?_) (fun h155 => ?_) | refine S.condB rfl (fun h155 => ?_) (fun h155 => ?_)
 ·exact absurd (by assumption) (by simp)
 refine S.exit rfl <| S.seq <| S.region rfl <| O.q 1 rfl <| O.nil ?_
 exact S.rt Tryz.results178 rfl hR ⟨rfl, rfl⟩
theorem flatFrames_0 {r : Fr} : Con Tryz.prog 179 #[.slice none 0 0] r [] (Ret fun v η => v = .bool true ∧ η = []) := by
 refine Con.of (n := 193) _ rfl Tryz.func179 rfl rfl rfl fun g hg R hR => ?_
 refine S.seq <| S.region rfl <| O.q 1 rfl <| O.nil <| S.seq <| S.seq <| S.region rfl <| O.q 1 rfl <| O.nil <| S.block <| S.unroll <| S.seq <| S.seq <| S.region rfl <| O.q 2 rfl <| O.op (.p rfl) (.len rfl Tryz.underlying115 rfl) <| O.op (.p rfl) (.lss rfl rfl) <| O.nil ?_
 first | refine S.condD rfl (fun h19 => ?_) (fun h19 => ?_) | refine S.condB rfl (fun h19 => ?_) (fun h19 => ?_)
 ·exact absurd (by assumption) (by simp)
 refine S.exit rfl <| S.seq <| S.region rfl <| O.q 1 rfl <| O.op (.p rfl) (.len rfl Tryz.underlying115 rfl) <| O.opE (.p rfl) (.makeP (T := Rp.val) (.slice none 0 0) (m := 0) Tryz.underlying115 F.elem288 (by decide) ⟨rfl, rfl⟩ rfl rfl rfl rfl (by decide) (by decide)) ?_
 rintro _ _ ⟨a42, c42, rfl, rfl⟩
 refine O.q 1 rfl <| O.nil <| S.seq <| S.seq <| S.region rfl <| O.q 1 rfl <| O.nil <| S.block <| S.unroll <| S.seq <| S.seq <| S.region rfl <| O.q 2 rfl <| O.op (.p rfl) (.len rfl Tryz.underlying115 rfl) <| O.op (.p rfl) (.lss rfl rfl) <| O.nil ?_
 first | refine S.condD rfl (fun h46 => ?_) (fun h46 => ?_) | refine S.condB rfl (fun h46 => ?_) (fun h46 => ?_)
 ·exact absurd (by assumption) (by simp)
 refine S.exit rfl <| S.seq <| S.seq <| S.region rfl <| O.q 1 rfl <| O.nil <| S.block <| S.unroll <| S.seq <| S.seq <| S.region rfl <| O.q 2 rfl <| O.op (.p rfl) (.len rfl Tryz.underlying115 rfl) <| O.op (.p rfl) (.lss rfl rfl) <| O.nil ?_
 first | refine S.condD rfl (fun h76 => ?_) (fun h76 => ?_) | refine S.condB rfl (fun h76 => ?_) (fun h76 => ?_)
 ·exact absurd (by assumption) (by simp)
 refine S.exit rfl <| S.seq <| S.seq <| S.region rfl <| O.q 1 rfl <| O.nil <| S.block <| S.unroll <| S.seq <| S.seq <| S.region rfl <| O.q 2 rfl <| O.op (.p rfl) (.len rfl Tryz.underlying115 rfl) <| O.op (.p rfl) (.lss rfl rfl) <| O.nil ?_
 first | refine S.condD rfl (fun h126 => ?_) (fun h126 => ?_) | refine S.condB rfl (fun h126 => ?_) (fun h126 => ?_)
 ·exact absurd (by assumption) (by simp)
 refine S.exit rfl <| S.seq <| S.seq <| S.region rfl <| O.q 1 rfl <| O.nil <| S.block <| S.unroll <| S.seq <| S.seq <| S.region rfl <| O.q 2 rfl <| O.op (.p rfl) (.len rfl Tryz.underlying115 rfl) <| O.op (.p rfl) (.lss rfl rfl) <| O.nil ?_
 first | refine S.condD rfl (fun h155 => ?_) (fun h155 => ?_) | refine S.condB rfl (fun h155 => ?_) (fun h155 => ?_)
 ·exact absurd (by assumption) (by simp)
 refine S.exit rfl <| S.seq <| S.region rfl <| O.q 1 rfl <| O.nil ?_
 exact S.rt Tryz.results179 rfl hR ⟨rfl, rfl⟩
theorem flatPackets_0 {r : Fr} : Con Tryz.prog 180 #[.slice none 0 0] r [] (Ret fun v η => v = .bool true ∧ η = []) := by
 refine Con.of (n := 193) _ rfl Tryz.func180 rfl rfl rfl fun g hg R hR => ?_
 refine S.seq <| S.region rfl <| O.q 1 rfl <| O.nil <| S.seq <| S.seq <| S.region rfl <| O.q 1 rfl <| O.nil <| S.block <| S.unroll <| S.seq <| S.seq <| S.region rfl <| O.q 2 rfl <| O.op (.p rfl) (.len rfl Tryz.underlying116 rfl) <| O.op (.p rfl) (.lss rfl rfl) <| O.nil ?_
 first | refine S.condD rfl (fun h19 => ?_) (fun h19 => ?_) | refine S.condB rfl (fun h19 => ?_) (fun h19 => ?_)
 ·exact absurd (by assumption) (by simp)
 refine S.exit rfl <| S.seq <| S.region rfl <| O.q 1 rfl <| O.op (.p rfl) (.len rfl Tryz.underlying116 rfl) <| O.opE (.p rfl) (.makeP (T := Rp.val) (.slice none 0 0) (m := 0) Tryz.underlying116 F.elem294 (by decide) ⟨rfl, rfl⟩ rfl rfl rfl rfl (by decide) (by decide)) ?_
 rintro _ _ ⟨a42, c42, rfl, rfl⟩
 refine O.q 1 rfl <| O.nil <| S.seq <| S.seq <| S.region rfl <| O.q 1 rfl <| O.nil <| S.block <| S.unroll <| S.seq <| S.seq <| S.region rfl <| O.q 2 rfl <| O.op (.p rfl) (.len rfl Tryz.underlying116 rfl) <| O.op (.p rfl) (.lss rfl rfl) <| O.nil ?_
 first | refine S.condD rfl (fun h46 => ?_) (fun h46 => ?_) | refine S.condB rfl (fun h46 => ?_) (fun h46 => ?_)
 ·exact absurd (by assumption) (by simp)
 refine S.exit rfl <| S.seq <| S.seq <| S.region rfl <| O.q 1 rfl <| O.nil <| S.block <| S.unroll <| S.seq <| S.seq <| S.region rfl <| O.q 2 rfl <| O.op (.p rfl) (.len rfl Tryz.underlying116 rfl) <| O.op (.p rfl) (.lss rfl rfl) <| O.nil ?_
 first | refine S.condD rfl (fun h76 => ?_) (fun h76 => ?_) | refine S.condB rfl (fun h76 => ?_) (fun h76 => ?_)
 ·exact absurd (by assumption) (by simp)
 refine S.exit rfl <| S.seq <| S.seq <| S.region rfl <| O.q 1 rfl <| O.nil <| S.block <| S.unroll <| S.seq <| S.seq <| S.region rfl <| O.q 2 rfl <| O.op (.p rfl) (.len rfl Tryz.underlying116 rfl) <| O.op (.p rfl) (.lss rfl rfl) <| O.nil ?_
 first | refine S.condD rfl (fun h126 => ?_) (fun h126 => ?_) | refine S.condB rfl (fun h126 => ?_) (fun h126 => ?_)
 ·exact absurd (by assumption) (by simp)
 refine S.exit rfl <| S.seq <| S.seq <| S.region rfl <| O.q 1 rfl <| O.nil <| S.block <| S.unroll <| S.seq <| S.seq <| S.region rfl <| O.q 2 rfl <| O.op (.p rfl) (.len rfl Tryz.underlying116 rfl) <| O.op (.p rfl) (.lss rfl rfl) <| O.nil ?_
 first | refine S.condD rfl (fun h155 => ?_) (fun h155 => ?_) | refine S.condB rfl (fun h155 => ?_) (fun h155 => ?_)
 ·exact absurd (by assumption) (by simp)
 refine S.exit rfl <| S.seq <| S.region rfl <| O.q 1 rfl <| O.nil ?_
 exact S.rt Tryz.results180 rfl hR ⟨rfl, rfl⟩
theorem flatEntries_0 {r : Fr} : Con Tryz.prog 181 #[.slice none 0 0] r [] (Ret fun v η => v = .bool true ∧ η = []) := by
 refine Con.of (n := 193) _ rfl Tryz.func181 rfl rfl rfl fun g hg R hR => ?_
 refine S.seq <| S.region rfl <| O.q 1 rfl <| O.nil <| S.seq <| S.seq <| S.region rfl <| O.q 1 rfl <| O.nil <| S.block <| S.unroll <| S.seq <| S.seq <| S.region rfl <| O.q 2 rfl <| O.op (.p rfl) (.len rfl Tryz.underlying117 rfl) <| O.op (.p rfl) (.lss rfl rfl) <| O.nil ?_
 first | refine S.condD rfl (fun h19 => ?_) (fun h19 => ?_) | refine S.condB rfl (fun h19 => ?_) (fun h19 => ?_)
 ·exact absurd (by assumption) (by simp)
 refine S.exit rfl <| S.seq <| S.region rfl <| O.q 1 rfl <| O.op (.p rfl) (.len rfl Tryz.underlying117 rfl) <| O.opE (.p rfl) (.makeP (T := Rp.val) (.slice none 0 0) (m := 0) Tryz.underlying117 F.elem299 (by decide) ⟨rfl, rfl⟩ rfl rfl rfl rfl (by decide) (by decide)) ?_
 rintro _ _ ⟨a42, c42, rfl, rfl⟩
 refine O.q 1 rfl <| O.nil <| S.seq <| S.seq <| S.region rfl <| O.q 1 rfl <| O.nil <| S.block <| S.unroll <| S.seq <| S.seq <| S.region rfl <| O.q 2 rfl <| O.op (.p rfl) (.len rfl Tryz.underlying117 rfl) <| O.op (.p rfl) (.lss rfl rfl) <| O.nil ?_
 first | refine S.condD rfl (fun h46 => ?_) (fun h46 => ?_) | refine S.condB rfl (fun h46 => ?_) (fun h46 => ?_)
 ·exact absurd (by assumption) (by simp)
 refine S.exit rfl <| S.seq <| S.seq <| S.region rfl <| O.q 1 rfl <| O.nil <| S.block <| S.unroll <| S.seq <| S.seq <| S.region rfl <| O.q 2 rfl <| O.op (.p rfl) (.len rfl Tryz.underlying117 rfl) <| O.op (.p rfl) (.lss rfl rfl) <| O.nil ?_
 first | refine S.condD rfl (fun h76 => ?_) (fun h76 => ?_) | refine S.condB rfl (fun h76 => ?_) (fun h76 => ?_)
 ·exact absurd (by assumption) (by simp)
 refine S.exit rfl <| S.seq <| S.seq <| S.region rfl <| O.q 1 rfl <| O.nil <| S.block <| S.unroll <| S.seq <| S.seq <| S.region rfl <| O.q 2 rfl <| O.op (.p rfl) (.len rfl Tryz.underlying117 rfl) <| O.op (.p rfl) (.lss rfl rfl) <| O.nil ?_
 first | refine S.condD rfl (fun h126 => ?_) (fun h126 => ?_) | refine S.condB rfl (fun h126 => ?_) (fun h126 => ?_)
 ·exact absurd (by assumption) (by simp)
 refine S.exit rfl <| S.seq <| S.seq <| S.region rfl <| O.q 1 rfl <| O.nil <| S.block <| S.unroll <| S.seq <| S.seq <| S.region rfl <| O.q 2 rfl <| O.op (.p rfl) (.len rfl Tryz.underlying117 rfl) <| O.op (.p rfl) (.lss rfl rfl) <| O.nil ?_
 first | refine S.condD rfl (fun h155 => ?_) (fun h155 => ?_) | refine S.condB rfl (fun h155 => ?_) (fun h155 => ?_)
 ·exact absurd (by assumption) (by simp)
 refine S.exit rfl <| S.seq <| S.region rfl <| O.q 1 rfl <| O.nil ?_
 exact S.rt Tryz.results181 rfl hR ⟨rfl, rfl⟩
theorem flatHeldRow_0 {r : Fr} : Con Tryz.prog 182 #[.slice none 0 0] r [] (Ret fun v η => v = .bool true ∧ η = []) := by
 refine Con.of (n := 193) _ rfl Tryz.func182 rfl rfl rfl fun g hg R hR => ?_
 refine S.seq <| S.region rfl <| O.q 1 rfl <| O.nil <| S.seq <| S.seq <| S.region rfl <| O.q 1 rfl <| O.nil <| S.block <| S.unroll <| S.seq <| S.seq <| S.region rfl <| O.q 2 rfl <| O.op (.p rfl) (.len rfl Tryz.underlying46 rfl) <| O.op (.p rfl) (.lss rfl rfl) <| O.nil ?_
 first | refine S.condD rfl (fun h19 => ?_) (fun h19 => ?_) | refine S.condB rfl (fun h19 => ?_) (fun h19 => ?_)
 ·exact absurd (by assumption) (by simp)
 refine S.exit rfl <| S.seq <| S.region rfl <| O.q 1 rfl <| O.op (.p rfl) (.len rfl Tryz.underlying46 rfl) <| O.opE (.p rfl) (.makeP (T := Rp.val) (.slice none 0 0) (m := 0) Tryz.underlying46 F.elem45 (by decide) ⟨rfl, rfl⟩ rfl rfl rfl rfl (by decide) (by decide)) ?_
 rintro _ _ ⟨a42, c42, rfl, rfl⟩
 refine O.q 1 rfl <| O.nil <| S.seq <| S.seq <| S.region rfl <| O.q 1 rfl <| O.nil <| S.block <| S.unroll <| S.seq <| S.seq <| S.region rfl <| O.q 2 rfl <| O.op (.p rfl) (.len rfl Tryz.underlying46 rfl) <| O.op (.p rfl) (.lss rfl rfl) <| O.nil ?_
 first | refine S.condD rfl (fun h46 => ?_) (fun h46 => ?_) | refine S.condB rfl (fun h46 => ?_) (fun h46 => ?_)
 ·exact absurd (by assumption) (by simp)
 refine S.exit rfl <| S.seq <| S.seq <| S.region rfl <| O.q 1 rfl <| O.nil <| S.block <| S.unroll <| S.seq <| S.seq <| S.region rfl <| O.q 2 rfl <| O.op (.p rfl) (.len rfl Tryz.underlying46 rfl) <| O.op (.p rfl) (.lss rfl rfl) <| O.nil ?_
 first | refine S.condD rfl (fun h76 => ?_) (fun h76 => ?_) | refine S.condB rfl (fun h76 => ?_) (fun h76 => ?_)
 ·exact absurd (by assumption) (by simp)
 refine S.exit rfl <| S.seq <| S.seq <| S.region rfl <| O.q 1 rfl <| O.nil <| S.block <| S.unroll <| S.seq <| S.seq <| S.region rfl <| O.q 2 rfl <| O.op (.p rfl) (.len rfl Tryz.underlying46 rfl) <| O.op (.p rfl) (.lss rfl rfl) <| O.nil ?_
 first | refine S.condD rfl (fun h126 => ?_) (fun h126 => ?_) | refine S.condB rfl (fun h126 => ?_) (fun h126 => ?_)
 ·exact absurd (by assumption) (by simp)
 refine S.exit rfl <| S.seq <| S.seq <| S.region rfl <| O.q 1 rfl <| O.nil <| S.block <| S.unroll <| S.seq <| S.seq <| S.region rfl <| O.q 2 rfl <| O.op (.p rfl) (.len rfl Tryz.underlying46 rfl) <| O.op (.p rfl) (.lss rfl rfl) <| O.nil ?_
 first | refine S.condD rfl (fun h155 => ?_) (fun h155 => ?_) | refine S.condB rfl (fun h155 => ?_) (fun h155 => ?_)
 ·exact absurd (by assumption) (by simp)
 refine S.exit rfl <| S.seq <| S.region rfl <| O.q 1 rfl <| O.nil ?_
 exact S.rt Tryz.results182 rfl hR ⟨rfl, rfl⟩
theorem flatConfigs_0 {r : Fr} : Con Tryz.prog 183 #[.slice none 0 0] r [] (Ret fun v η => v = .bool true ∧ η = []) := by
 refine Con.of (n := 193) _ rfl Tryz.func183 rfl rfl rfl fun g hg R hR => ?_
 refine S.seq <| S.region rfl <| O.q 1 rfl <| O.nil <| S.seq <| S.seq <| S.region rfl <| O.q 1 rfl <| O.nil <| S.block <| S.unroll <| S.seq <| S.seq <| S.region rfl <| O.q 2 rfl <| O.op (.p rfl) (.len rfl Tryz.underlying118 rfl) <| O.op (.p rfl) (.lss rfl rfl) <| O.nil ?_
 first | refine S.condD rfl (fun h19 => ?_) (fun h19 => ?_) | refine S.condB rfl (fun h19 => ?_) (fun h19 => ?_)
 ·exact absurd (by assumption) (by simp)
 refine S.exit rfl <| S.seq <| S.region rfl <| O.q 1 rfl <| O.op (.p rfl) (.len rfl Tryz.underlying118 rfl) <| O.opE (.p rfl) (.makeP (T := Rp.val) (.slice none 0 0) (m := 0) Tryz.underlying118 F.elem306 (by decide) ⟨rfl, rfl⟩ rfl rfl rfl rfl (by decide) (by decide)) ?_
 rintro _ _ ⟨a42, c42, rfl, rfl⟩
 refine O.q 1 rfl <| O.nil <| S.seq <| S.seq <| S.region rfl <| O.q 1 rfl <| O.nil <| S.block <| S.unroll <| S.seq <| S.seq <| S.region rfl <| O.q 2 rfl <| O.op (.p rfl) (.len rfl Tryz.underlying118 rfl) <| O.op (.p rfl) (.lss rfl rfl) <| O.nil ?_
 first | refine S.condD rfl (fun h46 => ?_) (fun h46 => ?_) | refine S.condB rfl (fun h46 => ?_) (fun h46 => ?_)
 ·exact absurd (by assumption) (by simp)
 refine S.exit rfl <| S.seq <| S.seq <| S.region rfl <| O.q 1 rfl <| O.nil <| S.block <| S.unroll <| S.seq <| S.seq <| S.region rfl <| O.q 2 rfl <| O.op (.p rfl) (.len rfl Tryz.underlying118 rfl) <| O.op (.p rfl) (.lss rfl rfl) <| O.nil ?_
 first | refine S.condD rfl (fun h76 => ?_) (fun h76 => ?_) | refine S.condB rfl (fun h76 => ?_) (fun h76 => ?_)
 ·exact absurd (by assumption) (by simp)
 refine S.exit rfl <| S.seq <| S.seq <| S.region rfl <| O.q 1 rfl <| O.nil <| S.block <| S.unroll <| S.seq <| S.seq <| S.region rfl <| O.q 2 rfl <| O.op (.p rfl) (.len rfl Tryz.underlying118 rfl) <| O.op (.p rfl) (.lss rfl rfl) <| O.nil ?_
 first | refine S.condD rfl (fun h126 => ?_) (fun h126 => ?_) | refine S.condB rfl (fun h126 => ?_) (fun h126 => ?_)
 ·exact absurd (by assumption) (by simp)
 refine S.exit rfl <| S.seq <| S.seq <| S.region rfl <| O.q 1 rfl <| O.nil <| S.block <| S.unroll <| S.seq <| S.seq <| S.region rfl <| O.q 2 rfl <| O.op (.p rfl) (.len rfl Tryz.underlying118 rfl) <| O.op (.p rfl) (.lss rfl rfl) <| O.nil ?_
 first | refine S.condD rfl (fun h155 => ?_) (fun h155 => ?_) | refine S.condB rfl (fun h155 => ?_) (fun h155 => ?_)
 ·exact absurd (by assumption) (by simp)
 refine S.exit rfl <| S.seq <| S.region rfl <| O.q 1 rfl <| O.nil ?_
 exact S.rt Tryz.results183 rfl hR ⟨rfl, rfl⟩
theorem flatSteps_0 {r : Fr} : Con Tryz.prog 184 #[.slice none 0 0] r [] (Ret fun v η => v = .bool true ∧ η = []) := by
 refine Con.of (n := 193) _ rfl Tryz.func184 rfl rfl rfl fun g hg R hR => ?_
 refine S.seq <| S.region rfl <| O.q 1 rfl <| O.nil <| S.seq <| S.seq <| S.region rfl <| O.q 1 rfl <| O.nil <| S.block <| S.unroll <| S.seq <| S.seq <| S.region rfl <| O.q 2 rfl <| O.op (.p rfl) (.len rfl Tryz.underlying119 rfl) <| O.op (.p rfl) (.lss rfl rfl) <| O.nil ?_
 first | refine S.condD rfl (fun h19 => ?_) (fun h19 => ?_) | refine S.condB rfl (fun h19 => ?_) (fun h19 => ?_)
 ·exact absurd (by assumption) (by simp)
 refine S.exit rfl <| S.seq <| S.region rfl <| O.q 1 rfl <| O.op (.p rfl) (.len rfl Tryz.underlying119 rfl) <| O.opE (.p rfl) (.makeP (T := Rp.val) (.slice none 0 0) (m := 0) Tryz.underlying119 F.elem311 (by decide) ⟨rfl, rfl⟩ rfl rfl rfl rfl (by decide) (by decide)) ?_
 rintro _ _ ⟨a42, c42, rfl, rfl⟩
 refine O.q 1 rfl <| O.nil <| S.seq <| S.seq <| S.region rfl <| O.q 1 rfl <| O.nil <| S.block <| S.unroll <| S.seq <| S.seq <| S.region rfl <| O.q 2 rfl <| O.op (.p rfl) (.len rfl Tryz.underlying119 rfl) <| O.op (.p rfl) (.lss rfl rfl) <| O.nil ?_
 first | refine S.condD rfl (fun h46 => ?_) (fun h46 => ?_) | refine S.condB rfl (fun h46 => ?_) (fun h46 => ?_)
 ·exact absurd (by assumption) (by simp)
 refine S.exit rfl <| S.seq <| S.seq <| S.region rfl <| O.q 1 rfl <| O.nil <| S.block <| S.unroll <| S.seq <| S.seq <| S.region rfl <| O.q 2 rfl <| O.op (.p rfl) (.len rfl Tryz.underlying119 rfl) <| O.op (.p rfl) (.lss rfl rfl) <| O.nil ?_
 first | refine S.condD rfl (fun h76 => ?_) (fun h76 => ?_) | refine S.condB rfl (fun h76 => ?_) (fun h76 => ?_)
 ·exact absurd (by assumption) (by simp)
 refine S.exit rfl <| S.seq <| S.seq <| S.region rfl <| O.q 1 rfl <| O.nil <| S.block <| S.unroll <| S.seq <| S.seq <| S.region rfl <| O.q 2 rfl <| O.op (.p rfl) (.len rfl Tryz.underlying119 rfl) <| O.op (.p rfl) (.lss rfl rfl) <| O.nil ?_
 first | refine S.condD rfl (fun h126 => ?_) (fun h126 => ?_) | refine S.condB rfl (fun h126 => ?_) (fun h126 => ?_)
 ·exact absurd (by assumption) (by simp)
 refine S.exit rfl <| S.seq <| S.seq <| S.region rfl <| O.q 1 rfl <| O.nil <| S.block <| S.unroll <| S.seq <| S.seq <| S.region rfl <| O.q 2 rfl <| O.op (.p rfl) (.len rfl Tryz.underlying119 rfl) <| O.op (.p rfl) (.lss rfl rfl) <| O.nil ?_
 first | refine S.condD rfl (fun h155 => ?_) (fun h155 => ?_) | refine S.condB rfl (fun h155 => ?_) (fun h155 => ?_)
 ·exact absurd (by assumption) (by simp)
 refine S.exit rfl <| S.seq <| S.region rfl <| O.q 1 rfl <| O.nil ?_
 exact S.rt Tryz.results184 rfl hR ⟨rfl, rfl⟩
theorem flatTales_0 {r : Fr} : Con Tryz.prog 185 #[.slice none 0 0] r [] (Ret fun v η => v = .bool true ∧ η = []) := by
 refine Con.of (n := 193) _ rfl Tryz.func185 rfl rfl rfl fun g hg R hR => ?_
 refine S.seq <| S.region rfl <| O.q 1 rfl <| O.nil <| S.seq <| S.seq <| S.region rfl <| O.q 1 rfl <| O.nil <| S.block <| S.unroll <| S.seq <| S.seq <| S.region rfl <| O.q 2 rfl <| O.op (.p rfl) (.len rfl Tryz.underlying120 rfl) <| O.op (.p rfl) (.lss rfl rfl) <| O.nil ?_
 first | refine S.condD rfl (fun h19 => ?_) (fun h19 => ?_) | refine S.condB rfl (fun h19 => ?_) (fun h19 => ?_)
 ·exact absurd (by assumption) (by simp)
 refine S.exit rfl <| S.seq <| S.region rfl <| O.q 1 rfl <| O.op (.p rfl) (.len rfl Tryz.underlying120 rfl) <| O.opE (.p rfl) (.makeP (T := Rp.val) (.slice none 0 0) (m := 0) Tryz.underlying120 F.elem317 (by decide) ⟨rfl, rfl⟩ rfl rfl rfl rfl (by decide) (by decide)) ?_
 rintro _ _ ⟨a42, c42, rfl, rfl⟩
 refine O.q 1 rfl <| O.nil <| S.seq <| S.seq <| S.region rfl <| O.q 1 rfl <| O.nil <| S.block <| S.unroll <| S.seq <| S.seq <| S.region rfl <| O.q 2 rfl <| O.op (.p rfl) (.len rfl Tryz.underlying120 rfl) <| O.op (.p rfl) (.lss rfl rfl) <| O.nil ?_
 first | refine S.condD rfl (fun h46 => ?_) (fun h46 => ?_) | refine S.condB rfl (fun h46 => ?_) (fun h46 => ?_)
 ·exact absurd (by assumption) (by simp)
 refine S.exit rfl <| S.seq <| S.seq <| S.region rfl <| O.q 1 rfl <| O.nil <| S.block <| S.unroll <| S.seq <| S.seq <| S.region rfl <| O.q 2 rfl <| O.op (.p rfl) (.len rfl Tryz.underlying120 rfl) <| O.op (.p rfl) (.lss rfl rfl) <| O.nil ?_
 first | refine S.condD rfl (fun h76 => ?_) (fun h76 => ?_) | refine S.condB rfl (fun h76 => ?_) (fun h76 => ?_)
 ·exact absurd (by assumption) (by simp)
 refine S.exit rfl <| S.seq <| S.seq <| S.region rfl <| O.q 1 rfl <| O.nil <| S.block <| S.unroll <| S.seq <| S.seq <| S.region rfl <| O.q 2 rfl <| O.op (.p rfl) (.len rfl Tryz.underlying120 rfl) <| O.op (.p rfl) (.lss rfl rfl) <| O.nil ?_
 first | refine S.condD rfl (fun h126 => ?_) (fun h126 => ?_) | refine S.condB rfl (fun h126 => ?_) (fun h126 => ?_)
 ·exact absurd (by assumption) (by simp)
 refine S.exit rfl <| S.seq <| S.seq <| S.region rfl <| O.q 1 rfl <| O.nil <| S.block <| S.unroll <| S.seq <| S.seq <| S.region rfl <| O.q 2 rfl <| O.op (.p rfl) (.len rfl Tryz.underlying120 rfl) <| O.op (.p rfl) (.lss rfl rfl) <| O.nil ?_
 first | refine S.condD rfl (fun h155 => ?_) (fun h155 => ?_) | refine S.condB rfl (fun h155 => ?_) (fun h155 => ?_)
 ·exact absurd (by assumption) (by simp)
 refine S.exit rfl <| S.seq <| S.region rfl <| O.q 1 rfl <| O.nil ?_
 exact S.rt Tryz.results185 rfl hR ⟨rfl, rfl⟩
end Go.Proofs.YtodhbhanmdfdeaaGreat
