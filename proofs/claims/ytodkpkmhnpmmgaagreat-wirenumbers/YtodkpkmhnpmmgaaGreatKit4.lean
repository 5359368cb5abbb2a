import Derived.Test.YtodkpkmhnpmmgaaGreatKit3
open Go Go.Sp
set_option maxRecDepth 100000
attribute [local irreducible] obj Own OwnP
namespace Go.Proofs.YtodkpkmhnpmmgaaGreat
theorem FactKit4.elem122 : elemIs Go.Proofs.Tryz.prog 122 1 24 [.slice none 0 0] := elemIs.mk (by kernel_rfl) rfl
theorem FactKit4.elem124 : elemIs Go.Proofs.Tryz.prog 124 1 24 [.slice none 0 0] := elemIs.mk (by kernel_rfl) rfl
theorem FactKit4.elem125 : elemIs Go.Proofs.Tryz.prog 125 1 24 [.slice none 0 0] := elemIs.mk (by kernel_rfl) rfl
theorem FactKit4.elem126 : elemIs Go.Proofs.Tryz.prog 126 1 24 [.slice none 0 0] := elemIs.mk (by kernel_rfl) rfl
theorem FactKit4.elem127 : elemIs Go.Proofs.Tryz.prog 127 1 24 [.slice none 0 0] := elemIs.mk (by kernel_rfl) rfl
theorem FactKit4.elem128 : elemIs Go.Proofs.Tryz.prog 128 1 24 [.slice none 0 0] := elemIs.mk (by kernel_rfl) rfl
theorem FactKit4.elem132 : elemIs Go.Proofs.Tryz.prog 132 1 24 [.slice none 0 0] := elemIs.mk (by kernel_rfl) rfl
theorem FactKit4.elem137 : elemIs Go.Proofs.Tryz.prog 137 1 24 [.slice none 0 0] := elemIs.mk (by kernel_rfl) rfl
theorem FactKit4.elem142 : elemIs Go.Proofs.Tryz.prog 142 1 24 [.slice none 0 0] := elemIs.mk (by kernel_rfl) rfl
theorem FactKit4.elem147 : elemIs Go.Proofs.Tryz.prog 147 1 24 [.slice none 0 0] := elemIs.mk (by kernel_rfl) rfl
theorem FactKit4.elem153 : elemIs Go.Proofs.Tryz.prog 153 1 24 [.slice none 0 0] := elemIs.mk (by kernel_rfl) rfl
theorem FactKit4.elem158 : elemIs Go.Proofs.Tryz.prog 158 1 24 [.slice none 0 0] := elemIs.mk (by kernel_rfl) rfl
theorem FactKit4.elem163 : elemIs Go.Proofs.Tryz.prog 163 1 24 [.slice none 0 0] := elemIs.mk (by kernel_rfl) rfl
theorem FactKit4.elem168 : elemIs Go.Proofs.Tryz.prog 168 1 24 [.slice none 0 0] := elemIs.mk (by kernel_rfl) rfl
theorem FactKit4.elem173 : elemIs Go.Proofs.Tryz.prog 173 1 24 [.slice none 0 0] := elemIs.mk (by kernel_rfl) rfl
theorem FactKit4.elem180 : elemIs Go.Proofs.Tryz.prog 180 1 24 [.slice none 0 0] := elemIs.mk (by kernel_rfl) rfl
theorem FactKit4.elem185 : elemIs Go.Proofs.Tryz.prog 185 1 24 [.slice none 0 0] := elemIs.mk (by kernel_rfl) rfl
theorem FactKit4.elem191 : elemIs Go.Proofs.Tryz.prog 191 1 24 [.slice none 0 0] := elemIs.mk (by kernel_rfl) rfl
theorem FactKit4.elem196 : elemIs Go.Proofs.Tryz.prog 196 1 24 [.slice none 0 0] := elemIs.mk (by kernel_rfl) rfl
theorem FactKit4.elem201 : elemIs Go.Proofs.Tryz.prog 201 1 24 [.slice none 0 0] := elemIs.mk (by kernel_rfl) rfl
theorem FactKit4.elem207 : elemIs Go.Proofs.Tryz.prog 207 1 24 [.slice none 0 0] := elemIs.mk (by kernel_rfl) rfl
theorem FactKit4.elem22 : elemIs Go.Proofs.Tryz.prog 22 1 24 [.slice none 0 0] := elemIs.mk (by kernel_rfl) rfl
theorem FactKit4.elem23 : elemIs Go.Proofs.Tryz.prog 23 1 24 [.slice none 0 0] := elemIs.mk (by kernel_rfl) rfl
theorem FactKit4.elem46 : elemIs Go.Proofs.Tryz.prog 46 1 24 [.slice none 0 0] := elemIs.mk (by kernel_rfl) rfl
theorem flatLimbs_0 {r : Fr} : Con Go.Proofs.Tryz.prog 53 #[.slice none 0 0] r [] (Ret fun v η => v = .bool true ∧ η = []) := by
  refine Con.of (n := 200) [.slice none 0 0] rfl Go.Proofs.Tryz.func53 rfl rfl rfl fun g hg R hR => ?_
  refine S.seq (S.region rfl ?_)
  refine O.op (.p rfl) (.as rfl) ?_
  refine O.nil ?_
  refine S.seq (S.seq (S.region rfl ?_))
  refine O.op (.p rfl) (.as rfl) ?_
  refine O.nil ?_
  refine S.block ?_
  refine S.unroll ?_
  refine S.seq (S.seq (S.region rfl ?_))
  refine O.op (.p rfl) (.mv rfl) ?_
  refine O.op (.p rfl) (.mv rfl) ?_
  refine O.op (.p rfl) (.len rfl Go.Proofs.Tryz.underlying53 rfl) ?_
  refine O.op (.p rfl) (.lss rfl rfl) ?_
  refine O.nil ?_
  first | refine S.condD rfl (fun h19 => ?_) (fun h19 => ?_) | refine S.condB rfl (fun h19 => ?_) (fun h19 => ?_)
  · exact absurd (by assumption) (by simp)
  refine S.exit rfl ?_
  refine S.seq (S.region rfl ?_)
  refine O.op (.p rfl) (.mv rfl) ?_
  refine O.op (.p rfl) (.len rfl Go.Proofs.Tryz.underlying53 rfl) ?_
  refine O.opE (.p rfl) (.makeP (T := Rp.val) (.slice none 0 0) (m := 0) Go.Proofs.Tryz.underlying53 FactKit4.elem122 (by decide) ⟨rfl, rfl⟩ rfl rfl rfl rfl (by decide) (by decide)) ?_
  rintro _ _ ⟨a43, c43, rfl, rfl⟩
  refine O.op (.p rfl) (.as rfl) ?_
  refine O.nil ?_
  refine S.seq (S.seq (S.region rfl ?_))
  refine O.op (.p rfl) (.as rfl) ?_
  refine O.nil ?_
  refine S.block ?_
  refine S.unroll ?_
  refine S.seq (S.seq (S.region rfl ?_))
  refine O.op (.p rfl) (.mv rfl) ?_
  refine O.op (.p rfl) (.mv rfl) ?_
  refine O.op (.p rfl) (.len rfl Go.Proofs.Tryz.underlying53 rfl) ?_
  refine O.op (.p rfl) (.lss rfl rfl) ?_
  refine O.nil ?_
  first | refine S.condD rfl (fun h47 => ?_) (fun h47 => ?_) | refine S.condB rfl (fun h47 => ?_) (fun h47 => ?_)
  · exact absurd (by assumption) (by simp)
  refine S.exit rfl ?_
  refine S.seq (S.seq (S.region rfl ?_))
  refine O.op (.p rfl) (.as rfl) ?_
  refine O.nil ?_
  refine S.block ?_
  refine S.unroll ?_
  refine S.seq (S.seq (S.region rfl ?_))
  refine O.op (.p rfl) (.mv rfl) ?_
  refine O.op (.p rfl) (.mv rfl) ?_
  refine O.op (.p rfl) (.len rfl Go.Proofs.Tryz.underlying53 rfl) ?_
  refine O.op (.p rfl) (.lss rfl rfl) ?_
  refine O.nil ?_
  first | refine S.condD rfl (fun h78 => ?_) (fun h78 => ?_) | refine S.condB rfl (fun h78 => ?_) (fun h78 => ?_)
  · exact absurd (by assumption) (by simp)
  refine S.exit rfl ?_
  refine S.seq (S.seq (S.region rfl ?_))
  refine O.op (.p rfl) (.as rfl) ?_
  refine O.nil ?_
  refine S.block ?_
  refine S.unroll ?_
  refine S.seq (S.seq (S.region rfl ?_))
  refine O.op (.p rfl) (.mv rfl) ?_
  refine O.op (.p rfl) (.mv rfl) ?_
  refine O.op (.p rfl) (.len rfl Go.Proofs.Tryz.underlying53 rfl) ?_
  refine O.op (.p rfl) (.lss rfl rfl) ?_
  refine O.nil ?_
  first | refine S.condD rfl (fun h130 => ?_) (fun h130 => ?_) | refine S.condB rfl (fun h130 => ?_) (fun h130 => ?_)
  · exact absurd (by assumption) (by simp)
  refine S.exit rfl ?_
  refine S.seq (S.seq (S.region rfl ?_))
  refine O.op (.p rfl) (.as rfl) ?_
  refine O.nil ?_
  refine S.block ?_
  refine S.unroll ?_
  refine S.seq (S.seq (S.region rfl ?_))
  refine O.op (.p rfl) (.mv rfl) ?_
  refine O.op (.p rfl) (.mv rfl) ?_
  refine O.op (.p rfl) (.len rfl Go.Proofs.Tryz.underlying53 rfl) ?_
  refine O.op (.p rfl) (.lss rfl rfl) ?_
  refine O.nil ?_
  first | refine S.condD rfl (fun h160 => ?_) (fun h160 => ?_) | refine S.condB rfl (fun h160 => ?_) (fun h160 => ?_)
  · exact absurd (by assumption) (by simp)
  refine S.exit rfl ?_
  refine S.seq (S.region rfl ?_)
  refine O.op (.p rfl) (.as rfl) ?_
  refine O.nil ?_
  refine S.ret Go.Proofs.Tryz.results53 rfl fun w hw => Holds.end_ hR hw ?_
  exact ⟨_, ⟨rfl, rfl⟩, by repeat (first | exact Picks.all | exact Picks.nil | (apply Picks.cons; focus (repeat (first | exact Sel.here | apply Sel.there))) | apply Picks.skip)⟩
theorem flatWords_0 {r : Fr} : Con Go.Proofs.Tryz.prog 54 #[.slice none 0 0] r [] (Ret fun v η => v = .bool true ∧ η = []) := by
  refine Con.of (n := 200) [.slice none 0 0] rfl Go.Proofs.Tryz.func54 rfl rfl rfl fun g hg R hR => ?_
  refine S.seq (S.region rfl ?_)
  refine O.op (.p rfl) (.as rfl) ?_
  refine O.nil ?_
  refine S.seq (S.seq (S.region rfl ?_))
  refine O.op (.p rfl) (.as rfl) ?_
  refine O.nil ?_
  refine S.block ?_
  refine S.unroll ?_
  refine S.seq (S.seq (S.region rfl ?_))
  refine O.op (.p rfl) (.mv rfl) ?_
  refine O.op (.p rfl) (.mv rfl) ?_
  refine O.op (.p rfl) (.len rfl Go.Proofs.Tryz.underlying54 rfl) ?_
  refine O.op (.p rfl) (.lss rfl rfl) ?_
  refine O.nil ?_
  first | refine S.condD rfl (fun h19 => ?_) (fun h19 => ?_) | refine S.condB rfl (fun h19 => ?_) (fun h19 => ?_)
  · exact absurd (by assumption) (by simp)
  refine S.exit rfl ?_
  refine S.seq (S.region rfl ?_)
  refine O.op (.p rfl) (.mv rfl) ?_
  refine O.op (.p rfl) (.len rfl Go.Proofs.Tryz.underlying54 rfl) ?_
  refine O.opE (.p rfl) (.makeP (T := Rp.val) (.slice none 0 0) (m := 0) Go.Proofs.Tryz.underlying54 FactKit4.elem124 (by decide) ⟨rfl, rfl⟩ rfl rfl rfl rfl (by decide) (by decide)) ?_
  rintro _ _ ⟨a43, c43, rfl, rfl⟩
  refine O.op (.p rfl) (.as rfl) ?_
  refine O.nil ?_
  refine S.seq (S.seq (S.region rfl ?_))
  refine O.op (.p rfl) (.as rfl) ?_
  refine O.nil ?_
  refine S.block ?_
  refine S.unroll ?_
  refine S.seq (S.seq (S.region rfl ?_))
  refine O.op (.p rfl) (.mv rfl) ?_
  refine O.op (.p rfl) (.mv rfl) ?_
  refine O.op (.p rfl) (.len rfl Go.Proofs.Tryz.underlying54 rfl) ?_
  refine O.op (.p rfl) (.lss rfl rfl) ?_
  refine O.nil ?_
  first | refine S.condD rfl (fun h47 => ?_) (fun h47 => ?_) | refine S.condB rfl (fun h47 => ?_) (fun h47 => ?_)
  · exact absurd (by assumption) (by simp)
  refine S.exit rfl ?_
  refine S.seq (S.seq (S.region rfl ?_))
  refine O.op (.p rfl) (.as rfl) ?_
  refine O.nil ?_
  refine S.block ?_
  refine S.unroll ?_
  refine S.seq (S.seq (S.region rfl ?_))
  refine O.op (.p rfl) (.mv rfl) ?_
  refine O.op (.p rfl) (.mv rfl) ?_
  refine O.op (.p rfl) (.len rfl Go.Proofs.Tryz.underlying54 rfl) ?_
  refine O.op (.p rfl) (.lss rfl rfl) ?_
  refine O.nil ?_
  first | refine S.condD rfl (fun h78 => ?_) (fun h78 => ?_) | refine S.condB rfl (fun h78 => ?_) (fun h78 => ?_)
  · exact absurd (by assumption) (by simp)
  refine S.exit rfl ?_
  refine S.seq (S.seq (S.region rfl ?_))
  refine O.op (.p rfl) (.as rfl) ?_
  refine O.nil ?_
  refine S.block ?_
  refine S.unroll ?_
  refine S.seq (S.seq (S.region rfl ?_))
  refine O.op (.p rfl) (.mv rfl) ?_
  refine O.op (.p rfl) (.mv rfl) ?_
  refine O.op (.p rfl) (.len rfl Go.Proofs.Tryz.underlying54 rfl) ?_
  refine O.op (.p rfl) (.lss rfl rfl) ?_
  refine O.nil ?_
  first | refine S.condD rfl (fun h130 => ?_) (fun h130 => ?_) | refine S.condB rfl (fun h130 => ?_) (fun h130 => ?_)
  · exact absurd (by assumption) (by simp)
  refine S.exit rfl ?_
  refine S.seq (S.seq (S.region rfl ?_))
  refine O.op (.p rfl) (.as rfl) ?_
  refine O.nil ?_
  refine S.block ?_
  refine S.unroll ?_
  refine S.seq (S.seq (S.region rfl ?_))
  refine O.op (.p rfl) (.mv rfl) ?_
  refine O.op (.p rfl) (.mv rfl) ?_
  refine O.op (.p rfl) (.len rfl Go.Proofs.Tryz.underlying54 rfl) ?_
  refine O.op (.p rfl) (.lss rfl rfl) ?_
  refine O.nil ?_
  first | refine S.condD rfl (fun h160 => ?_) (fun h160 => ?_) | refine S.condB rfl (fun h160 => ?_) (fun h160 => ?_)
  · exact absurd (by assumption) (by simp)
  refine S.exit rfl ?_
  refine S.seq (S.region rfl ?_)
  refine O.op (.p rfl) (.as rfl) ?_
  refine O.nil ?_
  refine S.ret Go.Proofs.Tryz.results54 rfl fun w hw => Holds.end_ hR hw ?_
  exact ⟨_, ⟨rfl, rfl⟩, by repeat (first | exact Picks.all | exact Picks.nil | (apply Picks.cons; focus (repeat (first | exact Sel.here | apply Sel.there))) | apply Picks.skip)⟩
theorem flatInts_0 {r : Fr} : Con Go.Proofs.Tryz.prog 55 #[.slice none 0 0] r [] (Ret fun v η => v = .bool true ∧ η = []) := by
  refine Con.of (n := 193) [.slice none 0 0] rfl Go.Proofs.Tryz.func55 rfl rfl rfl fun g hg R hR => ?_
  refine S.seq (S.region rfl ?_)
  refine O.op (.p rfl) (.as rfl) ?_
  refine O.nil ?_
  refine S.seq (S.seq (S.region rfl ?_))
  refine O.op (.p rfl) (.as rfl) ?_
  refine O.nil ?_
  refine S.block ?_
  refine S.unroll ?_
  refine S.seq (S.seq (S.region rfl ?_))
  refine O.op (.p rfl) (.mv rfl) ?_
  refine O.op (.p rfl) (.mv rfl) ?_
  refine O.op (.p rfl) (.len rfl Go.Proofs.Tryz.underlying55 rfl) ?_
  refine O.op (.p rfl) (.lss rfl rfl) ?_
  refine O.nil ?_
  first | refine S.condD rfl (fun h19 => ?_) (fun h19 => ?_) | refine S.condB rfl (fun h19 => ?_) (fun h19 => ?_)
  · exact absurd (by assumption) (by simp)
  refine S.exit rfl ?_
  refine S.seq (S.region rfl ?_)
  refine O.op (.p rfl) (.mv rfl) ?_
  refine O.op (.p rfl) (.len rfl Go.Proofs.Tryz.underlying55 rfl) ?_
  refine O.opE (.p rfl) (.makeP (T := Rp.val) (.slice none 0 0) (m := 0) Go.Proofs.Tryz.underlying55 FactKit4.elem46 (by decide) ⟨rfl, rfl⟩ rfl rfl rfl rfl (by decide) (by decide)) ?_
  rintro _ _ ⟨a42, c42, rfl, rfl⟩
  refine O.op (.p rfl) (.as rfl) ?_
  refine O.nil ?_
  refine S.seq (S.seq (S.region rfl ?_))
  refine O.op (.p rfl) (.as rfl) ?_
  refine O.nil ?_
  refine S.block ?_
  refine S.unroll ?_
  refine S.seq (S.seq (S.region rfl ?_))
  refine O.op (.p rfl) (.mv rfl) ?_
  refine O.op (.p rfl) (.mv rfl) ?_
  refine O.op (.p rfl) (.len rfl Go.Proofs.Tryz.underlying55 rfl) ?_
  refine O.op (.p rfl) (.lss rfl rfl) ?_
  refine O.nil ?_
  first | refine S.condD rfl (fun h46 => ?_) (fun h46 => ?_) | refine S.condB rfl (fun h46 => ?_) (fun h46 => ?_)
  · exact absurd (by assumption) (by simp)
  refine S.exit rfl ?_
  refine S.seq (S.seq (S.region rfl ?_))
  refine O.op (.p rfl) (.as rfl) ?_
  refine O.nil ?_
  refine S.block ?_
  refine S.unroll ?_
  refine S.seq (S.seq (S.region rfl ?_))
  refine O.op (.p rfl) (.mv rfl) ?_
  refine O.op (.p rfl) (.mv rfl) ?_
  refine O.op (.p rfl) (.len rfl Go.Proofs.Tryz.underlying55 rfl) ?_
  refine O.op (.p rfl) (.lss rfl rfl) ?_
  refine O.nil ?_
  first | refine S.condD rfl (fun h76 => ?_) (fun h76 => ?_) | refine S.condB rfl (fun h76 => ?_) (fun h76 => ?_)
  · exact absurd (by assumption) (by simp)
  refine S.exit rfl ?_
  refine S.seq (S.seq (S.region rfl ?_))
  refine O.op (.p rfl) (.as rfl) ?_
  refine O.nil ?_
  refine S.block ?_
  refine S.unroll ?_
  refine S.seq (S.seq (S.region rfl ?_))
  refine O.op (.p rfl) (.mv rfl) ?_
  refine O.op (.p rfl) (.mv rfl) ?_
  refine O.op (.p rfl) (.len rfl Go.Proofs.Tryz.underlying55 rfl) ?_
  refine O.op (.p rfl) (.lss rfl rfl) ?_
  refine O.nil ?_
  first | refine S.condD rfl (fun h126 => ?_) (fun h126 => ?_) | refine S.condB rfl (fun h126 => ?_) (fun h126 => ?_)
  · exact absurd (by assumption) (by simp)
  refine S.exit rfl ?_
  refine S.seq (S.seq (S.region rfl ?_))
  refine O.op (.p rfl) (.as rfl) ?_
  refine O.nil ?_
  refine S.block ?_
  refine S.unroll ?_
  refine S.seq (S.seq (S.region rfl ?_))
  refine O.op (.p rfl) (.mv rfl) ?_
  refine O.op (.p rfl) (.mv rfl) ?_
  refine O.op (.p rfl) (.len rfl Go.Proofs.Tryz.underlying55 rfl) ?_
  refine O.op (.p rfl) (.lss rfl rfl) ?_
  refine O.nil ?_
  first | refine S.condD rfl (fun h155 => ?_) (fun h155 => ?_) | refine S.condB rfl (fun h155 => ?_) (fun h155 => ?_)
  · exact absurd (by assumption) (by simp)
  refine S.exit rfl ?_
  refine S.seq (S.region rfl ?_)
  refine O.op (.p rfl) (.as rfl) ?_
  refine O.nil ?_
  refine S.ret Go.Proofs.Tryz.results55 rfl fun w hw => Holds.end_ hR hw ?_
  exact ⟨_, ⟨rfl, rfl⟩, by repeat (first | exact Picks.all | exact Picks.nil | (apply Picks.cons; focus (repeat (first | exact Sel.here | apply Sel.there))) | apply Picks.skip)⟩
theorem flatLongs_0 {r : Fr} : Con Go.Proofs.Tryz.prog 56 #[.slice none 0 0] r [] (Ret fun v η => v = .bool true ∧ η = []) := by
  refine Con.of (n := 193) [.slice none 0 0] rfl Go.Proofs.Tryz.func56 rfl rfl rfl fun g hg R hR => ?_
  refine S.seq (S.region rfl ?_)
  refine O.op (.p rfl) (.as rfl) ?_
  refine O.nil ?_
  refine S.seq (S.seq (S.region rfl ?_))
  refine O.op (.p rfl) (.as rfl) ?_
  refine O.nil ?_
  refine S.block ?_
  refine S.unroll ?_
  refine S.seq (S.seq (S.region rfl ?_))
  refine O.op (.p rfl) (.mv rfl) ?_
  refine O.op (.p rfl) (.mv rfl) ?_
  refine O.op (.p rfl) (.len rfl Go.Proofs.Tryz.underlying56 rfl) ?_
  refine O.op (.p rfl) (.lss rfl rfl) ?_
  refine O.nil ?_
  first | refine S.condD rfl (fun h19 => ?_) (fun h19 => ?_) | refine S.condB rfl (fun h19 => ?_) (fun h19 => ?_)
  · exact absurd (by assumption) (by simp)
  refine S.exit rfl ?_
  refine S.seq (S.region rfl ?_)
  refine O.op (.p rfl) (.mv rfl) ?_
  refine O.op (.p rfl) (.len rfl Go.Proofs.Tryz.underlying56 rfl) ?_
  refine O.opE (.p rfl) (.makeP (T := Rp.val) (.slice none 0 0) (m := 0) Go.Proofs.Tryz.underlying56 FactKit4.elem125 (by decide) ⟨rfl, rfl⟩ rfl rfl rfl rfl (by decide) (by decide)) ?_
  rintro _ _ ⟨a42, c42, rfl, rfl⟩
  refine O.op (.p rfl) (.as rfl) ?_
  refine O.nil ?_
  refine S.seq (S.seq (S.region rfl ?_))
  refine O.op (.p rfl) (.as rfl) ?_
  refine O.nil ?_
  refine S.block ?_
  refine S.unroll ?_
  refine S.seq (S.seq (S.region rfl ?_))
  refine O.op (.p rfl) (.mv rfl) ?_
  refine O.op (.p rfl) (.mv rfl) ?_
  refine O.op (.p rfl) (.len rfl Go.Proofs.Tryz.underlying56 rfl) ?_
  refine O.op (.p rfl) (.lss rfl rfl) ?_
  refine O.nil ?_
  first | refine S.condD rfl (fun h46 => ?_) (fun h46 => ?_) | refine S.condB rfl (fun h46 => ?_) (fun h46 => ?_)
  · exact absurd (by assumption) (by simp)
  refine S.exit rfl ?_
  refine S.seq (S.seq (S.region rfl ?_))
  refine O.op (.p rfl) (.as rfl) ?_
  refine O.nil ?_
  refine S.block ?_
  refine S.unroll ?_
  refine S.seq (S.seq (S.region rfl ?_))
  refine O.op (.p rfl) (.mv rfl) ?_
  refine O.op (.p rfl) (.mv rfl) ?_
  refine O.op (.p rfl) (.len rfl Go.Proofs.Tryz.underlying56 rfl) ?_
  refine O.op (.p rfl) (.lss rfl rfl) ?_
  refine O.nil ?_
  first | refine S.condD rfl (fun h76 => ?_) (fun h76 => ?_) | refine S.condB rfl (fun h76 => ?_) (fun h76 => ?_)
  · exact absurd (by assumption) (by simp)
  refine S.exit rfl ?_
  refine S.seq (S.seq (S.region rfl ?_))
  refine O.op (.p rfl) (.as rfl) ?_
  refine O.nil ?_
  refine S.block ?_
  refine S.unroll ?_
  refine S.seq (S.seq (S.region rfl ?_))
  refine O.op (.p rfl) (.mv rfl) ?_
  refine O.op (.p rfl) (.mv rfl) ?_
  refine O.op (.p rfl) (.len rfl Go.Proofs.Tryz.underlying56 rfl) ?_
  refine O.op (.p rfl) (.lss rfl rfl) ?_
  refine O.nil ?_
  first | refine S.condD rfl (fun h126 => ?_) (fun h126 => ?_) | refine S.condB rfl (fun h126 => ?_) (fun h126 => ?_)
  · exact absurd (by assumption) (by simp)
  refine S.exit rfl ?_
  refine S.seq (S.seq (S.region rfl ?_))
  refine O.op (.p rfl) (.as rfl) ?_
  refine O.nil ?_
  refine S.block ?_
  refine S.unroll ?_
  refine S.seq (S.seq (S.region rfl ?_))
  refine O.op (.p rfl) (.mv rfl) ?_
  refine O.op (.p rfl) (.mv rfl) ?_
  refine O.op (.p rfl) (.len rfl Go.Proofs.Tryz.underlying56 rfl) ?_
  refine O.op (.p rfl) (.lss rfl rfl) ?_
  refine O.nil ?_
  first | refine S.condD rfl (fun h155 => ?_) (fun h155 => ?_) | refine S.condB rfl (fun h155 => ?_) (fun h155 => ?_)
  · exact absurd (by assumption) (by simp)
  refine S.exit rfl ?_
  refine S.seq (S.region rfl ?_)
  refine O.op (.p rfl) (.as rfl) ?_
  refine O.nil ?_
  refine S.ret Go.Proofs.Tryz.results56 rfl fun w hw => Holds.end_ hR hw ?_
  exact ⟨_, ⟨rfl, rfl⟩, by repeat (first | exact Picks.all | exact Picks.nil | (apply Picks.cons; focus (repeat (first | exact Sel.here | apply Sel.there))) | apply Picks.skip)⟩
theorem flatTexts_0 {r : Fr} : Con Go.Proofs.Tryz.prog 57 #[.slice none 0 0] r [] (Ret fun v η => v = .bool true ∧ η = []) := by
  refine Con.of (n := 193) [.slice none 0 0] rfl Go.Proofs.Tryz.func57 rfl rfl rfl fun g hg R hR => ?_
  refine S.seq (S.region rfl ?_)
  refine O.op (.p rfl) (.as rfl) ?_
  refine O.nil ?_
  refine S.seq (S.seq (S.region rfl ?_))
  refine O.op (.p rfl) (.as rfl) ?_
  refine O.nil ?_
  refine S.block ?_
  refine S.unroll ?_
  refine S.seq (S.seq (S.region rfl ?_))
  refine O.op (.p rfl) (.mv rfl) ?_
  refine O.op (.p rfl) (.mv rfl) ?_
  refine O.op (.p rfl) (.len rfl Go.Proofs.Tryz.underlying57 rfl) ?_
  refine O.op (.p rfl) (.lss rfl rfl) ?_
  refine O.nil ?_
  first | refine S.condD rfl (fun h19 => ?_) (fun h19 => ?_) | refine S.condB rfl (fun h19 => ?_) (fun h19 => ?_)
  · exact absurd (by assumption) (by simp)
  refine S.exit rfl ?_
  refine S.seq (S.region rfl ?_)
  refine O.op (.p rfl) (.mv rfl) ?_
  refine O.op (.p rfl) (.len rfl Go.Proofs.Tryz.underlying57 rfl) ?_
  refine O.opE (.p rfl) (.makeP (T := Rp.val) (.slice none 0 0) (m := 0) Go.Proofs.Tryz.underlying57 FactKit4.elem126 (by decide) ⟨rfl, rfl⟩ rfl rfl rfl rfl (by decide) (by decide)) ?_
  rintro _ _ ⟨a42, c42, rfl, rfl⟩
  refine O.op (.p rfl) (.as rfl) ?_
  refine O.nil ?_
  refine S.seq (S.seq (S.region rfl ?_))
  refine O.op (.p rfl) (.as rfl) ?_
  refine O.nil ?_
  refine S.block ?_
  refine S.unroll ?_
  refine S.seq (S.seq (S.region rfl ?_))
  refine O.op (.p rfl) (.mv rfl) ?_
  refine O.op (.p rfl) (.mv rfl) ?_
  refine O.op (.p rfl) (.len rfl Go.Proofs.Tryz.underlying57 rfl) ?_
  refine O.op (.p rfl) (.lss rfl rfl) ?_
  refine O.nil ?_
  first | refine S.condD rfl (fun h46 => ?_) (fun h46 => ?_) | refine S.condB rfl (fun h46 => ?_) (fun h46 => ?_)
  · exact absurd (by assumption) (by simp)
  refine S.exit rfl ?_
  refine S.seq (S.seq (S.region rfl ?_))
  refine O.op (.p rfl) (.as rfl) ?_
  refine O.nil ?_
  refine S.block ?_
  refine S.unroll ?_
  refine S.seq (S.seq (S.region rfl ?_))
  refine O.op (.p rfl) (.mv rfl) ?_
  refine O.op (.p rfl) (.mv rfl) ?_
  refine O.op (.p rfl) (.len rfl Go.Proofs.Tryz.underlying57 rfl) ?_
  refine O.op (.p rfl) (.lss rfl rfl) ?_
  refine O.nil ?_
  first | refine S.condD rfl (fun h76 => ?_) (fun h76 => ?_) | refine S.condB rfl (fun h76 => ?_) (fun h76 => ?_)
  · exact absurd (by assumption) (by simp)
  refine S.exit rfl ?_
  refine S.seq (S.seq (S.region rfl ?_))
  refine O.op (.p rfl) (.as rfl) ?_
  refine O.nil ?_
  refine S.block ?_
  refine S.unroll ?_
  refine S.seq (S.seq (S.region rfl ?_))
  refine O.op (.p rfl) (.mv rfl) ?_
  refine O.op (.p rfl) (.mv rfl) ?_
  refine O.op (.p rfl) (.len rfl Go.Proofs.Tryz.underlying57 rfl) ?_
  refine O.op (.p rfl) (.lss rfl rfl) ?_
  refine O.nil ?_
  first | refine S.condD rfl (fun h126 => ?_) (fun h126 => ?_) | refine S.condB rfl (fun h126 => ?_) (fun h126 => ?_)
  · exact absurd (by assumption) (by simp)
  refine S.exit rfl ?_
  refine S.seq (S.seq (S.region rfl ?_))
  refine O.op (.p rfl) (.as rfl) ?_
  refine O.nil ?_
  refine S.block ?_
  refine S.unroll ?_
  refine S.seq (S.seq (S.region rfl ?_))
  refine O.op (.p rfl) (.mv rfl) ?_
  refine O.op (.p rfl) (.mv rfl) ?_
  refine O.op (.p rfl) (.len rfl Go.Proofs.Tryz.underlying57 rfl) ?_
  refine O.op (.p rfl) (.lss rfl rfl) ?_
  refine O.nil ?_
  first | refine S.condD rfl (fun h155 => ?_) (fun h155 => ?_) | refine S.condB rfl (fun h155 => ?_) (fun h155 => ?_)
  · exact absurd (by assumption) (by simp)
  refine S.exit rfl ?_
  refine S.seq (S.region rfl ?_)
  refine O.op (.p rfl) (.as rfl) ?_
  refine O.nil ?_
  refine S.ret Go.Proofs.Tryz.results57 rfl fun w hw => Holds.end_ hR hw ?_
  exact ⟨_, ⟨rfl, rfl⟩, by repeat (first | exact Picks.all | exact Picks.nil | (apply Picks.cons; focus (repeat (first | exact Sel.here | apply Sel.there))) | apply Picks.skip)⟩
theorem flatBytes_0 {r : Fr} : Con Go.Proofs.Tryz.prog 58 #[.slice none 0 0] r [] (Ret fun v η => v = .bool true ∧ η = []) := by
  refine Con.of (n := 193) [.slice none 0 0] rfl Go.Proofs.Tryz.func58 rfl rfl rfl fun g hg R hR => ?_
  refine S.seq (S.region rfl ?_)
  refine O.op (.p rfl) (.as rfl) ?_
  refine O.nil ?_
  refine S.seq (S.seq (S.region rfl ?_))
  refine O.op (.p rfl) (.as rfl) ?_
  refine O.nil ?_
  refine S.block ?_
  refine S.unroll ?_
  refine S.seq (S.seq (S.region rfl ?_))
  refine O.op (.p rfl) (.mv rfl) ?_
  refine O.op (.p rfl) (.mv rfl) ?_
  refine O.op (.p rfl) (.len rfl Go.Proofs.Tryz.underlying22 rfl) ?_
  refine O.op (.p rfl) (.lss rfl rfl) ?_
  refine O.nil ?_
  first | refine S.condD rfl (fun h19 => ?_) (fun h19 => ?_) | refine S.condB rfl (fun h19 => ?_) (fun h19 => ?_)
  · exact absurd (by assumption) (by simp)
  refine S.exit rfl ?_
  refine S.seq (S.region rfl ?_)
  refine O.op (.p rfl) (.mv rfl) ?_
  refine O.op (.p rfl) (.len rfl Go.Proofs.Tryz.underlying22 rfl) ?_
  refine O.opE (.p rfl) (.makeP (T := Rp.val) (.slice none 0 0) (m := 0) Go.Proofs.Tryz.underlying22 FactKit4.elem23 (by decide) ⟨rfl, rfl⟩ rfl rfl rfl rfl (by decide) (by decide)) ?_
  rintro _ _ ⟨a42, c42, rfl, rfl⟩
  refine O.op (.p rfl) (.as rfl) ?_
  refine O.nil ?_
  refine S.seq (S.seq (S.region rfl ?_))
  refine O.op (.p rfl) (.as rfl) ?_
  refine O.nil ?_
  refine S.block ?_
  refine S.unroll ?_
  refine S.seq (S.seq (S.region rfl ?_))
  refine O.op (.p rfl) (.mv rfl) ?_
  refine O.op (.p rfl) (.mv rfl) ?_
  refine O.op (.p rfl) (.len rfl Go.Proofs.Tryz.underlying22 rfl) ?_
  refine O.op (.p rfl) (.lss rfl rfl) ?_
  refine O.nil ?_
  first | refine S.condD rfl (fun h46 => ?_) (fun h46 => ?_) | refine S.condB rfl (fun h46 => ?_) (fun h46 => ?_)
  · exact absurd (by assumption) (by simp)
  refine S.exit rfl ?_
  refine S.seq (S.seq (S.region rfl ?_))
  refine O.op (.p rfl) (.as rfl) ?_
  refine O.nil ?_
  refine S.block ?_
  refine S.unroll ?_
  refine S.seq (S.seq (S.region rfl ?_))
  refine O.op (.p rfl) (.mv rfl) ?_
  refine O.op (.p rfl) (.mv rfl) ?_
  refine O.op (.p rfl) (.len rfl Go.Proofs.Tryz.underlying22 rfl) ?_
  refine O.op (.p rfl) (.lss rfl rfl) ?_
  refine O.nil ?_
  first | refine S.condD rfl (fun h76 => ?_) (fun h76 => ?_) | refine S.condB rfl (fun h76 => ?_) (fun h76 => ?_)
  · exact absurd (by assumption) (by simp)
  refine S.exit rfl ?_
  refine S.seq (S.seq (S.region rfl ?_))
  refine O.op (.p rfl) (.as rfl) ?_
  refine O.nil ?_
  refine S.block ?_
  refine S.unroll ?_
  refine S.seq (S.seq (S.region rfl ?_))
  refine O.op (.p rfl) (.mv rfl) ?_
  refine O.op (.p rfl) (.mv rfl) ?_
  refine O.op (.p rfl) (.len rfl Go.Proofs.Tryz.underlying22 rfl) ?_
  refine O.op (.p rfl) (.lss rfl rfl) ?_
  refine O.nil ?_
  first | refine S.condD rfl (fun h126 => ?_) (fun h126 => ?_) | refine S.condB rfl (fun h126 => ?_) (fun h126 => ?_)
  · exact absurd (by assumption) (by simp)
  refine S.exit rfl ?_
  refine S.seq (S.seq (S.region rfl ?_))
  refine O.op (.p rfl) (.as rfl) ?_
  refine O.nil ?_
  refine S.block ?_
  refine S.unroll ?_
  refine S.seq (S.seq (S.region rfl ?_))
  refine O.op (.p rfl) (.mv rfl) ?_
  refine O.op (.p rfl) (.mv rfl) ?_
  refine O.op (.p rfl) (.len rfl Go.Proofs.Tryz.underlying22 rfl) ?_
  refine O.op (.p rfl) (.lss rfl rfl) ?_
  refine O.nil ?_
  first | refine S.condD rfl (fun h155 => ?_) (fun h155 => ?_) | refine S.condB rfl (fun h155 => ?_) (fun h155 => ?_)
  · exact absurd (by assumption) (by simp)
  refine S.exit rfl ?_
  refine S.seq (S.region rfl ?_)
  refine O.op (.p rfl) (.as rfl) ?_
  refine O.nil ?_
  refine S.ret Go.Proofs.Tryz.results58 rfl fun w hw => Holds.end_ hR hw ?_
  exact ⟨_, ⟨rfl, rfl⟩, by repeat (first | exact Picks.all | exact Picks.nil | (apply Picks.cons; focus (repeat (first | exact Sel.here | apply Sel.there))) | apply Picks.skip)⟩
theorem flatTruths_0 {r : Fr} : Con Go.Proofs.Tryz.prog 59 #[.slice none 0 0] r [] (Ret fun v η => v = .bool true ∧ η = []) := by
  refine Con.of (n := 207) [.slice none 0 0] rfl Go.Proofs.Tryz.func59 rfl rfl rfl fun g hg R hR => ?_
  refine S.seq (S.region rfl ?_)
  refine O.op (.p rfl) (.as rfl) ?_
  refine O.nil ?_
  refine S.seq (S.seq (S.region rfl ?_))
  refine O.op (.p rfl) (.as rfl) ?_
  refine O.nil ?_
  refine S.block ?_
  refine S.unroll ?_
  refine S.seq (S.seq (S.region rfl ?_))
  refine O.op (.p rfl) (.mv rfl) ?_
  refine O.op (.p rfl) (.mv rfl) ?_
  refine O.op (.p rfl) (.len rfl Go.Proofs.Tryz.underlying58 rfl) ?_
  refine O.op (.p rfl) (.lss rfl rfl) ?_
  refine O.nil ?_
  first | refine S.condD rfl (fun h19 => ?_) (fun h19 => ?_) | refine S.condB rfl (fun h19 => ?_) (fun h19 => ?_)
  · exact absurd (by assumption) (by simp)
  refine S.exit rfl ?_
  refine S.seq (S.region rfl ?_)
  refine O.op (.p rfl) (.mv rfl) ?_
  refine O.op (.p rfl) (.len rfl Go.Proofs.Tryz.underlying58 rfl) ?_
  refine O.opE (.p rfl) (.makeP (T := Rp.val) (.slice none 0 0) (m := 0) Go.Proofs.Tryz.underlying58 FactKit4.elem127 (by decide) ⟨rfl, rfl⟩ rfl rfl rfl rfl (by decide) (by decide)) ?_
  rintro _ _ ⟨a44, c44, rfl, rfl⟩
  refine O.op (.p rfl) (.as rfl) ?_
  refine O.nil ?_
  refine S.seq (S.seq (S.region rfl ?_))
  refine O.op (.p rfl) (.as rfl) ?_
  refine O.nil ?_
  refine S.block ?_
  refine S.unroll ?_
  refine S.seq (S.seq (S.region rfl ?_))
  refine O.op (.p rfl) (.mv rfl) ?_
  refine O.op (.p rfl) (.mv rfl) ?_
  refine O.op (.p rfl) (.len rfl Go.Proofs.Tryz.underlying58 rfl) ?_
  refine O.op (.p rfl) (.lss rfl rfl) ?_
  refine O.nil ?_
  first | refine S.condD rfl (fun h48 => ?_) (fun h48 => ?_) | refine S.condB rfl (fun h48 => ?_) (fun h48 => ?_)
  · exact absurd (by assumption) (by simp)
  refine S.exit rfl ?_
  refine S.seq (S.seq (S.region rfl ?_))
  refine O.op (.p rfl) (.as rfl) ?_
  refine O.nil ?_
  refine S.block ?_
  refine S.unroll ?_
  refine S.seq (S.seq (S.region rfl ?_))
  refine O.op (.p rfl) (.mv rfl) ?_
  refine O.op (.p rfl) (.mv rfl) ?_
  refine O.op (.p rfl) (.len rfl Go.Proofs.Tryz.underlying58 rfl) ?_
  refine O.op (.p rfl) (.lss rfl rfl) ?_
  refine O.nil ?_
  first | refine S.condD rfl (fun h80 => ?_) (fun h80 => ?_) | refine S.condB rfl (fun h80 => ?_) (fun h80 => ?_)
  · exact absurd (by assumption) (by simp)
  refine S.exit rfl ?_
  refine S.seq (S.seq (S.region rfl ?_))
  refine O.op (.p rfl) (.as rfl) ?_
  refine O.nil ?_
  refine S.block ?_
  refine S.unroll ?_
  refine S.seq (S.seq (S.region rfl ?_))
  refine O.op (.p rfl) (.mv rfl) ?_
  refine O.op (.p rfl) (.mv rfl) ?_
  refine O.op (.p rfl) (.len rfl Go.Proofs.Tryz.underlying58 rfl) ?_
  refine O.op (.p rfl) (.lss rfl rfl) ?_
  refine O.nil ?_
  first | refine S.condD rfl (fun h134 => ?_) (fun h134 => ?_) | refine S.condB rfl (fun h134 => ?_) (fun h134 => ?_)
  · exact absurd (by assumption) (by simp)
  refine S.exit rfl ?_
  refine S.seq (S.seq (S.region rfl ?_))
  refine O.op (.p rfl) (.as rfl) ?_
  refine O.nil ?_
  refine S.block ?_
  refine S.unroll ?_
  refine S.seq (S.seq (S.region rfl ?_))
  refine O.op (.p rfl) (.mv rfl) ?_
  refine O.op (.p rfl) (.mv rfl) ?_
  refine O.op (.p rfl) (.len rfl Go.Proofs.Tryz.underlying58 rfl) ?_
  refine O.op (.p rfl) (.lss rfl rfl) ?_
  refine O.nil ?_
  first | refine S.condD rfl (fun h165 => ?_) (fun h165 => ?_) | refine S.condB rfl (fun h165 => ?_) (fun h165 => ?_)
  · exact absurd (by assumption) (by simp)
  refine S.exit rfl ?_
  refine S.seq (S.region rfl ?_)
  refine O.op (.p rfl) (.as rfl) ?_
  refine O.nil ?_
  refine S.ret Go.Proofs.Tryz.results59 rfl fun w hw => Holds.end_ hR hw ?_
  exact ⟨_, ⟨rfl, rfl⟩, by repeat (first | exact Picks.all | exact Picks.nil | (apply Picks.cons; focus (repeat (first | exact Sel.here | apply Sel.there))) | apply Picks.skip)⟩
theorem flatRows_0 {r : Fr} : Con Go.Proofs.Tryz.prog 60 #[.slice none 0 0] r [] (Ret fun v η => v = .bool true ∧ η = []) := by
  refine Con.of (n := 193) [.slice none 0 0] rfl Go.Proofs.Tryz.func60 rfl rfl rfl fun g hg R hR => ?_
  refine S.seq (S.region rfl ?_)
  refine O.op (.p rfl) (.as rfl) ?_
  refine O.nil ?_
  refine S.seq (S.seq (S.region rfl ?_))
  refine O.op (.p rfl) (.as rfl) ?_
  refine O.nil ?_
  refine S.block ?_
  refine S.unroll ?_
  refine S.seq (S.seq (S.region rfl ?_))
  refine O.op (.p rfl) (.mv rfl) ?_
  refine O.op (.p rfl) (.mv rfl) ?_
  refine O.op (.p rfl) (.len rfl Go.Proofs.Tryz.underlying59 rfl) ?_
  refine O.op (.p rfl) (.lss rfl rfl) ?_
  refine O.nil ?_
  first | refine S.condD rfl (fun h19 => ?_) (fun h19 => ?_) | refine S.condB rfl (fun h19 => ?_) (fun h19 => ?_)
  · exact absurd (by assumption) (by simp)
  refine S.exit rfl ?_
  refine S.seq (S.region rfl ?_)
  refine O.op (.p rfl) (.mv rfl) ?_
  refine O.op (.p rfl) (.len rfl Go.Proofs.Tryz.underlying59 rfl) ?_
  refine O.opE (.p rfl) (.makeP (T := Rp.val) (.slice none 0 0) (m := 0) Go.Proofs.Tryz.underlying59 FactKit4.elem22 (by decide) ⟨rfl, rfl⟩ rfl rfl rfl rfl (by decide) (by decide)) ?_
  rintro _ _ ⟨a42, c42, rfl, rfl⟩
  refine O.op (.p rfl) (.as rfl) ?_
  refine O.nil ?_
  refine S.seq (S.seq (S.region rfl ?_))
  refine O.op (.p rfl) (.as rfl) ?_
  refine O.nil ?_
  refine S.block ?_
  refine S.unroll ?_
  refine S.seq (S.seq (S.region rfl ?_))
  refine O.op (.p rfl) (.mv rfl) ?_
  refine O.op (.p rfl) (.mv rfl) ?_
  refine O.op (.p rfl) (.len rfl Go.Proofs.Tryz.underlying59 rfl) ?_
  refine O.op (.p rfl) (.lss rfl rfl) ?_
  refine O.nil ?_
  first | refine S.condD rfl (fun h46 => ?_) (fun h46 => ?_) | refine S.condB rfl (fun h46 => ?_) (fun h46 => ?_)
  · exact absurd (by assumption) (by simp)
  refine S.exit rfl ?_
  refine S.seq (S.seq (S.region rfl ?_))
  refine O.op (.p rfl) (.as rfl) ?_
  refine O.nil ?_
  refine S.block ?_
  refine S.unroll ?_
  refine S.seq (S.seq (S.region rfl ?_))
  refine O.op (.p rfl) (.mv rfl) ?_
  refine O.op (.p rfl) (.mv rfl) ?_
  refine O.op (.p rfl) (.len rfl Go.Proofs.Tryz.underlying59 rfl) ?_
  refine O.op (.p rfl) (.lss rfl rfl) ?_
  refine O.nil ?_
  first | refine S.condD rfl (fun h76 => ?_) (fun h76 => ?_) | refine S.condB rfl (fun h76 => ?_) (fun h76 => ?_)
  · exact absurd (by assumption) (by simp)
  refine S.exit rfl ?_
  refine S.seq (S.seq (S.region rfl ?_))
  refine O.op (.p rfl) (.as rfl) ?_
  refine O.nil ?_
  refine S.block ?_
  refine S.unroll ?_
  refine S.seq (S.seq (S.region rfl ?_))
  refine O.op (.p rfl) (.mv rfl) ?_
  refine O.op (.p rfl) (.mv rfl) ?_
  refine O.op (.p rfl) (.len rfl Go.Proofs.Tryz.underlying59 rfl) ?_
  refine O.op (.p rfl) (.lss rfl rfl) ?_
  refine O.nil ?_
  first | refine S.condD rfl (fun h126 => ?_) (fun h126 => ?_) | refine S.condB rfl (fun h126 => ?_) (fun h126 => ?_)
  · exact absurd (by assumption) (by simp)
  refine S.exit rfl ?_
  refine S.seq (S.seq (S.region rfl ?_))
  refine O.op (.p rfl) (.as rfl) ?_
  refine O.nil ?_
  refine S.block ?_
  refine S.unroll ?_
  refine S.seq (S.seq (S.region rfl ?_))
  refine O.op (.p rfl) (.mv rfl) ?_
  refine O.op (.p rfl) (.mv rfl) ?_
  refine O.op (.p rfl) (.len rfl Go.Proofs.Tryz.underlying59 rfl) ?_
  refine O.op (.p rfl) (.lss rfl rfl) ?_
  refine O.nil ?_
  first | refine S.condD rfl (fun h155 => ?_) (fun h155 => ?_) | refine S.condB rfl (fun h155 => ?_) (fun h155 => ?_)
  · exact absurd (by assumption) (by simp)
  refine S.exit rfl ?_
  refine S.seq (S.region rfl ?_)
  refine O.op (.p rfl) (.as rfl) ?_
  refine O.nil ?_
  refine S.ret Go.Proofs.Tryz.results60 rfl fun w hw => Holds.end_ hR hw ?_
  exact ⟨_, ⟨rfl, rfl⟩, by repeat (first | exact Picks.all | exact Picks.nil | (apply Picks.cons; focus (repeat (first | exact Sel.here | apply Sel.there))) | apply Picks.skip)⟩
theorem flatDots_0 {r : Fr} : Con Go.Proofs.Tryz.prog 61 #[.slice none 0 0] r [] (Ret fun v η => v = .bool true ∧ η = []) := by
  refine Con.of (n := 193) [.slice none 0 0] rfl Go.Proofs.Tryz.func61 rfl rfl rfl fun g hg R hR => ?_
  refine S.seq (S.region rfl ?_)
  refine O.op (.p rfl) (.as rfl) ?_
  refine O.nil ?_
  refine S.seq (S.seq (S.region rfl ?_))
  refine O.op (.p rfl) (.as rfl) ?_
  refine O.nil ?_
  refine S.block ?_
  refine S.unroll ?_
  refine S.seq (S.seq (S.region rfl ?_))
  refine O.op (.p rfl) (.mv rfl) ?_
  refine O.op (.p rfl) (.mv rfl) ?_
  refine O.op (.p rfl) (.len rfl Go.Proofs.Tryz.underlying60 rfl) ?_
  refine O.op (.p rfl) (.lss rfl rfl) ?_
  refine O.nil ?_
  first | refine S.condD rfl (fun h19 => ?_) (fun h19 => ?_) | refine S.condB rfl (fun h19 => ?_) (fun h19 => ?_)
  · exact absurd (by assumption) (by simp)
  refine S.exit rfl ?_
  refine S.seq (S.region rfl ?_)
  refine O.op (.p rfl) (.mv rfl) ?_
  refine O.op (.p rfl) (.len rfl Go.Proofs.Tryz.underlying60 rfl) ?_
  refine O.opE (.p rfl) (.makeP (T := Rp.val) (.slice none 0 0) (m := 0) Go.Proofs.Tryz.underlying60 FactKit4.elem128 (by decide) ⟨rfl, rfl⟩ rfl rfl rfl rfl (by decide) (by decide)) ?_
  rintro _ _ ⟨a42, c42, rfl, rfl⟩
  refine O.op (.p rfl) (.as rfl) ?_
  refine O.nil ?_
  refine S.seq (S.seq (S.region rfl ?_))
  refine O.op (.p rfl) (.as rfl) ?_
  refine O.nil ?_
  refine S.block ?_
  refine S.unroll ?_
  refine S.seq (S.seq (S.region rfl ?_))
  refine O.op (.p rfl) (.mv rfl) ?_
  refine O.op (.p rfl) (.mv rfl) ?_
  refine O.op (.p rfl) (.len rfl Go.Proofs.Tryz.underlying60 rfl) ?_
  refine O.op (.p rfl) (.lss rfl rfl) ?_
  refine O.nil ?_
  first | refine S.condD rfl (fun h46 => ?_) (fun h46 => ?_) | refine S.condB rfl (fun h46 => ?_) (fun h46 => ?_)
  · exact absurd (by assumption) (by simp)
  refine S.exit rfl ?_
  refine S.seq (S.seq (S.region rfl ?_))
  refine O.op (.p rfl) (.as rfl) ?_
  refine O.nil ?_
  refine S.block ?_
  refine S.unroll ?_
  refine S.seq (S.seq (S.region rfl ?_))
  refine O.op (.p rfl) (.mv rfl) ?_
  refine O.op (.p rfl) (.mv rfl) ?_
  refine O.op (.p rfl) (.len rfl Go.Proofs.Tryz.underlying60 rfl) ?_
  refine O.op (.p rfl) (.lss rfl rfl) ?_
  refine O.nil ?_
  first | refine S.condD rfl (fun h76 => ?_) (fun h76 => ?_) | refine S.condB rfl (fun h76 => ?_) (fun h76 => ?_)
  · exact absurd (by assumption) (by simp)
  refine S.exit rfl ?_
  refine S.seq (S.seq (S.region rfl ?_))
  refine O.op (.p rfl) (.as rfl) ?_
  refine O.nil ?_
  refine S.block ?_
  refine S.unroll ?_
  refine S.seq (S.seq (S.region rfl ?_))
  refine O.op (.p rfl) (.mv rfl) ?_
  refine O.op (.p rfl) (.mv rfl) ?_
  refine O.op (.p rfl) (.len rfl Go.Proofs.Tryz.underlying60 rfl) ?_
  refine O.op (.p rfl) (.lss rfl rfl) ?_
  refine O.nil ?_
  first | refine S.condD rfl (fun h126 => ?_) (fun h126 => ?_) | refine S.condB rfl (fun h126 => ?_) (fun h126 => ?_)
  · exact absurd (by assumption) (by simp)
  refine S.exit rfl ?_
  refine S.seq (S.seq (S.region rfl ?_))
  refine O.op (.p rfl) (.as rfl) ?_
  refine O.nil ?_
  refine S.block ?_
  refine S.unroll ?_
  refine S.seq (S.seq (S.region rfl ?_))
  refine O.op (.p rfl) (.mv rfl) ?_
  refine O.op (.p rfl) (.mv rfl) ?_
  refine O.op (.p rfl) (.len rfl Go.Proofs.Tryz.underlying60 rfl) ?_
  refine O.op (.p rfl) (.lss rfl rfl) ?_
  refine O.nil ?_
  first | refine S.condD rfl (fun h155 => ?_) (fun h155 => ?_) | refine S.condB rfl (fun h155 => ?_) (fun h155 => ?_)
  · exact absurd (by assumption) (by simp)
  refine S.exit rfl ?_
  refine S.seq (S.region rfl ?_)
  refine O.op (.p rfl) (.as rfl) ?_
  refine O.nil ?_
  refine S.ret Go.Proofs.Tryz.results61 rfl fun w hw => Holds.end_ hR hw ?_
  exact ⟨_, ⟨rfl, rfl⟩, by repeat (first | exact Picks.all | exact Picks.nil | (apply Picks.cons; focus (repeat (first | exact Sel.here | apply Sel.there))) | apply Picks.skip)⟩
theorem flatRecords_0 {r : Fr} : Con Go.Proofs.Tryz.prog 62 #[.slice none 0 0] r [] (Ret fun v η => v = .bool true ∧ η = []) := by
  refine Con.of (n := 193) [.slice none 0 0] rfl Go.Proofs.Tryz.func62 rfl rfl rfl fun g hg R hR => ?_
  refine S.seq (S.region rfl ?_)
  refine O.op (.p rfl) (.as rfl) ?_
  refine O.nil ?_
  refine S.seq (S.seq (S.region rfl ?_))
  refine O.op (.p rfl) (.as rfl) ?_
  refine O.nil ?_
  refine S.block ?_
  refine S.unroll ?_
  refine S.seq (S.seq (S.region rfl ?_))
  refine O.op (.p rfl) (.mv rfl) ?_
  refine O.op (.p rfl) (.mv rfl) ?_
  refine O.op (.p rfl) (.len rfl Go.Proofs.Tryz.underlying61 rfl) ?_
  refine O.op (.p rfl) (.lss rfl rfl) ?_
  refine O.nil ?_
  first | refine S.condD rfl (fun h19 => ?_) (fun h19 => ?_) | refine S.condB rfl (fun h19 => ?_) (fun h19 => ?_)
  · exact absurd (by assumption) (by simp)
  refine S.exit rfl ?_
  refine S.seq (S.region rfl ?_)
  refine O.op (.p rfl) (.mv rfl) ?_
  refine O.op (.p rfl) (.len rfl Go.Proofs.Tryz.underlying61 rfl) ?_
  refine O.opE (.p rfl) (.makeP (T := Rp.val) (.slice none 0 0) (m := 0) Go.Proofs.Tryz.underlying61 FactKit4.elem132 (by decide) ⟨rfl, rfl⟩ rfl rfl rfl rfl (by decide) (by decide)) ?_
  rintro _ _ ⟨a42, c42, rfl, rfl⟩
  refine O.op (.p rfl) (.as rfl) ?_
  refine O.nil ?_
  refine S.seq (S.seq (S.region rfl ?_))
  refine O.op (.p rfl) (.as rfl) ?_
  refine O.nil ?_
  refine S.block ?_
  refine S.unroll ?_
  refine S.seq (S.seq (S.region rfl ?_))
  refine O.op (.p rfl) (.mv rfl) ?_
  refine O.op (.p rfl) (.mv rfl) ?_
  refine O.op (.p rfl) (.len rfl Go.Proofs.Tryz.underlying61 rfl) ?_
  refine O.op (.p rfl) (.lss rfl rfl) ?_
  refine O.nil ?_
  first | refine S.condD rfl (fun h46 => ?_) (fun h46 => ?_) | refine S.condB rfl (fun h46 => ?_) (fun h46 => ?_)
  · exact absurd (by assumption) (by simp)
  refine S.exit rfl ?_
  refine S.seq (S.seq (S.region rfl ?_))
  refine O.op (.p rfl) (.as rfl) ?_
  refine O.nil ?_
  refine S.block ?_
  refine S.unroll ?_
  refine S.seq (S.seq (S.region rfl ?_))
  refine O.op (.p rfl) (.mv rfl) ?_
  refine O.op (.p rfl) (.mv rfl) ?_
  refine O.op (.p rfl) (.len rfl Go.Proofs.Tryz.underlying61 rfl) ?_
  refine O.op (.p rfl) (.lss rfl rfl) ?_
  refine O.nil ?_
  first | refine S.condD rfl (fun h76 => ?_) (fun h76 => ?_) | refine S.condB rfl (fun h76 => ?_) (fun h76 => ?_)
  · exact absurd (by assumption) (by simp)
  refine S.exit rfl ?_
  refine S.seq (S.seq (S.region rfl ?_))
  refine O.op (.p rfl) (.as rfl) ?_
  refine O.nil ?_
  refine S.block ?_
  refine S.unroll ?_
  refine S.seq (S.seq (S.region rfl ?_))
  refine O.op (.p rfl) (.mv rfl) ?_
  refine O.op (.p rfl) (.mv rfl) ?_
  refine O.op (.p rfl) (.len rfl Go.Proofs.Tryz.underlying61 rfl) ?_
  refine O.op (.p rfl) (.lss rfl rfl) ?_
  refine O.nil ?_
  first | refine S.condD rfl (fun h126 => ?_) (fun h126 => ?_) | refine S.condB rfl (fun h126 => ?_) (fun h126 => ?_)
  · exact absurd (by assumption) (by simp)
  refine S.exit rfl ?_
  refine S.seq (S.seq (S.region rfl ?_))
  refine O.op (.p rfl) (.as rfl) ?_
  refine O.nil ?_
  refine S.block ?_
  refine S.unroll ?_
  refine S.seq (S.seq (S.region rfl ?_))
  refine O.op (.p rfl) (.mv rfl) ?_
  refine O.op (.p rfl) (.mv rfl) ?_
  refine O.op (.p rfl) (.len rfl Go.Proofs.Tryz.underlying61 rfl) ?_
  refine O.op (.p rfl) (.lss rfl rfl) ?_
  refine O.nil ?_
  first | refine S.condD rfl (fun h155 => ?_) (fun h155 => ?_) | refine S.condB rfl (fun h155 => ?_) (fun h155 => ?_)
  · exact absurd (by assumption) (by simp)
  refine S.exit rfl ?_
  refine S.seq (S.region rfl ?_)
  refine O.op (.p rfl) (.as rfl) ?_
  refine O.nil ?_
  refine S.ret Go.Proofs.Tryz.results62 rfl fun w hw => Holds.end_ hR hw ?_
  exact ⟨_, ⟨rfl, rfl⟩, by repeat (first | exact Picks.all | exact Picks.nil | (apply Picks.cons; focus (repeat (first | exact Sel.here | apply Sel.there))) | apply Picks.skip)⟩
theorem flatLeaves_0 {r : Fr} : Con Go.Proofs.Tryz.prog 63 #[.slice none 0 0] r [] (Ret fun v η => v = .bool true ∧ η = []) := by
  refine Con.of (n := 193) [.slice none 0 0] rfl Go.Proofs.Tryz.func63 rfl rfl rfl fun g hg R hR => ?_
  refine S.seq (S.region rfl ?_)
  refine O.op (.p rfl) (.as rfl) ?_
  refine O.nil ?_
  refine S.seq (S.seq (S.region rfl ?_))
  refine O.op (.p rfl) (.as rfl) ?_
  refine O.nil ?_
  refine S.block ?_
  refine S.unroll ?_
  refine S.seq (S.seq (S.region rfl ?_))
  refine O.op (.p rfl) (.mv rfl) ?_
  refine O.op (.p rfl) (.mv rfl) ?_
  refine O.op (.p rfl) (.len rfl Go.Proofs.Tryz.underlying62 rfl) ?_
  refine O.op (.p rfl) (.lss rfl rfl) ?_
  refine O.nil ?_
  first | refine S.condD rfl (fun h19 => ?_) (fun h19 => ?_) | refine S.condB rfl (fun h19 => ?_) (fun h19 => ?_)
  · exact absurd (by assumption) (by simp)
  refine S.exit rfl ?_
  refine S.seq (S.region rfl ?_)
  refine O.op (.p rfl) (.mv rfl) ?_
  refine O.op (.p rfl) (.len rfl Go.Proofs.Tryz.underlying62 rfl) ?_
  refine O.opE (.p rfl) (.makeP (T := Rp.val) (.slice none 0 0) (m := 0) Go.Proofs.Tryz.underlying62 FactKit4.elem137 (by decide) ⟨rfl, rfl⟩ rfl rfl rfl rfl (by decide) (by decide)) ?_
  rintro _ _ ⟨a42, c42, rfl, rfl⟩
  refine O.op (.p rfl) (.as rfl) ?_
  refine O.nil ?_
  refine S.seq (S.seq (S.region rfl ?_))
  refine O.op (.p rfl) (.as rfl) ?_
  refine O.nil ?_
  refine S.block ?_
  refine S.unroll ?_
  refine S.seq (S.seq (S.region rfl ?_))
  refine O.op (.p rfl) (.mv rfl) ?_
  refine O.op (.p rfl) (.mv rfl) ?_
  refine O.op (.p rfl) (.len rfl Go.Proofs.Tryz.underlying62 rfl) ?_
  refine O.op (.p rfl) (.lss rfl rfl) ?_
  refine O.nil ?_
  first | refine S.condD rfl (fun h46 => ?_) (fun h46 => ?_) | refine S.condB rfl (fun h46 => ?_) (fun h46 => ?_)
  · exact absurd (by assumption) (by simp)
  refine S.exit rfl ?_
  refine S.seq (S.seq (S.region rfl ?_))
  refine O.op (.p rfl) (.as rfl) ?_
  refine O.nil ?_
  refine S.block ?_
  refine S.unroll ?_
  refine S.seq (S.seq (S.region rfl ?_))
  refine O.op (.p rfl) (.mv rfl) ?_
  refine O.op (.p rfl) (.mv rfl) ?_
  refine O.op (.p rfl) (.len rfl Go.Proofs.Tryz.underlying62 rfl) ?_
  refine O.op (.p rfl) (.lss rfl rfl) ?_
  refine O.nil ?_
  first | refine S.condD rfl (fun h76 => ?_) (fun h76 => ?_) | refine S.condB rfl (fun h76 => ?_) (fun h76 => ?_)
  · exact absurd (by assumption) (by simp)
  refine S.exit rfl ?_
  refine S.seq (S.seq (S.region rfl ?_))
  refine O.op (.p rfl) (.as rfl) ?_
  refine O.nil ?_
  refine S.block ?_
  refine S.unroll ?_
  refine S.seq (S.seq (S.region rfl ?_))
  refine O.op (.p rfl) (.mv rfl) ?_
  refine O.op (.p rfl) (.mv rfl) ?_
  refine O.op (.p rfl) (.len rfl Go.Proofs.Tryz.underlying62 rfl) ?_
  refine O.op (.p rfl) (.lss rfl rfl) ?_
  refine O.nil ?_
  first | refine S.condD rfl (fun h126 => ?_) (fun h126 => ?_) | refine S.condB rfl (fun h126 => ?_) (fun h126 => ?_)
  · exact absurd (by assumption) (by simp)
  refine S.exit rfl ?_
  refine S.seq (S.seq (S.region rfl ?_))
  refine O.op (.p rfl) (.as rfl) ?_
  refine O.nil ?_
  refine S.block ?_
  refine S.unroll ?_
  refine S.seq (S.seq (S.region rfl ?_))
  refine O.op (.p rfl) (.mv rfl) ?_
  refine O.op (.p rfl) (.mv rfl) ?_
  refine O.op (.p rfl) (.len rfl Go.Proofs.Tryz.underlying62 rfl) ?_
  refine O.op (.p rfl) (.lss rfl rfl) ?_
  refine O.nil ?_
  first | refine S.condD rfl (fun h155 => ?_) (fun h155 => ?_) | refine S.condB rfl (fun h155 => ?_) (fun h155 => ?_)
  · exact absurd (by assumption) (by simp)
  refine S.exit rfl ?_
  refine S.seq (S.region rfl ?_)
  refine O.op (.p rfl) (.as rfl) ?_
  refine O.nil ?_
  refine S.ret Go.Proofs.Tryz.results63 rfl fun w hw => Holds.end_ hR hw ?_
  exact ⟨_, ⟨rfl, rfl⟩, by repeat (first | exact Picks.all | exact Picks.nil | (apply Picks.cons; focus (repeat (first | exact Sel.here | apply Sel.there))) | apply Picks.skip)⟩
theorem flatGrants_0 {r : Fr} : Con Go.Proofs.Tryz.prog 64 #[.slice none 0 0] r [] (Ret fun v η => v = .bool true ∧ η = []) := by
  refine Con.of (n := 193) [.slice none 0 0] rfl Go.Proofs.Tryz.func64 rfl rfl rfl fun g hg R hR => ?_
  refine S.seq (S.region rfl ?_)
  refine O.op (.p rfl) (.as rfl) ?_
  refine O.nil ?_
  refine S.seq (S.seq (S.region rfl ?_))
  refine O.op (.p rfl) (.as rfl) ?_
  refine O.nil ?_
  refine S.block ?_
  refine S.unroll ?_
  refine S.seq (S.seq (S.region rfl ?_))
  refine O.op (.p rfl) (.mv rfl) ?_
  refine O.op (.p rfl) (.mv rfl) ?_
  refine O.op (.p rfl) (.len rfl Go.Proofs.Tryz.underlying63 rfl) ?_
  refine O.op (.p rfl) (.lss rfl rfl) ?_
  refine O.nil ?_
  first | refine S.condD rfl (fun h19 => ?_) (fun h19 => ?_) | refine S.condB rfl (fun h19 => ?_) (fun h19 => ?_)
  · exact absurd (by assumption) (by simp)
  refine S.exit rfl ?_
  refine S.seq (S.region rfl ?_)
  refine O.op (.p rfl) (.mv rfl) ?_
  refine O.op (.p rfl) (.len rfl Go.Proofs.Tryz.underlying63 rfl) ?_
  refine O.opE (.p rfl) (.makeP (T := Rp.val) (.slice none 0 0) (m := 0) Go.Proofs.Tryz.underlying63 FactKit4.elem142 (by decide) ⟨rfl, rfl⟩ rfl rfl rfl rfl (by decide) (by decide)) ?_
  rintro _ _ ⟨a42, c42, rfl, rfl⟩
  refine O.op (.p rfl) (.as rfl) ?_
  refine O.nil ?_
  refine S.seq (S.seq (S.region rfl ?_))
  refine O.op (.p rfl) (.as rfl) ?_
  refine O.nil ?_
  refine S.block ?_
  refine S.unroll ?_
  refine S.seq (S.seq (S.region rfl ?_))
  refine O.op (.p rfl) (.mv rfl) ?_
  refine O.op (.p rfl) (.mv rfl) ?_
  refine O.op (.p rfl) (.len rfl Go.Proofs.Tryz.underlying63 rfl) ?_
  refine O.op (.p rfl) (.lss rfl rfl) ?_
  refine O.nil ?_
  first | refine S.condD rfl (fun h46 => ?_) (fun h46 => ?_) | refine S.condB rfl (fun h46 => ?_) (fun h46 => ?_)
  · exact absurd (by assumption) (by simp)
  refine S.exit rfl ?_
  refine S.seq (S.seq (S.region rfl ?_))
  refine O.op (.p rfl) (.as rfl) ?_
  refine O.nil ?_
  refine S.block ?_
  refine S.unroll ?_
  refine S.seq (S.seq (S.region rfl ?_))
  refine O.op (.p rfl) (.mv rfl) ?_
  refine O.op (.p rfl) (.mv rfl) ?_
  refine O.op (.p rfl) (.len rfl Go.Proofs.Tryz.underlying63 rfl) ?_
  refine O.op (.p rfl) (.lss rfl rfl) ?_
  refine O.nil ?_
  first | refine S.condD rfl (fun h76 => ?_) (fun h76 => ?_) | refine S.condB rfl (fun h76 => ?_) (fun h76 => ?_)
  · exact absurd (by assumption) (by simp)
  refine S.exit rfl ?_
  refine S.seq (S.seq (S.region rfl ?_))
  refine O.op (.p rfl) (.as rfl) ?_
  refine O.nil ?_
  refine S.block ?_
  refine S.unroll ?_
  refine S.seq (S.seq (S.region rfl ?_))
  refine O.op (.p rfl) (.mv rfl) ?_
  refine O.op (.p rfl) (.mv rfl) ?_
  refine O.op (.p rfl) (.len rfl Go.Proofs.Tryz.underlying63 rfl) ?_
  refine O.op (.p rfl) (.lss rfl rfl) ?_
  refine O.nil ?_
  first | refine S.condD rfl (fun h126 => ?_) (fun h126 => ?_) | refine S.condB rfl (fun h126 => ?_) (fun h126 => ?_)
  · exact absurd (by assumption) (by simp)
  refine S.exit rfl ?_
  refine S.seq (S.seq (S.region rfl ?_))
  refine O.op (.p rfl) (.as rfl) ?_
  refine O.nil ?_
  refine S.block ?_
  refine S.unroll ?_
  refine S.seq (S.seq (S.region rfl ?_))
  refine O.op (.p rfl) (.mv rfl) ?_
  refine O.op (.p rfl) (.mv rfl) ?_
  refine O.op (.p rfl) (.len rfl Go.Proofs.Tryz.underlying63 rfl) ?_
  refine O.op (.p rfl) (.lss rfl rfl) ?_
  refine O.nil ?_
  first | refine S.condD rfl (fun h155 => ?_) (fun h155 => ?_) | refine S.condB rfl (fun h155 => ?_) (fun h155 => ?_)
  · exact absurd (by assumption) (by simp)
  refine S.exit rfl ?_
  refine S.seq (S.region rfl ?_)
  refine O.op (.p rfl) (.as rfl) ?_
  refine O.nil ?_
  refine S.ret Go.Proofs.Tryz.results64 rfl fun w hw => Holds.end_ hR hw ?_
  exact ⟨_, ⟨rfl, rfl⟩, by repeat (first | exact Picks.all | exact Picks.nil | (apply Picks.cons; focus (repeat (first | exact Sel.here | apply Sel.there))) | apply Picks.skip)⟩
theorem flatNodes_0 {r : Fr} : Con Go.Proofs.Tryz.prog 65 #[.slice none 0 0] r [] (Ret fun v η => v = .bool true ∧ η = []) := by
  refine Con.of (n := 193) [.slice none 0 0] rfl Go.Proofs.Tryz.func65 rfl rfl rfl fun g hg R hR => ?_
  refine S.seq (S.region rfl ?_)
  refine O.op (.p rfl) (.as rfl) ?_
  refine O.nil ?_
  refine S.seq (S.seq (S.region rfl ?_))
  refine O.op (.p rfl) (.as rfl) ?_
  refine O.nil ?_
  refine S.block ?_
  refine S.unroll ?_
  refine S.seq (S.seq (S.region rfl ?_))
  refine O.op (.p rfl) (.mv rfl) ?_
  refine O.op (.p rfl) (.mv rfl) ?_
  refine O.op (.p rfl) (.len rfl Go.Proofs.Tryz.underlying64 rfl) ?_
  refine O.op (.p rfl) (.lss rfl rfl) ?_
  refine O.nil ?_
  first | refine S.condD rfl (fun h19 => ?_) (fun h19 => ?_) | refine S.condB rfl (fun h19 => ?_) (fun h19 => ?_)
  · exact absurd (by assumption) (by simp)
  refine S.exit rfl ?_
  refine S.seq (S.region rfl ?_)
  refine O.op (.p rfl) (.mv rfl) ?_
  refine O.op (.p rfl) (.len rfl Go.Proofs.Tryz.underlying64 rfl) ?_
  refine O.opE (.p rfl) (.makeP (T := Rp.val) (.slice none 0 0) (m := 0) Go.Proofs.Tryz.underlying64 FactKit4.elem147 (by decide) ⟨rfl, rfl⟩ rfl rfl rfl rfl (by decide) (by decide)) ?_
  rintro _ _ ⟨a42, c42, rfl, rfl⟩
  refine O.op (.p rfl) (.as rfl) ?_
  refine O.nil ?_
  refine S.seq (S.seq (S.region rfl ?_))
  refine O.op (.p rfl) (.as rfl) ?_
  refine O.nil ?_
  refine S.block ?_
  refine S.unroll ?_
  refine S.seq (S.seq (S.region rfl ?_))
  refine O.op (.p rfl) (.mv rfl) ?_
  refine O.op (.p rfl) (.mv rfl) ?_
  refine O.op (.p rfl) (.len rfl Go.Proofs.Tryz.underlying64 rfl) ?_
  refine O.op (.p rfl) (.lss rfl rfl) ?_
  refine O.nil ?_
  first | refine S.condD rfl (fun h46 => ?_) (fun h46 => ?_) | refine S.condB rfl (fun h46 => ?_) (fun h46 => ?_)
  · exact absurd (by assumption) (by simp)
  refine S.exit rfl ?_
  refine S.seq (S.seq (S.region rfl ?_))
  refine O.op (.p rfl) (.as rfl) ?_
  refine O.nil ?_
  refine S.block ?_
  refine S.unroll ?_
  refine S.seq (S.seq (S.region rfl ?_))
  refine O.op (.p rfl) (.mv rfl) ?_
  refine O.op (.p rfl) (.mv rfl) ?_
  refine O.op (.p rfl) (.len rfl Go.Proofs.Tryz.underlying64 rfl) ?_
  refine O.op (.p rfl) (.lss rfl rfl) ?_
  refine O.nil ?_
  first | refine S.condD rfl (fun h76 => ?_) (fun h76 => ?_) | refine S.condB rfl (fun h76 => ?_) (fun h76 => ?_)
  · exact absurd (by assumption) (by simp)
  refine S.exit rfl ?_
  refine S.seq (S.seq (S.region rfl ?_))
  refine O.op (.p rfl) (.as rfl) ?_
  refine O.nil ?_
  refine S.block ?_
  refine S.unroll ?_
  refine S.seq (S.seq (S.region rfl ?_))
  refine O.op (.p rfl) (.mv rfl) ?_
  refine O.op (.p rfl) (.mv rfl) ?_
  refine O.op (.p rfl) (.len rfl Go.Proofs.Tryz.underlying64 rfl) ?_
  refine O.op (.p rfl) (.lss rfl rfl) ?_
  refine O.nil ?_
  first | refine S.condD rfl (fun h126 => ?_) (fun h126 => ?_) | refine S.condB rfl (fun h126 => ?_) (fun h126 => ?_)
  · exact absurd (by assumption) (by simp)
  refine S.exit rfl ?_
  refine S.seq (S.seq (S.region rfl ?_))
  refine O.op (.p rfl) (.as rfl) ?_
  refine O.nil ?_
  refine S.block ?_
  refine S.unroll ?_
  refine S.seq (S.seq (S.region rfl ?_))
  refine O.op (.p rfl) (.mv rfl) ?_
  refine O.op (.p rfl) (.mv rfl) ?_
  refine O.op (.p rfl) (.len rfl Go.Proofs.Tryz.underlying64 rfl) ?_
  refine O.op (.p rfl) (.lss rfl rfl) ?_
  refine O.nil ?_
  first | refine S.condD rfl (fun h155 => ?_) (fun h155 => ?_) | refine S.condB rfl (fun h155 => ?_) (fun h155 => ?_)
  · exact absurd (by assumption) (by simp)
  refine S.exit rfl ?_
  refine S.seq (S.region rfl ?_)
  refine O.op (.p rfl) (.as rfl) ?_
  refine O.nil ?_
  refine S.ret Go.Proofs.Tryz.results65 rfl fun w hw => Holds.end_ hR hw ?_
  exact ⟨_, ⟨rfl, rfl⟩, by repeat (first | exact Picks.all | exact Picks.nil | (apply Picks.cons; focus (repeat (first | exact Sel.here | apply Sel.there))) | apply Picks.skip)⟩
theorem flatStubs_0 {r : Fr} : Con Go.Proofs.Tryz.prog 66 #[.slice none 0 0] r [] (Ret fun v η => v = .bool true ∧ η = []) := by
  refine Con.of (n := 193) [.slice none 0 0] rfl Go.Proofs.Tryz.func66 rfl rfl rfl fun g hg R hR => ?_
  refine S.seq (S.region rfl ?_)
  refine O.op (.p rfl) (.as rfl) ?_
  refine O.nil ?_
  refine S.seq (S.seq (S.region rfl ?_))
  refine O.op (.p rfl) (.as rfl) ?_
  refine O.nil ?_
  refine S.block ?_
  refine S.unroll ?_
  refine S.seq (S.seq (S.region rfl ?_))
  refine O.op (.p rfl) (.mv rfl) ?_
  refine O.op (.p rfl) (.mv rfl) ?_
  refine O.op (.p rfl) (.len rfl Go.Proofs.Tryz.underlying65 rfl) ?_
  refine O.op (.p rfl) (.lss rfl rfl) ?_
  refine O.nil ?_
  first | refine S.condD rfl (fun h19 => ?_) (fun h19 => ?_) | refine S.condB rfl (fun h19 => ?_) (fun h19 => ?_)
  · exact absurd (by assumption) (by simp)
  refine S.exit rfl ?_
  refine S.seq (S.region rfl ?_)
  refine O.op (.p rfl) (.mv rfl) ?_
  refine O.op (.p rfl) (.len rfl Go.Proofs.Tryz.underlying65 rfl) ?_
  refine O.opE (.p rfl) (.makeP (T := Rp.val) (.slice none 0 0) (m := 0) Go.Proofs.Tryz.underlying65 FactKit4.elem153 (by decide) ⟨rfl, rfl⟩ rfl rfl rfl rfl (by decide) (by decide)) ?_
  rintro _ _ ⟨a42, c42, rfl, rfl⟩
  refine O.op (.p rfl) (.as rfl) ?_
  refine O.nil ?_
  refine S.seq (S.seq (S.region rfl ?_))
  refine O.op (.p rfl) (.as rfl) ?_
  refine O.nil ?_
  refine S.block ?_
  refine S.unroll ?_
  refine S.seq (S.seq (S.region rfl ?_))
  refine O.op (.p rfl) (.mv rfl) ?_
  refine O.op (.p rfl) (.mv rfl) ?_
  refine O.op (.p rfl) (.len rfl Go.Proofs.Tryz.underlying65 rfl) ?_
  refine O.op (.p rfl) (.lss rfl rfl) ?_
  refine O.nil ?_
  first | refine S.condD rfl (fun h46 => ?_) (fun h46 => ?_) | refine S.condB rfl (fun h46 => ?_) (fun h46 => ?_)
  · exact absurd (by assumption) (by simp)
  refine S.exit rfl ?_
  refine S.seq (S.seq (S.region rfl ?_))
  refine O.op (.p rfl) (.as rfl) ?_
  refine O.nil ?_
  refine S.block ?_
  refine S.unroll ?_
  refine S.seq (S.seq (S.region rfl ?_))
  refine O.op (.p rfl) (.mv rfl) ?_
  refine O.op (.p rfl) (.mv rfl) ?_
  refine O.op (.p rfl) (.len rfl Go.Proofs.Tryz.underlying65 rfl) ?_
  refine O.op (.p rfl) (.lss rfl rfl) ?_
  refine O.nil ?_
  first | refine S.condD rfl (fun h76 => ?_) (fun h76 => ?_) | refine S.condB rfl (fun h76 => ?_) (fun h76 => ?_)
  · exact absurd (by assumption) (by simp)
  refine S.exit rfl ?_
  refine S.seq (S.seq (S.region rfl ?_))
  refine O.op (.p rfl) (.as rfl) ?_
  refine O.nil ?_
  refine S.block ?_
  refine S.unroll ?_
  refine S.seq (S.seq (S.region rfl ?_))
  refine O.op (.p rfl) (.mv rfl) ?_
  refine O.op (.p rfl) (.mv rfl) ?_
  refine O.op (.p rfl) (.len rfl Go.Proofs.Tryz.underlying65 rfl) ?_
  refine O.op (.p rfl) (.lss rfl rfl) ?_
  refine O.nil ?_
  first | refine S.condD rfl (fun h126 => ?_) (fun h126 => ?_) | refine S.condB rfl (fun h126 => ?_) (fun h126 => ?_)
  · exact absurd (by assumption) (by simp)
  refine S.exit rfl ?_
  refine S.seq (S.seq (S.region rfl ?_))
  refine O.op (.p rfl) (.as rfl) ?_
  refine O.nil ?_
  refine S.block ?_
  refine S.unroll ?_
  refine S.seq (S.seq (S.region rfl ?_))
  refine O.op (.p rfl) (.mv rfl) ?_
  refine O.op (.p rfl) (.mv rfl) ?_
  refine O.op (.p rfl) (.len rfl Go.Proofs.Tryz.underlying65 rfl) ?_
  refine O.op (.p rfl) (.lss rfl rfl) ?_
  refine O.nil ?_
  first | refine S.condD rfl (fun h155 => ?_) (fun h155 => ?_) | refine S.condB rfl (fun h155 => ?_) (fun h155 => ?_)
  · exact absurd (by assumption) (by simp)
  refine S.exit rfl ?_
  refine S.seq (S.region rfl ?_)
  refine O.op (.p rfl) (.as rfl) ?_
  refine O.nil ?_
  refine S.ret Go.Proofs.Tryz.results66 rfl fun w hw => Holds.end_ hR hw ?_
  exact ⟨_, ⟨rfl, rfl⟩, by repeat (first | exact Picks.all | exact Picks.nil | (apply Picks.cons; focus (repeat (first | exact Sel.here | apply Sel.there))) | apply Picks.skip)⟩
theorem flatProofs_0 {r : Fr} : Con Go.Proofs.Tryz.prog 67 #[.slice none 0 0] r [] (Ret fun v η => v = .bool true ∧ η = []) := by
  refine Con.of (n := 193) [.slice none 0 0] rfl Go.Proofs.Tryz.func67 rfl rfl rfl fun g hg R hR => ?_
  refine S.seq (S.region rfl ?_)
  refine O.op (.p rfl) (.as rfl) ?_
  refine O.nil ?_
  refine S.seq (S.seq (S.region rfl ?_))
  refine O.op (.p rfl) (.as rfl) ?_
  refine O.nil ?_
  refine S.block ?_
  refine S.unroll ?_
  refine S.seq (S.seq (S.region rfl ?_))
  refine O.op (.p rfl) (.mv rfl) ?_
  refine O.op (.p rfl) (.mv rfl) ?_
  refine O.op (.p rfl) (.len rfl Go.Proofs.Tryz.underlying66 rfl) ?_
  refine O.op (.p rfl) (.lss rfl rfl) ?_
  refine O.nil ?_
  first | refine S.condD rfl (fun h19 => ?_) (fun h19 => ?_) | refine S.condB rfl (fun h19 => ?_) (fun h19 => ?_)
  · exact absurd (by assumption) (by simp)
  refine S.exit rfl ?_
  refine S.seq (S.region rfl ?_)
  refine O.op (.p rfl) (.mv rfl) ?_
  refine O.op (.p rfl) (.len rfl Go.Proofs.Tryz.underlying66 rfl) ?_
  refine O.opE (.p rfl) (.makeP (T := Rp.val) (.slice none 0 0) (m := 0) Go.Proofs.Tryz.underlying66 FactKit4.elem158 (by decide) ⟨rfl, rfl⟩ rfl rfl rfl rfl (by decide) (by decide)) ?_
  rintro _ _ ⟨a42, c42, rfl, rfl⟩
  refine O.op (.p rfl) (.as rfl) ?_
  refine O.nil ?_
  refine S.seq (S.seq (S.region rfl ?_))
  refine O.op (.p rfl) (.as rfl) ?_
  refine O.nil ?_
  refine S.block ?_
  refine S.unroll ?_
  refine S.seq (S.seq (S.region rfl ?_))
  refine O.op (.p rfl) (.mv rfl) ?_
  refine O.op (.p rfl) (.mv rfl) ?_
  refine O.op (.p rfl) (.len rfl Go.Proofs.Tryz.underlying66 rfl) ?_
  refine O.op (.p rfl) (.lss rfl rfl) ?_
  refine O.nil ?_
  first | refine S.condD rfl (fun h46 => ?_) (fun h46 => ?_) | refine S.condB rfl (fun h46 => ?_) (fun h46 => ?_)
  · exact absurd (by assumption) (by simp)
  refine S.exit rfl ?_
  refine S.seq (S.seq (S.region rfl ?_))
  refine O.op (.p rfl) (.as rfl) ?_
  refine O.nil ?_
  refine S.block ?_
  refine S.unroll ?_
  refine S.seq (S.seq (S.region rfl ?_))
  refine O.op (.p rfl) (.mv rfl) ?_
  refine O.op (.p rfl) (.mv rfl) ?_
  refine O.op (.p rfl) (.len rfl Go.Proofs.Tryz.underlying66 rfl) ?_
  refine O.op (.p rfl) (.lss rfl rfl) ?_
  refine O.nil ?_
  first | refine S.condD rfl (fun h76 => ?_) (fun h76 => ?_) | refine S.condB rfl (fun h76 => ?_) (fun h76 => ?_)
  · exact absurd (by assumption) (by simp)
  refine S.exit rfl ?_
  refine S.seq (S.seq (S.region rfl ?_))
  refine O.op (.p rfl) (.as rfl) ?_
  refine O.nil ?_
  refine S.block ?_
  refine S.unroll ?_
  refine S.seq (S.seq (S.region rfl ?_))
  refine O.op (.p rfl) (.mv rfl) ?_
  refine O.op (.p rfl) (.mv rfl) ?_
  refine O.op (.p rfl) (.len rfl Go.Proofs.Tryz.underlying66 rfl) ?_
  refine O.op (.p rfl) (.lss rfl rfl) ?_
  refine O.nil ?_
  first | refine S.condD rfl (fun h126 => ?_) (fun h126 => ?_) | refine S.condB rfl (fun h126 => ?_) (fun h126 => ?_)
  · exact absurd (by assumption) (by simp)
  refine S.exit rfl ?_
  refine S.seq (S.seq (S.region rfl ?_))
  refine O.op (.p rfl) (.as rfl) ?_
  refine O.nil ?_
  refine S.block ?_
  refine S.unroll ?_
  refine S.seq (S.seq (S.region rfl ?_))
  refine O.op (.p rfl) (.mv rfl) ?_
  refine O.op (.p rfl) (.mv rfl) ?_
  refine O.op (.p rfl) (.len rfl Go.Proofs.Tryz.underlying66 rfl) ?_
  refine O.op (.p rfl) (.lss rfl rfl) ?_
  refine O.nil ?_
  first | refine S.condD rfl (fun h155 => ?_) (fun h155 => ?_) | refine S.condB rfl (fun h155 => ?_) (fun h155 => ?_)
  · exact absurd (by assumption) (by simp)
  refine S.exit rfl ?_
  refine S.seq (S.region rfl ?_)
  refine O.op (.p rfl) (.as rfl) ?_
  refine O.nil ?_
  refine S.ret Go.Proofs.Tryz.results67 rfl fun w hw => Holds.end_ hR hw ?_
  exact ⟨_, ⟨rfl, rfl⟩, by repeat (first | exact Picks.all | exact Picks.nil | (apply Picks.cons; focus (repeat (first | exact Sel.here | apply Sel.there))) | apply Picks.skip)⟩
theorem flatRoots_0 {r : Fr} : Con Go.Proofs.Tryz.prog 68 #[.slice none 0 0] r [] (Ret fun v η => v = .bool true ∧ η = []) := by
  refine Con.of (n := 193) [.slice none 0 0] rfl Go.Proofs.Tryz.func68 rfl rfl rfl fun g hg R hR => ?_
  refine S.seq (S.region rfl ?_)
  refine O.op (.p rfl) (.as rfl) ?_
  refine O.nil ?_
  refine S.seq (S.seq (S.region rfl ?_))
  refine O.op (.p rfl) (.as rfl) ?_
  refine O.nil ?_
  refine S.block ?_
  refine S.unroll ?_
  refine S.seq (S.seq (S.region rfl ?_))
  refine O.op (.p rfl) (.mv rfl) ?_
  refine O.op (.p rfl) (.mv rfl) ?_
  refine O.op (.p rfl) (.len rfl Go.Proofs.Tryz.underlying67 rfl) ?_
  refine O.op (.p rfl) (.lss rfl rfl) ?_
  refine O.nil ?_
  first | refine S.condD rfl (fun h19 => ?_) (fun h19 => ?_) | refine S.condB rfl (fun h19 => ?_) (fun h19 => ?_)
  · exact absurd (by assumption) (by simp)
  refine S.exit rfl ?_
  refine S.seq (S.region rfl ?_)
  refine O.op (.p rfl) (.mv rfl) ?_
  refine O.op (.p rfl) (.len rfl Go.Proofs.Tryz.underlying67 rfl) ?_
  refine O.opE (.p rfl) (.makeP (T := Rp.val) (.slice none 0 0) (m := 0) Go.Proofs.Tryz.underlying67 FactKit4.elem163 (by decide) ⟨rfl, rfl⟩ rfl rfl rfl rfl (by decide) (by decide)) ?_
  rintro _ _ ⟨a42, c42, rfl, rfl⟩
  refine O.op (.p rfl) (.as rfl) ?_
  refine O.nil ?_
  refine S.seq (S.seq (S.region rfl ?_))
  refine O.op (.p rfl) (.as rfl) ?_
  refine O.nil ?_
  refine S.block ?_
  refine S.unroll ?_
  refine S.seq (S.seq (S.region rfl ?_))
  refine O.op (.p rfl) (.mv rfl) ?_
  refine O.op (.p rfl) (.mv rfl) ?_
  refine O.op (.p rfl) (.len rfl Go.Proofs.Tryz.underlying67 rfl) ?_
  refine O.op (.p rfl) (.lss rfl rfl) ?_
  refine O.nil ?_
  first | refine S.condD rfl (fun h46 => ?_) (fun h46 => ?_) | refine S.condB rfl (fun h46 => ?_) (fun h46 => ?_)
  · exact absurd (by assumption) (by simp)
  refine S.exit rfl ?_
  refine S.seq (S.seq (S.region rfl ?_))
  refine O.op (.p rfl) (.as rfl) ?_
  refine O.nil ?_
  refine S.block ?_
  refine S.unroll ?_
  refine S.seq (S.seq (S.region rfl ?_))
  refine O.op (.p rfl) (.mv rfl) ?_
  refine O.op (.p rfl) (.mv rfl) ?_
  refine O.op (.p rfl) (.len rfl Go.Proofs.Tryz.underlying67 rfl) ?_
  refine O.op (.p rfl) (.lss rfl rfl) ?_
  refine O.nil ?_
  first | refine S.condD rfl (fun h76 => ?_) (fun h76 => ?_) | refine S.condB rfl (fun h76 => ?_) (fun h76 => ?_)
  · exact absurd (by assumption) (by simp)
  refine S.exit rfl ?_
  refine S.seq (S.seq (S.region rfl ?_))
  refine O.op (.p rfl) (.as rfl) ?_
  refine O.nil ?_
  refine S.block ?_
  refine S.unroll ?_
  refine S.seq (S.seq (S.region rfl ?_))
  refine O.op (.p rfl) (.mv rfl) ?_
  refine O.op (.p rfl) (.mv rfl) ?_
  refine O.op (.p rfl) (.len rfl Go.Proofs.Tryz.underlying67 rfl) ?_
  refine O.op (.p rfl) (.lss rfl rfl) ?_
  refine O.nil ?_
  first | refine S.condD rfl (fun h126 => ?_) (fun h126 => ?_) | refine S.condB rfl (fun h126 => ?_) (fun h126 => ?_)
  · exact absurd (by assumption) (by simp)
  refine S.exit rfl ?_
  refine S.seq (S.seq (S.region rfl ?_))
  refine O.op (.p rfl) (.as rfl) ?_
  refine O.nil ?_
  refine S.block ?_
  refine S.unroll ?_
  refine S.seq (S.seq (S.region rfl ?_))
  refine O.op (.p rfl) (.mv rfl) ?_
  refine O.op (.p rfl) (.mv rfl) ?_
  refine O.op (.p rfl) (.len rfl Go.Proofs.Tryz.underlying67 rfl) ?_
  refine O.op (.p rfl) (.lss rfl rfl) ?_
  refine O.nil ?_
  first | refine S.condD rfl (fun h155 => ?_) (fun h155 => ?_) | refine S.condB rfl (fun h155 => ?_) (fun h155 => ?_)
  · exact absurd (by assumption) (by simp)
  refine S.exit rfl ?_
  refine S.seq (S.region rfl ?_)
  refine O.op (.p rfl) (.as rfl) ?_
  refine O.nil ?_
  refine S.ret Go.Proofs.Tryz.results68 rfl fun w hw => Holds.end_ hR hw ?_
  exact ⟨_, ⟨rfl, rfl⟩, by repeat (first | exact Picks.all | exact Picks.nil | (apply Picks.cons; focus (repeat (first | exact Sel.here | apply Sel.there))) | apply Picks.skip)⟩
theorem flatEvidenceRow_0 {r : Fr} : Con Go.Proofs.Tryz.prog 69 #[.slice none 0 0] r [] (Ret fun v η => v = .bool true ∧ η = []) := by
  refine Con.of (n := 193) [.slice none 0 0] rfl Go.Proofs.Tryz.func69 rfl rfl rfl fun g hg R hR => ?_
  refine S.seq (S.region rfl ?_)
  refine O.op (.p rfl) (.as rfl) ?_
  refine O.nil ?_
  refine S.seq (S.seq (S.region rfl ?_))
  refine O.op (.p rfl) (.as rfl) ?_
  refine O.nil ?_
  refine S.block ?_
  refine S.unroll ?_
  refine S.seq (S.seq (S.region rfl ?_))
  refine O.op (.p rfl) (.mv rfl) ?_
  refine O.op (.p rfl) (.mv rfl) ?_
  refine O.op (.p rfl) (.len rfl Go.Proofs.Tryz.underlying68 rfl) ?_
  refine O.op (.p rfl) (.lss rfl rfl) ?_
  refine O.nil ?_
  first | refine S.condD rfl (fun h19 => ?_) (fun h19 => ?_) | refine S.condB rfl (fun h19 => ?_) (fun h19 => ?_)
  · exact absurd (by assumption) (by simp)
  refine S.exit rfl ?_
  refine S.seq (S.region rfl ?_)
  refine O.op (.p rfl) (.mv rfl) ?_
  refine O.op (.p rfl) (.len rfl Go.Proofs.Tryz.underlying68 rfl) ?_
  refine O.opE (.p rfl) (.makeP (T := Rp.val) (.slice none 0 0) (m := 0) Go.Proofs.Tryz.underlying68 FactKit4.elem168 (by decide) ⟨rfl, rfl⟩ rfl rfl rfl rfl (by decide) (by decide)) ?_
  rintro _ _ ⟨a42, c42, rfl, rfl⟩
  refine O.op (.p rfl) (.as rfl) ?_
  refine O.nil ?_
  refine S.seq (S.seq (S.region rfl ?_))
  refine O.op (.p rfl) (.as rfl) ?_
  refine O.nil ?_
  refine S.block ?_
  refine S.unroll ?_
  refine S.seq (S.seq (S.region rfl ?_))
  refine O.op (.p rfl) (.mv rfl) ?_
  refine O.op (.p rfl) (.mv rfl) ?_
  refine O.op (.p rfl) (.len rfl Go.Proofs.Tryz.underlying68 rfl) ?_
  refine O.op (.p rfl) (.lss rfl rfl) ?_
  refine O.nil ?_
  first | refine S.condD rfl (fun h46 => ?_) (fun h46 => ?_) | refine S.condB rfl (fun h46 => ?_) (fun h46 => ?_)
  · exact absurd (by assumption) (by simp)
  refine S.exit rfl ?_
  refine S.seq (S.seq (S.region rfl ?_))
  refine O.op (.p rfl) (.as rfl) ?_
  refine O.nil ?_
  refine S.block ?_
  refine S.unroll ?_
  refine S.seq (S.seq (S.region rfl ?_))
  refine O.op (.p rfl) (.mv rfl) ?_
  refine O.op (.p rfl) (.mv rfl) ?_
  refine O.op (.p rfl) (.len rfl Go.Proofs.Tryz.underlying68 rfl) ?_
  refine O.op (.p rfl) (.lss rfl rfl) ?_
  refine O.nil ?_
  first | refine S.condD rfl (fun h76 => ?_) (fun h76 => ?_) | refine S.condB rfl (fun h76 => ?_) (fun h76 => ?_)
  · exact absurd (by assumption) (by simp)
  refine S.exit rfl ?_
  refine S.seq (S.seq (S.region rfl ?_))
  refine O.op (.p rfl) (.as rfl) ?_
  refine O.nil ?_
  refine S.block ?_
  refine S.unroll ?_
  refine S.seq (S.seq (S.region rfl ?_))
  refine O.op (.p rfl) (.mv rfl) ?_
  refine O.op (.p rfl) (.mv rfl) ?_
  refine O.op (.p rfl) (.len rfl Go.Proofs.Tryz.underlying68 rfl) ?_
  refine O.op (.p rfl) (.lss rfl rfl) ?_
  refine O.nil ?_
  first | refine S.condD rfl (fun h126 => ?_) (fun h126 => ?_) | refine S.condB rfl (fun h126 => ?_) (fun h126 => ?_)
  · exact absurd (by assumption) (by simp)
  refine S.exit rfl ?_
  refine S.seq (S.seq (S.region rfl ?_))
  refine O.op (.p rfl) (.as rfl) ?_
  refine O.nil ?_
  refine S.block ?_
  refine S.unroll ?_
  refine S.seq (S.seq (S.region rfl ?_))
  refine O.op (.p rfl) (.mv rfl) ?_
  refine O.op (.p rfl) (.mv rfl) ?_
  refine O.op (.p rfl) (.len rfl Go.Proofs.Tryz.underlying68 rfl) ?_
  refine O.op (.p rfl) (.lss rfl rfl) ?_
  refine O.nil ?_
  first | refine S.condD rfl (fun h155 => ?_) (fun h155 => ?_) | refine S.condB rfl (fun h155 => ?_) (fun h155 => ?_)
  · exact absurd (by assumption) (by simp)
  refine S.exit rfl ?_
  refine S.seq (S.region rfl ?_)
  refine O.op (.p rfl) (.as rfl) ?_
  refine O.nil ?_
  refine S.ret Go.Proofs.Tryz.results69 rfl fun w hw => Holds.end_ hR hw ?_
  exact ⟨_, ⟨rfl, rfl⟩, by repeat (first | exact Picks.all | exact Picks.nil | (apply Picks.cons; focus (repeat (first | exact Sel.here | apply Sel.there))) | apply Picks.skip)⟩
theorem flatFrames_0 {r : Fr} : Con Go.Proofs.Tryz.prog 70 #[.slice none 0 0] r [] (Ret fun v η => v = .bool true ∧ η = []) := by
  refine Con.of (n := 193) [.slice none 0 0] rfl Go.Proofs.Tryz.func70 rfl rfl rfl fun g hg R hR => ?_
  refine S.seq (S.region rfl ?_)
  refine O.op (.p rfl) (.as rfl) ?_
  refine O.nil ?_
  refine S.seq (S.seq (S.region rfl ?_))
  refine O.op (.p rfl) (.as rfl) ?_
  refine O.nil ?_
  refine S.block ?_
  refine S.unroll ?_
  refine S.seq (S.seq (S.region rfl ?_))
  refine O.op (.p rfl) (.mv rfl) ?_
  refine O.op (.p rfl) (.mv rfl) ?_
  refine O.op (.p rfl) (.len rfl Go.Proofs.Tryz.underlying69 rfl) ?_
  refine O.op (.p rfl) (.lss rfl rfl) ?_
  refine O.nil ?_
  first | refine S.condD rfl (fun h19 => ?_) (fun h19 => ?_) | refine S.condB rfl (fun h19 => ?_) (fun h19 => ?_)
  · exact absurd (by assumption) (by simp)
  refine S.exit rfl ?_
  refine S.seq (S.region rfl ?_)
  refine O.op (.p rfl) (.mv rfl) ?_
  refine O.op (.p rfl) (.len rfl Go.Proofs.Tryz.underlying69 rfl) ?_
  refine O.opE (.p rfl) (.makeP (T := Rp.val) (.slice none 0 0) (m := 0) Go.Proofs.Tryz.underlying69 FactKit4.elem173 (by decide) ⟨rfl, rfl⟩ rfl rfl rfl rfl (by decide) (by decide)) ?_
  rintro _ _ ⟨a42, c42, rfl, rfl⟩
  refine O.op (.p rfl) (.as rfl) ?_
  refine O.nil ?_
  refine S.seq (S.seq (S.region rfl ?_))
  refine O.op (.p rfl) (.as rfl) ?_
  refine O.nil ?_
  refine S.block ?_
  refine S.unroll ?_
  refine S.seq (S.seq (S.region rfl ?_))
  refine O.op (.p rfl) (.mv rfl) ?_
  refine O.op (.p rfl) (.mv rfl) ?_
  refine O.op (.p rfl) (.len rfl Go.Proofs.Tryz.underlying69 rfl) ?_
  refine O.op (.p rfl) (.lss rfl rfl) ?_
  refine O.nil ?_
  first | refine S.condD rfl (fun h46 => ?_) (fun h46 => ?_) | refine S.condB rfl (fun h46 => ?_) (fun h46 => ?_)
  · exact absurd (by assumption) (by simp)
  refine S.exit rfl ?_
  refine S.seq (S.seq (S.region rfl ?_))
  refine O.op (.p rfl) (.as rfl) ?_
  refine O.nil ?_
  refine S.block ?_
  refine S.unroll ?_
  refine S.seq (S.seq (S.region rfl ?_))
  refine O.op (.p rfl) (.mv rfl) ?_
  refine O.op (.p rfl) (.mv rfl) ?_
  refine O.op (.p rfl) (.len rfl Go.Proofs.Tryz.underlying69 rfl) ?_
  refine O.op (.p rfl) (.lss rfl rfl) ?_
  refine O.nil ?_
  first | refine S.condD rfl (fun h76 => ?_) (fun h76 => ?_) | refine S.condB rfl (fun h76 => ?_) (fun h76 => ?_)
  · exact absurd (by assumption) (by simp)
  refine S.exit rfl ?_
  refine S.seq (S.seq (S.region rfl ?_))
  refine O.op (.p rfl) (.as rfl) ?_
  refine O.nil ?_
  refine S.block ?_
  refine S.unroll ?_
  refine S.seq (S.seq (S.region rfl ?_))
  refine O.op (.p rfl) (.mv rfl) ?_
  refine O.op (.p rfl) (.mv rfl) ?_
  refine O.op (.p rfl) (.len rfl Go.Proofs.Tryz.underlying69 rfl) ?_
  refine O.op (.p rfl) (.lss rfl rfl) ?_
  refine O.nil ?_
  first | refine S.condD rfl (fun h126 => ?_) (fun h126 => ?_) | refine S.condB rfl (fun h126 => ?_) (fun h126 => ?_)
  · exact absurd (by assumption) (by simp)
  refine S.exit rfl ?_
  refine S.seq (S.seq (S.region rfl ?_))
  refine O.op (.p rfl) (.as rfl) ?_
  refine O.nil ?_
  refine S.block ?_
  refine S.unroll ?_
  refine S.seq (S.seq (S.region rfl ?_))
  refine O.op (.p rfl) (.mv rfl) ?_
  refine O.op (.p rfl) (.mv rfl) ?_
  refine O.op (.p rfl) (.len rfl Go.Proofs.Tryz.underlying69 rfl) ?_
  refine O.op (.p rfl) (.lss rfl rfl) ?_
  refine O.nil ?_
  first | refine S.condD rfl (fun h155 => ?_) (fun h155 => ?_) | refine S.condB rfl (fun h155 => ?_) (fun h155 => ?_)
  · exact absurd (by assumption) (by simp)
  refine S.exit rfl ?_
  refine S.seq (S.region rfl ?_)
  refine O.op (.p rfl) (.as rfl) ?_
  refine O.nil ?_
  refine S.ret Go.Proofs.Tryz.results70 rfl fun w hw => Holds.end_ hR hw ?_
  exact ⟨_, ⟨rfl, rfl⟩, by repeat (first | exact Picks.all | exact Picks.nil | (apply Picks.cons; focus (repeat (first | exact Sel.here | apply Sel.there))) | apply Picks.skip)⟩
theorem flatPackets_0 {r : Fr} : Con Go.Proofs.Tryz.prog 71 #[.slice none 0 0] r [] (Ret fun v η => v = .bool true ∧ η = []) := by
  refine Con.of (n := 193) [.slice none 0 0] rfl Go.Proofs.Tryz.func71 rfl rfl rfl fun g hg R hR => ?_
  refine S.seq (S.region rfl ?_)
  refine O.op (.p rfl) (.as rfl) ?_
  refine O.nil ?_
  refine S.seq (S.seq (S.region rfl ?_))
  refine O.op (.p rfl) (.as rfl) ?_
  refine O.nil ?_
  refine S.block ?_
  refine S.unroll ?_
  refine S.seq (S.seq (S.region rfl ?_))
  refine O.op (.p rfl) (.mv rfl) ?_
  refine O.op (.p rfl) (.mv rfl) ?_
  refine O.op (.p rfl) (.len rfl Go.Proofs.Tryz.underlying70 rfl) ?_
  refine O.op (.p rfl) (.lss rfl rfl) ?_
  refine O.nil ?_
  first | refine S.condD rfl (fun h19 => ?_) (fun h19 => ?_) | refine S.condB rfl (fun h19 => ?_) (fun h19 => ?_)
  · exact absurd (by assumption) (by simp)
  refine S.exit rfl ?_
  refine S.seq (S.region rfl ?_)
  refine O.op (.p rfl) (.mv rfl) ?_
  refine O.op (.p rfl) (.len rfl Go.Proofs.Tryz.underlying70 rfl) ?_
  refine O.opE (.p rfl) (.makeP (T := Rp.val) (.slice none 0 0) (m := 0) Go.Proofs.Tryz.underlying70 FactKit4.elem180 (by decide) ⟨rfl, rfl⟩ rfl rfl rfl rfl (by decide) (by decide)) ?_
  rintro _ _ ⟨a42, c42, rfl, rfl⟩
  refine O.op (.p rfl) (.as rfl) ?_
  refine O.nil ?_
  refine S.seq (S.seq (S.region rfl ?_))
  refine O.op (.p rfl) (.as rfl) ?_
  refine O.nil ?_
  refine S.block ?_
  refine S.unroll ?_
  refine S.seq (S.seq (S.region rfl ?_))
  refine O.op (.p rfl) (.mv rfl) ?_
  refine O.op (.p rfl) (.mv rfl) ?_
  refine O.op (.p rfl) (.len rfl Go.Proofs.Tryz.underlying70 rfl) ?_
  refine O.op (.p rfl) (.lss rfl rfl) ?_
  refine O.nil ?_
  first | refine S.condD rfl (fun h46 => ?_) (fun h46 => ?_) | refine S.condB rfl (fun h46 => ?_) (fun h46 => ?_)
  · exact absurd (by assumption) (by simp)
  refine S.exit rfl ?_
  refine S.seq (S.seq (S.region rfl ?_))
  refine O.op (.p rfl) (.as rfl) ?_
  refine O.nil ?_
  refine S.block ?_
  refine S.unroll ?_
  refine S.seq (S.seq (S.region rfl ?_))
  refine O.op (.p rfl) (.mv rfl) ?_
  refine O.op (.p rfl) (.mv rfl) ?_
  refine O.op (.p rfl) (.len rfl Go.Proofs.Tryz.underlying70 rfl) ?_
  refine O.op (.p rfl) (.lss rfl rfl) ?_
  refine O.nil ?_
  first | refine S.condD rfl (fun h76 => ?_) (fun h76 => ?_) | refine S.condB rfl (fun h76 => ?_) (fun h76 => ?_)
  · exact absurd (by assumption) (by simp)
  refine S.exit rfl ?_
  refine S.seq (S.seq (S.region rfl ?_))
  refine O.op (.p rfl) (.as rfl) ?_
  refine O.nil ?_
  refine S.block ?_
  refine S.unroll ?_
  refine S.seq (S.seq (S.region rfl ?_))
  refine O.op (.p rfl) (.mv rfl) ?_
  refine O.op (.p rfl) (.mv rfl) ?_
  refine O.op (.p rfl) (.len rfl Go.Proofs.Tryz.underlying70 rfl) ?_
  refine O.op (.p rfl) (.lss rfl rfl) ?_
  refine O.nil ?_
  first | refine S.condD rfl (fun h126 => ?_) (fun h126 => ?_) | refine S.condB rfl (fun h126 => ?_) (fun h126 => ?_)
  · exact absurd (by assumption) (by simp)
  refine S.exit rfl ?_
  refine S.seq (S.seq (S.region rfl ?_))
  refine O.op (.p rfl) (.as rfl) ?_
  refine O.nil ?_
  refine S.block ?_
  refine S.unroll ?_
  refine S.seq (S.seq (S.region rfl ?_))
  refine O.op (.p rfl) (.mv rfl) ?_
  refine O.op (.p rfl) (.mv rfl) ?_
  refine O.op (.p rfl) (.len rfl Go.Proofs.Tryz.underlying70 rfl) ?_
  refine O.op (.p rfl) (.lss rfl rfl) ?_
  refine O.nil ?_
  first | refine S.condD rfl (fun h155 => ?_) (fun h155 => ?_) | refine S.condB rfl (fun h155 => ?_) (fun h155 => ?_)
  · exact absurd (by assumption) (by simp)
  refine S.exit rfl ?_
  refine S.seq (S.region rfl ?_)
  refine O.op (.p rfl) (.as rfl) ?_
  refine O.nil ?_
  refine S.ret Go.Proofs.Tryz.results71 rfl fun w hw => Holds.end_ hR hw ?_
  exact ⟨_, ⟨rfl, rfl⟩, by repeat (first | exact Picks.all | exact Picks.nil | (apply Picks.cons; focus (repeat (first | exact Sel.here | apply Sel.there))) | apply Picks.skip)⟩
theorem flatEntries_0 {r : Fr} : Con Go.Proofs.Tryz.prog 72 #[.slice none 0 0] r [] (Ret fun v η => v = .bool true ∧ η = []) := by
  refine Con.of (n := 193) [.slice none 0 0] rfl Go.Proofs.Tryz.func72 rfl rfl rfl fun g hg R hR => ?_
  refine S.seq (S.region rfl ?_)
  refine O.op (.p rfl) (.as rfl) ?_
  refine O.nil ?_
  refine S.seq (S.seq (S.region rfl ?_))
  refine O.op (.p rfl) (.as rfl) ?_
  refine O.nil ?_
  refine S.block ?_
  refine S.unroll ?_
  refine S.seq (S.seq (S.region rfl ?_))
  refine O.op (.p rfl) (.mv rfl) ?_
  refine O.op (.p rfl) (.mv rfl) ?_
  refine O.op (.p rfl) (.len rfl Go.Proofs.Tryz.underlying71 rfl) ?_
  refine O.op (.p rfl) (.lss rfl rfl) ?_
  refine O.nil ?_
  first | refine S.condD rfl (fun h19 => ?_) (fun h19 => ?_) | refine S.condB rfl (fun h19 => ?_) (fun h19 => ?_)
  · exact absurd (by assumption) (by simp)
  refine S.exit rfl ?_
  refine S.seq (S.region rfl ?_)
  refine O.op (.p rfl) (.mv rfl) ?_
  refine O.op (.p rfl) (.len rfl Go.Proofs.Tryz.underlying71 rfl) ?_
  refine O.opE (.p rfl) (.makeP (T := Rp.val) (.slice none 0 0) (m := 0) Go.Proofs.Tryz.underlying71 FactKit4.elem185 (by decide) ⟨rfl, rfl⟩ rfl rfl rfl rfl (by decide) (by decide)) ?_
  rintro _ _ ⟨a42, c42, rfl, rfl⟩
  refine O.op (.p rfl) (.as rfl) ?_
  refine O.nil ?_
  refine S.seq (S.seq (S.region rfl ?_))
  refine O.op (.p rfl) (.as rfl) ?_
  refine O.nil ?_
  refine S.block ?_
  refine S.unroll ?_
  refine S.seq (S.seq (S.region rfl ?_))
  refine O.op (.p rfl) (.mv rfl) ?_
  refine O.op (.p rfl) (.mv rfl) ?_
  refine O.op (.p rfl) (.len rfl Go.Proofs.Tryz.underlying71 rfl) ?_
  refine O.op (.p rfl) (.lss rfl rfl) ?_
  refine O.nil ?_
  first | refine S.condD rfl (fun h46 => ?_) (fun h46 => ?_) | refine S.condB rfl (fun h46 => ?_) (fun h46 => ?_)
  · exact absurd (by assumption) (by simp)
  refine S.exit rfl ?_
  refine S.seq (S.seq (S.region rfl ?_))
  refine O.op (.p rfl) (.as rfl) ?_
  refine O.nil ?_
  refine S.block ?_
  refine S.unroll ?_
  refine S.seq (S.seq (S.region rfl ?_))
  refine O.op (.p rfl) (.mv rfl) ?_
  refine O.op (.p rfl) (.mv rfl) ?_
  refine O.op (.p rfl) (.len rfl Go.Proofs.Tryz.underlying71 rfl) ?_
  refine O.op (.p rfl) (.lss rfl rfl) ?_
  refine O.nil ?_
  first | refine S.condD rfl (fun h76 => ?_) (fun h76 => ?_) | refine S.condB rfl (fun h76 => ?_) (fun h76 => ?_)
  · exact absurd (by assumption) (by simp)
  refine S.exit rfl ?_
  refine S.seq (S.seq (S.region rfl ?_))
  refine O.op (.p rfl) (.as rfl) ?_
  refine O.nil ?_
  refine S.block ?_
  refine S.unroll ?_
  refine S.seq (S.seq (S.region rfl ?_))
  refine O.op (.p rfl) (.mv rfl) ?_
  refine O.op (.p rfl) (.mv rfl) ?_
  refine O.op (.p rfl) (.len rfl Go.Proofs.Tryz.underlying71 rfl) ?_
  refine O.op (.p rfl) (.lss rfl rfl) ?_
  refine O.nil ?_
  first | refine S.condD rfl (fun h126 => ?_) (fun h126 => ?_) | refine S.condB rfl (fun h126 => ?_) (fun h126 => ?_)
  · exact absurd (by assumption) (by simp)
  refine S.exit rfl ?_
  refine S.seq (S.seq (S.region rfl ?_))
  refine O.op (.p rfl) (.as rfl) ?_
  refine O.nil ?_
  refine S.block ?_
  refine S.unroll ?_
  refine S.seq (S.seq (S.region rfl ?_))
  refine O.op (.p rfl) (.mv rfl) ?_
  refine O.op (.p rfl) (.mv rfl) ?_
  refine O.op (.p rfl) (.len rfl Go.Proofs.Tryz.underlying71 rfl) ?_
  refine O.op (.p rfl) (.lss rfl rfl) ?_
  refine O.nil ?_
  first | refine S.condD rfl (fun h155 => ?_) (fun h155 => ?_) | refine S.condB rfl (fun h155 => ?_) (fun h155 => ?_)
  · exact absurd (by assumption) (by simp)
  refine S.exit rfl ?_
  refine S.seq (S.region rfl ?_)
  refine O.op (.p rfl) (.as rfl) ?_
  refine O.nil ?_
  refine S.ret Go.Proofs.Tryz.results72 rfl fun w hw => Holds.end_ hR hw ?_
  exact ⟨_, ⟨rfl, rfl⟩, by repeat (first | exact Picks.all | exact Picks.nil | (apply Picks.cons; focus (repeat (first | exact Sel.here | apply Sel.there))) | apply Picks.skip)⟩
theorem flatHeldRow_0 {r : Fr} : Con Go.Proofs.Tryz.prog 73 #[.slice none 0 0] r [] (Ret fun v η => v = .bool true ∧ η = []) := by
  refine Con.of (n := 193) [.slice none 0 0] rfl Go.Proofs.Tryz.func73 rfl rfl rfl fun g hg R hR => ?_
  refine S.seq (S.region rfl ?_)
  refine O.op (.p rfl) (.as rfl) ?_
  refine O.nil ?_
  refine S.seq (S.seq (S.region rfl ?_))
  refine O.op (.p rfl) (.as rfl) ?_
  refine O.nil ?_
  refine S.block ?_
  refine S.unroll ?_
  refine S.seq (S.seq (S.region rfl ?_))
  refine O.op (.p rfl) (.mv rfl) ?_
  refine O.op (.p rfl) (.mv rfl) ?_
  refine O.op (.p rfl) (.len rfl Go.Proofs.Tryz.underlying72 rfl) ?_
  refine O.op (.p rfl) (.lss rfl rfl) ?_
  refine O.nil ?_
  first | refine S.condD rfl (fun h19 => ?_) (fun h19 => ?_) | refine S.condB rfl (fun h19 => ?_) (fun h19 => ?_)
  · exact absurd (by assumption) (by simp)
  refine S.exit rfl ?_
  refine S.seq (S.region rfl ?_)
  refine O.op (.p rfl) (.mv rfl) ?_
  refine O.op (.p rfl) (.len rfl Go.Proofs.Tryz.underlying72 rfl) ?_
  refine O.opE (.p rfl) (.makeP (T := Rp.val) (.slice none 0 0) (m := 0) Go.Proofs.Tryz.underlying72 FactKit4.elem191 (by decide) ⟨rfl, rfl⟩ rfl rfl rfl rfl (by decide) (by decide)) ?_
  rintro _ _ ⟨a42, c42, rfl, rfl⟩
  refine O.op (.p rfl) (.as rfl) ?_
  refine O.nil ?_
  refine S.seq (S.seq (S.region rfl ?_))
  refine O.op (.p rfl) (.as rfl) ?_
  refine O.nil ?_
  refine S.block ?_
  refine S.unroll ?_
  refine S.seq (S.seq (S.region rfl ?_))
  refine O.op (.p rfl) (.mv rfl) ?_
  refine O.op (.p rfl) (.mv rfl) ?_
  refine O.op (.p rfl) (.len rfl Go.Proofs.Tryz.underlying72 rfl) ?_
  refine O.op (.p rfl) (.lss rfl rfl) ?_
  refine O.nil ?_
  first | refine S.condD rfl (fun h46 => ?_) (fun h46 => ?_) | refine S.condB rfl (fun h46 => ?_) (fun h46 => ?_)
  · exact absurd (by assumption) (by simp)
  refine S.exit rfl ?_
  refine S.seq (S.seq (S.region rfl ?_))
  refine O.op (.p rfl) (.as rfl) ?_
  refine O.nil ?_
  refine S.block ?_
  refine S.unroll ?_
  refine S.seq (S.seq (S.region rfl ?_))
  refine O.op (.p rfl) (.mv rfl) ?_
  refine O.op (.p rfl) (.mv rfl) ?_
  refine O.op (.p rfl) (.len rfl Go.Proofs.Tryz.underlying72 rfl) ?_
  refine O.op (.p rfl) (.lss rfl rfl) ?_
  refine O.nil ?_
  first | refine S.condD rfl (fun h76 => ?_) (fun h76 => ?_) | refine S.condB rfl (fun h76 => ?_) (fun h76 => ?_)
  · exact absurd (by assumption) (by simp)
  refine S.exit rfl ?_
  refine S.seq (S.seq (S.region rfl ?_))
  refine O.op (.p rfl) (.as rfl) ?_
  refine O.nil ?_
  refine S.block ?_
  refine S.unroll ?_
  refine S.seq (S.seq (S.region rfl ?_))
  refine O.op (.p rfl) (.mv rfl) ?_
  refine O.op (.p rfl) (.mv rfl) ?_
  refine O.op (.p rfl) (.len rfl Go.Proofs.Tryz.underlying72 rfl) ?_
  refine O.op (.p rfl) (.lss rfl rfl) ?_
  refine O.nil ?_
  first | refine S.condD rfl (fun h126 => ?_) (fun h126 => ?_) | refine S.condB rfl (fun h126 => ?_) (fun h126 => ?_)
  · exact absurd (by assumption) (by simp)
  refine S.exit rfl ?_
  refine S.seq (S.seq (S.region rfl ?_))
  refine O.op (.p rfl) (.as rfl) ?_
  refine O.nil ?_
  refine S.block ?_
  refine S.unroll ?_
  refine S.seq (S.seq (S.region rfl ?_))
  refine O.op (.p rfl) (.mv rfl) ?_
  refine O.op (.p rfl) (.mv rfl) ?_
  refine O.op (.p rfl) (.len rfl Go.Proofs.Tryz.underlying72 rfl) ?_
  refine O.op (.p rfl) (.lss rfl rfl) ?_
  refine O.nil ?_
  first | refine S.condD rfl (fun h155 => ?_) (fun h155 => ?_) | refine S.condB rfl (fun h155 => ?_) (fun h155 => ?_)
  · exact absurd (by assumption) (by simp)
  refine S.exit rfl ?_
  refine S.seq (S.region rfl ?_)
  refine O.op (.p rfl) (.as rfl) ?_
  refine O.nil ?_
  refine S.ret Go.Proofs.Tryz.results73 rfl fun w hw => Holds.end_ hR hw ?_
  exact ⟨_, ⟨rfl, rfl⟩, by repeat (first | exact Picks.all | exact Picks.nil | (apply Picks.cons; focus (repeat (first | exact Sel.here | apply Sel.there))) | apply Picks.skip)⟩
theorem flatConfigs_0 {r : Fr} : Con Go.Proofs.Tryz.prog 74 #[.slice none 0 0] r [] (Ret fun v η => v = .bool true ∧ η = []) := by
  refine Con.of (n := 193) [.slice none 0 0] rfl Go.Proofs.Tryz.func74 rfl rfl rfl fun g hg R hR => ?_
  refine S.seq (S.region rfl ?_)
  refine O.op (.p rfl) (.as rfl) ?_
  refine O.nil ?_
  refine S.seq (S.seq (S.region rfl ?_))
  refine O.op (.p rfl) (.as rfl) ?_
  refine O.nil ?_
  refine S.block ?_
  refine S.unroll ?_
  refine S.seq (S.seq (S.region rfl ?_))
  refine O.op (.p rfl) (.mv rfl) ?_
  refine O.op (.p rfl) (.mv rfl) ?_
  refine O.op (.p rfl) (.len rfl Go.Proofs.Tryz.underlying73 rfl) ?_
  refine O.op (.p rfl) (.lss rfl rfl) ?_
  refine O.nil ?_
  first | refine S.condD rfl (fun h19 => ?_) (fun h19 => ?_) | refine S.condB rfl (fun h19 => ?_) (fun h19 => ?_)
  · exact absurd (by assumption) (by simp)
  refine S.exit rfl ?_
  refine S.seq (S.region rfl ?_)
  refine O.op (.p rfl) (.mv rfl) ?_
  refine O.op (.p rfl) (.len rfl Go.Proofs.Tryz.underlying73 rfl) ?_
  refine O.opE (.p rfl) (.makeP (T := Rp.val) (.slice none 0 0) (m := 0) Go.Proofs.Tryz.underlying73 FactKit4.elem196 (by decide) ⟨rfl, rfl⟩ rfl rfl rfl rfl (by decide) (by decide)) ?_
  rintro _ _ ⟨a42, c42, rfl, rfl⟩
  refine O.op (.p rfl) (.as rfl) ?_
  refine O.nil ?_
  refine S.seq (S.seq (S.region rfl ?_))
  refine O.op (.p rfl) (.as rfl) ?_
  refine O.nil ?_
  refine S.block ?_
  refine S.unroll ?_
  refine S.seq (S.seq (S.region rfl ?_))
  refine O.op (.p rfl) (.mv rfl) ?_
  refine O.op (.p rfl) (.mv rfl) ?_
  refine O.op (.p rfl) (.len rfl Go.Proofs.Tryz.underlying73 rfl) ?_
  refine O.op (.p rfl) (.lss rfl rfl) ?_
  refine O.nil ?_
  first | refine S.condD rfl (fun h46 => ?_) (fun h46 => ?_) | refine S.condB rfl (fun h46 => ?_) (fun h46 => ?_)
  · exact absurd (by assumption) (by simp)
  refine S.exit rfl ?_
  refine S.seq (S.seq (S.region rfl ?_))
  refine O.op (.p rfl) (.as rfl) ?_
  refine O.nil ?_
  refine S.block ?_
  refine S.unroll ?_
  refine S.seq (S.seq (S.region rfl ?_))
  refine O.op (.p rfl) (.mv rfl) ?_
  refine O.op (.p rfl) (.mv rfl) ?_
  refine O.op (.p rfl) (.len rfl Go.Proofs.Tryz.underlying73 rfl) ?_
  refine O.op (.p rfl) (.lss rfl rfl) ?_
  refine O.nil ?_
  first | refine S.condD rfl (fun h76 => ?_) (fun h76 => ?_) | refine S.condB rfl (fun h76 => ?_) (fun h76 => ?_)
  · exact absurd (by assumption) (by simp)
  refine S.exit rfl ?_
  refine S.seq (S.seq (S.region rfl ?_))
  refine O.op (.p rfl) (.as rfl) ?_
  refine O.nil ?_
  refine S.block ?_
  refine S.unroll ?_
  refine S.seq (S.seq (S.region rfl ?_))
  refine O.op (.p rfl) (.mv rfl) ?_
  refine O.op (.p rfl) (.mv rfl) ?_
  refine O.op (.p rfl) (.len rfl Go.Proofs.Tryz.underlying73 rfl) ?_
  refine O.op (.p rfl) (.lss rfl rfl) ?_
  refine O.nil ?_
  first | refine S.condD rfl (fun h126 => ?_) (fun h126 => ?_) | refine S.condB rfl (fun h126 => ?_) (fun h126 => ?_)
  · exact absurd (by assumption) (by simp)
  refine S.exit rfl ?_
  refine S.seq (S.seq (S.region rfl ?_))
  refine O.op (.p rfl) (.as rfl) ?_
  refine O.nil ?_
  refine S.block ?_
  refine S.unroll ?_
  refine S.seq (S.seq (S.region rfl ?_))
  refine O.op (.p rfl) (.mv rfl) ?_
  refine O.op (.p rfl) (.mv rfl) ?_
  refine O.op (.p rfl) (.len rfl Go.Proofs.Tryz.underlying73 rfl) ?_
  refine O.op (.p rfl) (.lss rfl rfl) ?_
  refine O.nil ?_
  first | refine S.condD rfl (fun h155 => ?_) (fun h155 => ?_) | refine S.condB rfl (fun h155 => ?_) (fun h155 => ?_)
  · exact absurd (by assumption) (by simp)
  refine S.exit rfl ?_
  refine S.seq (S.region rfl ?_)
  refine O.op (.p rfl) (.as rfl) ?_
  refine O.nil ?_
  refine S.ret Go.Proofs.Tryz.results74 rfl fun w hw => Holds.end_ hR hw ?_
  exact ⟨_, ⟨rfl, rfl⟩, by repeat (first | exact Picks.all | exact Picks.nil | (apply Picks.cons; focus (repeat (first | exact Sel.here | apply Sel.there))) | apply Picks.skip)⟩
theorem flatSteps_0 {r : Fr} : Con Go.Proofs.Tryz.prog 75 #[.slice none 0 0] r [] (Ret fun v η => v = .bool true ∧ η = []) := by
  refine Con.of (n := 193) [.slice none 0 0] rfl Go.Proofs.Tryz.func75 rfl rfl rfl fun g hg R hR => ?_
  refine S.seq (S.region rfl ?_)
  refine O.op (.p rfl) (.as rfl) ?_
  refine O.nil ?_
  refine S.seq (S.seq (S.region rfl ?_))
  refine O.op (.p rfl) (.as rfl) ?_
  refine O.nil ?_
  refine S.block ?_
  refine S.unroll ?_
  refine S.seq (S.seq (S.region rfl ?_))
  refine O.op (.p rfl) (.mv rfl) ?_
  refine O.op (.p rfl) (.mv rfl) ?_
  refine O.op (.p rfl) (.len rfl Go.Proofs.Tryz.underlying74 rfl) ?_
  refine O.op (.p rfl) (.lss rfl rfl) ?_
  refine O.nil ?_
  first | refine S.condD rfl (fun h19 => ?_) (fun h19 => ?_) | refine S.condB rfl (fun h19 => ?_) (fun h19 => ?_)
  · exact absurd (by assumption) (by simp)
  refine S.exit rfl ?_
  refine S.seq (S.region rfl ?_)
  refine O.op (.p rfl) (.mv rfl) ?_
  refine O.op (.p rfl) (.len rfl Go.Proofs.Tryz.underlying74 rfl) ?_
  refine O.opE (.p rfl) (.makeP (T := Rp.val) (.slice none 0 0) (m := 0) Go.Proofs.Tryz.underlying74 FactKit4.elem201 (by decide) ⟨rfl, rfl⟩ rfl rfl rfl rfl (by decide) (by decide)) ?_
  rintro _ _ ⟨a42, c42, rfl, rfl⟩
  refine O.op (.p rfl) (.as rfl) ?_
  refine O.nil ?_
  refine S.seq (S.seq (S.region rfl ?_))
  refine O.op (.p rfl) (.as rfl) ?_
  refine O.nil ?_
  refine S.block ?_
  refine S.unroll ?_
  refine S.seq (S.seq (S.region rfl ?_))
  refine O.op (.p rfl) (.mv rfl) ?_
  refine O.op (.p rfl) (.mv rfl) ?_
  refine O.op (.p rfl) (.len rfl Go.Proofs.Tryz.underlying74 rfl) ?_
  refine O.op (.p rfl) (.lss rfl rfl) ?_
  refine O.nil ?_
  first | refine S.condD rfl (fun h46 => ?_) (fun h46 => ?_) | refine S.condB rfl (fun h46 => ?_) (fun h46 => ?_)
  · exact absurd (by assumption) (by simp)
  refine S.exit rfl ?_
  refine S.seq (S.seq (S.region rfl ?_))
  refine O.op (.p rfl) (.as rfl) ?_
  refine O.nil ?_
  refine S.block ?_
  refine S.unroll ?_
  refine S.seq (S.seq (S.region rfl ?_))
  refine O.op (.p rfl) (.mv rfl) ?_
  refine O.op (.p rfl) (.mv rfl) ?_
  refine O.op (.p rfl) (.len rfl Go.Proofs.Tryz.underlying74 rfl) ?_
  refine O.op (.p rfl) (.lss rfl rfl) ?_
  refine O.nil ?_
  first | refine S.condD rfl (fun h76 => ?_) (fun h76 => ?_) | refine S.condB rfl (fun h76 => ?_) (fun h76 => ?_)
  · exact absurd (by assumption) (by simp)
  refine S.exit rfl ?_
  refine S.seq (S.seq (S.region rfl ?_))
  refine O.op (.p rfl) (.as rfl) ?_
  refine O.nil ?_
  refine S.block ?_
  refine S.unroll ?_
  refine S.seq (S.seq (S.region rfl ?_))
  refine O.op (.p rfl) (.mv rfl) ?_
  refine O.op (.p rfl) (.mv rfl) ?_
  refine O.op (.p rfl) (.len rfl Go.Proofs.Tryz.underlying74 rfl) ?_
  refine O.op (.p rfl) (.lss rfl rfl) ?_
  refine O.nil ?_
  first | refine S.condD rfl (fun h126 => ?_) (fun h126 => ?_) | refine S.condB rfl (fun h126 => ?_) (fun h126 => ?_)
  · exact absurd (by assumption) (by simp)
  refine S.exit rfl ?_
  refine S.seq (S.seq (S.region rfl ?_))
  refine O.op (.p rfl) (.as rfl) ?_
  refine O.nil ?_
  refine S.block ?_
  refine S.unroll ?_
  refine S.seq (S.seq (S.region rfl ?_))
  refine O.op (.p rfl) (.mv rfl) ?_
  refine O.op (.p rfl) (.mv rfl) ?_
  refine O.op (.p rfl) (.len rfl Go.Proofs.Tryz.underlying74 rfl) ?_
  refine O.op (.p rfl) (.lss rfl rfl) ?_
  refine O.nil ?_
  first | refine S.condD rfl (fun h155 => ?_) (fun h155 => ?_) | refine S.condB rfl (fun h155 => ?_) (fun h155 => ?_)
  · exact absurd (by assumption) (by simp)
  refine S.exit rfl ?_
  refine S.seq (S.region rfl ?_)
  refine O.op (.p rfl) (.as rfl) ?_
  refine O.nil ?_
  refine S.ret Go.Proofs.Tryz.results75 rfl fun w hw => Holds.end_ hR hw ?_
  exact ⟨_, ⟨rfl, rfl⟩, by repeat (first | exact Picks.all | exact Picks.nil | (apply Picks.cons; focus (repeat (first | exact Sel.here | apply Sel.there))) | apply Picks.skip)⟩
theorem flatTales_0 {r : Fr} : Con Go.Proofs.Tryz.prog 76 #[.slice none 0 0] r [] (Ret fun v η => v = .bool true ∧ η = []) := by
  refine Con.of (n := 193) [.slice none 0 0] rfl Go.Proofs.Tryz.func76 rfl rfl rfl fun g hg R hR => ?_
  refine S.seq (S.region rfl ?_)
  refine O.op (.p rfl) (.as rfl) ?_
  refine O.nil ?_
  refine S.seq (S.seq (S.region rfl ?_))
  refine O.op (.p rfl) (.as rfl) ?_
  refine O.nil ?_
  refine S.block ?_
  refine S.unroll ?_
  refine S.seq (S.seq (S.region rfl ?_))
  refine O.op (.p rfl) (.mv rfl) ?_
  refine O.op (.p rfl) (.mv rfl) ?_
  refine O.op (.p rfl) (.len rfl Go.Proofs.Tryz.underlying75 rfl) ?_
  refine O.op (.p rfl) (.lss rfl rfl) ?_
  refine O.nil ?_
  first | refine S.condD rfl (fun h19 => ?_) (fun h19 => ?_) | refine S.condB rfl (fun h19 => ?_) (fun h19 => ?_)
  · exact absurd (by assumption) (by simp)
  refine S.exit rfl ?_
  refine S.seq (S.region rfl ?_)
  refine O.op (.p rfl) (.mv rfl) ?_
  refine O.op (.p rfl) (.len rfl Go.Proofs.Tryz.underlying75 rfl) ?_
  refine O.opE (.p rfl) (.makeP (T := Rp.val) (.slice none 0 0) (m := 0) Go.Proofs.Tryz.underlying75 FactKit4.elem207 (by decide) ⟨rfl, rfl⟩ rfl rfl rfl rfl (by decide) (by decide)) ?_
  rintro _ _ ⟨a42, c42, rfl, rfl⟩
  refine O.op (.p rfl) (.as rfl) ?_
  refine O.nil ?_
  refine S.seq (S.seq (S.region rfl ?_))
  refine O.op (.p rfl) (.as rfl) ?_
  refine O.nil ?_
  refine S.block ?_
  refine S.unroll ?_
  refine S.seq (S.seq (S.region rfl ?_))
  refine O.op (.p rfl) (.mv rfl) ?_
  refine O.op (.p rfl) (.mv rfl) ?_
  refine O.op (.p rfl) (.len rfl Go.Proofs.Tryz.underlying75 rfl) ?_
  refine O.op (.p rfl) (.lss rfl rfl) ?_
  refine O.nil ?_
  first | refine S.condD rfl (fun h46 => ?_) (fun h46 => ?_) | refine S.condB rfl (fun h46 => ?_) (fun h46 => ?_)
  · exact absurd (by assumption) (by simp)
  refine S.exit rfl ?_
  refine S.seq (S.seq (S.region rfl ?_))
  refine O.op (.p rfl) (.as rfl) ?_
  refine O.nil ?_
  refine S.block ?_
  refine S.unroll ?_
  refine S.seq (S.seq (S.region rfl ?_))
  refine O.op (.p rfl) (.mv rfl) ?_
  refine O.op (.p rfl) (.mv rfl) ?_
  refine O.op (.p rfl) (.len rfl Go.Proofs.Tryz.underlying75 rfl) ?_
  refine O.op (.p rfl) (.lss rfl rfl) ?_
  refine O.nil ?_
  first | refine S.condD rfl (fun h76 => ?_) (fun h76 => ?_) | refine S.condB rfl (fun h76 => ?_) (fun h76 => ?_)
  · exact absurd (by assumption) (by simp)
  refine S.exit rfl ?_
  refine S.seq (S.seq (S.region rfl ?_))
  refine O.op (.p rfl) (.as rfl) ?_
  refine O.nil ?_
  refine S.block ?_
  refine S.unroll ?_
  refine S.seq (S.seq (S.region rfl ?_))
  refine O.op (.p rfl) (.mv rfl) ?_
  refine O.op (.p rfl) (.mv rfl) ?_
  refine O.op (.p rfl) (.len rfl Go.Proofs.Tryz.underlying75 rfl) ?_
  refine O.op (.p rfl) (.lss rfl rfl) ?_
  refine O.nil ?_
  first | refine S.condD rfl (fun h126 => ?_) (fun h126 => ?_) | refine S.condB rfl (fun h126 => ?_) (fun h126 => ?_)
  · exact absurd (by assumption) (by simp)
  refine S.exit rfl ?_
  refine S.seq (S.seq (S.region rfl ?_))
  refine O.op (.p rfl) (.as rfl) ?_
  refine O.nil ?_
  refine S.block ?_
  refine S.unroll ?_
  refine S.seq (S.seq (S.region rfl ?_))
  refine O.op (.p rfl) (.mv rfl) ?_
  refine O.op (.p rfl) (.mv rfl) ?_
  refine O.op (.p rfl) (.len rfl Go.Proofs.Tryz.underlying75 rfl) ?_
  refine O.op (.p rfl) (.lss rfl rfl) ?_
  refine O.nil ?_
  first | refine S.condD rfl (fun h155 => ?_) (fun h155 => ?_) | refine S.condB rfl (fun h155 => ?_) (fun h155 => ?_)
  · exact absurd (by assumption) (by simp)
  refine S.exit rfl ?_
  refine S.seq (S.region rfl ?_)
  refine O.op (.p rfl) (.as rfl) ?_
  refine O.nil ?_
  refine S.ret Go.Proofs.Tryz.results76 rfl fun w hw => Holds.end_ hR hw ?_
  exact ⟨_, ⟨rfl, rfl⟩, by repeat (first | exact Picks.all | exact Picks.nil | (apply Picks.cons; focus (repeat (first | exact Sel.here | apply Sel.there))) | apply Picks.skip)⟩

end Go.Proofs.YtodkpkmhnpmmgaaGreat
