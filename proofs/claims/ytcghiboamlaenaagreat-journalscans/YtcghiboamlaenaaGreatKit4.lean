import Derived.Test.YtcghiboamlaenaaGreatKit3
open Go Go.Sp
set_option maxRecDepth 100000
attribute [local irreducible] obj Own OwnP
namespace Go.Proofs.YtcghiboamlaenaaGreat
theorem FactKit4.elem113 : elemIs Go.Proofs.Tryz.prog 113 1 24 [.slice none 0 0] := elemIs.mk (by kernel_rfl) rfl
theorem FactKit4.elem114 : elemIs Go.Proofs.Tryz.prog 114 1 24 [.slice none 0 0] := elemIs.mk (by kernel_rfl) rfl
theorem FactKit4.elem115 : elemIs Go.Proofs.Tryz.prog 115 1 24 [.slice none 0 0] := elemIs.mk (by kernel_rfl) rfl
theorem FactKit4.elem116 : elemIs Go.Proofs.Tryz.prog 116 1 24 [.slice none 0 0] := elemIs.mk (by kernel_rfl) rfl
theorem FactKit4.elem117 : elemIs Go.Proofs.Tryz.prog 117 1 24 [.slice none 0 0] := elemIs.mk (by kernel_rfl) rfl
theorem FactKit4.elem119 : elemIs Go.Proofs.Tryz.prog 119 1 24 [.slice none 0 0] := elemIs.mk (by kernel_rfl) rfl
theorem FactKit4.elem121 : elemIs Go.Proofs.Tryz.prog 121 1 24 [.slice none 0 0] := elemIs.mk (by kernel_rfl) rfl
theorem FactKit4.elem125 : elemIs Go.Proofs.Tryz.prog 125 1 24 [.slice none 0 0] := elemIs.mk (by kernel_rfl) rfl
theorem FactKit4.elem130 : elemIs Go.Proofs.Tryz.prog 130 1 24 [.slice none 0 0] := elemIs.mk (by kernel_rfl) rfl
theorem FactKit4.elem135 : elemIs Go.Proofs.Tryz.prog 135 1 24 [.slice none 0 0] := elemIs.mk (by kernel_rfl) rfl
theorem FactKit4.elem140 : elemIs Go.Proofs.Tryz.prog 140 1 24 [.slice none 0 0] := elemIs.mk (by kernel_rfl) rfl
theorem FactKit4.elem146 : elemIs Go.Proofs.Tryz.prog 146 1 24 [.slice none 0 0] := elemIs.mk (by kernel_rfl) rfl
theorem FactKit4.elem151 : elemIs Go.Proofs.Tryz.prog 151 1 24 [.slice none 0 0] := elemIs.mk (by kernel_rfl) rfl
theorem FactKit4.elem156 : elemIs Go.Proofs.Tryz.prog 156 1 24 [.slice none 0 0] := elemIs.mk (by kernel_rfl) rfl
theorem FactKit4.elem161 : elemIs Go.Proofs.Tryz.prog 161 1 24 [.slice none 0 0] := elemIs.mk (by kernel_rfl) rfl
theorem FactKit4.elem166 : elemIs Go.Proofs.Tryz.prog 166 1 24 [.slice none 0 0] := elemIs.mk (by kernel_rfl) rfl
theorem FactKit4.elem172 : elemIs Go.Proofs.Tryz.prog 172 1 24 [.slice none 0 0] := elemIs.mk (by kernel_rfl) rfl
theorem FactKit4.elem178 : elemIs Go.Proofs.Tryz.prog 178 1 24 [.slice none 0 0] := elemIs.mk (by kernel_rfl) rfl
theorem FactKit4.elem183 : elemIs Go.Proofs.Tryz.prog 183 1 24 [.slice none 0 0] := elemIs.mk (by kernel_rfl) rfl
theorem FactKit4.elem188 : elemIs Go.Proofs.Tryz.prog 188 1 24 [.slice none 0 0] := elemIs.mk (by kernel_rfl) rfl
theorem FactKit4.elem194 : elemIs Go.Proofs.Tryz.prog 194 1 24 [.slice none 0 0] := elemIs.mk (by kernel_rfl) rfl
theorem FactKit4.elem23 : elemIs Go.Proofs.Tryz.prog 23 1 24 [.slice none 0 0] := elemIs.mk (by kernel_rfl) rfl
theorem FactKit4.elem34 : elemIs Go.Proofs.Tryz.prog 34 1 24 [.slice none 0 0] := elemIs.mk (by kernel_rfl) rfl
theorem FactKit4.elem37 : elemIs Go.Proofs.Tryz.prog 37 1 24 [.slice none 0 0] := elemIs.mk (by kernel_rfl) rfl

theorem flatLimbs_0 {r : Fr} : Con Go.Proofs.Tryz.prog 33 #[.slice none 0 0] r [] (Ret fun v η => v = .bool true ∧ η = []) := by
  refine Con.of (n := 200) [.slice none 0 0] rfl Go.Proofs.Tryz.func33 rfl rfl rfl fun g hg R hR => ?_
  refine S.seq (S.region rfl ?_)
  refine O.op (.p rfl) (.as rfl) ?_
  refine O.nil ?_
  refine S.seq (S.seq (S.region rfl ?_))
  refine O.op (.p rfl) (.as rfl) ?_
  refine O.nil ?_
  refine S.block ?_
  refine S.unroll ?_
  refine S.seq (S.seq (S.region rfl ?_))
  refine O.op (.p rfl) (.mv rfl) ?_
  refine O.op (.p rfl) (.mv rfl) ?_
  refine O.op (.p rfl) (.len rfl Go.Proofs.Tryz.underlying48 rfl) ?_
  refine O.op (.p rfl) (.lss rfl rfl) ?_
  refine O.nil ?_
  first | refine S.condD rfl (fun h19 => ?_) (fun h19 => ?_) | refine S.condB rfl (fun h19 => ?_) (fun h19 => ?_)
  · exact absurd (by assumption) (by simp)
  refine S.exit rfl ?_
  refine S.seq (S.region rfl ?_)
  refine O.op (.p rfl) (.mv rfl) ?_
  refine O.op (.p rfl) (.len rfl Go.Proofs.Tryz.underlying48 rfl) ?_
  refine O.opE (.p rfl) (.makeP (T := Rp.val) (.slice none 0 0) (m := 0) Go.Proofs.Tryz.underlying48 FactKit4.elem113 (by decide) ⟨rfl, rfl⟩ rfl rfl rfl rfl (by decide) (by decide)) ?_
  rintro _ _ ⟨a43, c43, rfl, rfl⟩
  refine O.op (.p rfl) (.as rfl) ?_
  refine O.nil ?_
  refine S.seq (S.seq (S.region rfl ?_))
  refine O.op (.p rfl) (.as rfl) ?_
  refine O.nil ?_
  refine S.block ?_
  refine S.unroll ?_
  refine S.seq (S.seq (S.region rfl ?_))
  refine O.op (.p rfl) (.mv rfl) ?_
  refine O.op (.p rfl) (.mv rfl) ?_
  refine O.op (.p rfl) (.len rfl Go.Proofs.Tryz.underlying48 rfl) ?_
  refine O.op (.p rfl) (.lss rfl rfl) ?_
  refine O.nil ?_
  first | refine S.condD rfl (fun h47 => ?_) (fun h47 => ?_) | refine S.condB rfl (fun h47 => ?_) (fun h47 => ?_)
  · exact absurd (by assumption) (by simp)
  refine S.exit rfl ?_
  refine S.seq (S.seq (S.region rfl ?_))
  refine O.op (.p rfl) (.as rfl) ?_
  refine O.nil ?_
  refine S.block ?_
  refine S.unroll ?_
  refine S.seq (S.seq (S.region rfl ?_))
  refine O.op (.p rfl) (.mv rfl) ?_
  refine O.op (.p rfl) (.mv rfl) ?_
  refine O.op (.p rfl) (.len rfl Go.Proofs.Tryz.underlying48 rfl) ?_
  refine O.op (.p rfl) (.lss rfl rfl) ?_
  refine O.nil ?_
  first | refine S.condD rfl (fun h78 => ?_) (fun h78 => ?_) | refine S.condB rfl (fun h78 => ?_) (fun h78 => ?_)
  · exact absurd (by assumption) (by simp)
  refine S.exit rfl ?_
  refine S.seq (S.seq (S.region rfl ?_))
  refine O.op (.p rfl) (.as rfl) ?_
  refine O.nil ?_
  refine S.block ?_
  refine S.unroll ?_
  refine S.seq (S.seq (S.region rfl ?_))
  refine O.op (.p rfl) (.mv rfl) ?_
  refine O.op (.p rfl) (.mv rfl) ?_
  refine O.op (.p rfl) (.len rfl Go.Proofs.Tryz.underlying48 rfl) ?_
  refine O.op (.p rfl) (.lss rfl rfl) ?_
  refine O.nil ?_
  first | refine S.condD rfl (fun h130 => ?_) (fun h130 => ?_) | refine S.condB rfl (fun h130 => ?_) (fun h130 => ?_)
  · exact absurd (by assumption) (by simp)
  refine S.exit rfl ?_
  refine S.seq (S.seq (S.region rfl ?_))
  refine O.op (.p rfl) (.as rfl) ?_
  refine O.nil ?_
  refine S.block ?_
  refine S.unroll ?_
  refine S.seq (S.seq (S.region rfl ?_))
  refine O.op (.p rfl) (.mv rfl) ?_
  refine O.op (.p rfl) (.mv rfl) ?_
  refine O.op (.p rfl) (.len rfl Go.Proofs.Tryz.underlying48 rfl) ?_
  refine O.op (.p rfl) (.lss rfl rfl) ?_
  refine O.nil ?_
  first | refine S.condD rfl (fun h160 => ?_) (fun h160 => ?_) | refine S.condB rfl (fun h160 => ?_) (fun h160 => ?_)
  · exact absurd (by assumption) (by simp)
  refine S.exit rfl ?_
  refine S.seq (S.region rfl ?_)
  refine O.op (.p rfl) (.as rfl) ?_
  refine O.nil ?_
  refine S.ret Go.Proofs.Tryz.results33 rfl fun w hw => Holds.end_ hR hw ?_
  exact ⟨_, ⟨rfl, rfl⟩, by repeat (first | exact Picks.all | exact Picks.nil | (apply Picks.cons; focus (repeat (first | exact Sel.here | apply Sel.there))) | apply Picks.skip)⟩
theorem flatWords_0 {r : Fr} : Con Go.Proofs.Tryz.prog 34 #[.slice none 0 0] r [] (Ret fun v η => v = .bool true ∧ η = []) := by
  refine Con.of (n := 200) [.slice none 0 0] rfl Go.Proofs.Tryz.func34 rfl rfl rfl fun g hg R hR => ?_
  refine S.seq (S.region rfl ?_)
  refine O.op (.p rfl) (.as rfl) ?_
  refine O.nil ?_
  refine S.seq (S.seq (S.region rfl ?_))
  refine O.op (.p rfl) (.as rfl) ?_
  refine O.nil ?_
  refine S.block ?_
  refine S.unroll ?_
  refine S.seq (S.seq (S.region rfl ?_))
  refine O.op (.p rfl) (.mv rfl) ?_
  refine O.op (.p rfl) (.mv rfl) ?_
  refine O.op (.p rfl) (.len rfl Go.Proofs.Tryz.underlying49 rfl) ?_
  refine O.op (.p rfl) (.lss rfl rfl) ?_
  refine O.nil ?_
  first | refine S.condD rfl (fun h19 => ?_) (fun h19 => ?_) | refine S.condB rfl (fun h19 => ?_) (fun h19 => ?_)
  · exact absurd (by assumption) (by simp)
  refine S.exit rfl ?_
  refine S.seq (S.region rfl ?_)
  refine O.op (.p rfl) (.mv rfl) ?_
  refine O.op (.p rfl) (.len rfl Go.Proofs.Tryz.underlying49 rfl) ?_
  refine O.opE (.p rfl) (.makeP (T := Rp.val) (.slice none 0 0) (m := 0) Go.Proofs.Tryz.underlying49 FactKit4.elem114 (by decide) ⟨rfl, rfl⟩ rfl rfl rfl rfl (by decide) (by decide)) ?_
  rintro _ _ ⟨a43, c43, rfl, rfl⟩
  refine O.op (.p rfl) (.as rfl) ?_
  refine O.nil ?_
  refine S.seq (S.seq (S.region rfl ?_))
  refine O.op (.p rfl) (.as rfl) ?_
  refine O.nil ?_
  refine S.block ?_
  refine S.unroll ?_
  refine S.seq (S.seq (S.region rfl ?_))
  refine O.op (.p rfl) (.mv rfl) ?_
  refine O.op (.p rfl) (.mv rfl) ?_
  refine O.op (.p rfl) (.len rfl Go.Proofs.Tryz.underlying49 rfl) ?_
  refine O.op (.p rfl) (.lss rfl rfl) ?_
  refine O.nil ?_
  first | refine S.condD rfl (fun h47 => ?_) (fun h47 => ?_) | refine S.condB rfl (fun h47 => ?_) (fun h47 => ?_)
  · exact absurd (by assumption) (by simp)
  refine S.exit rfl ?_
  refine S.seq (S.seq (S.region rfl ?_))
  refine O.op (.p rfl) (.as rfl) ?_
  refine O.nil ?_
  refine S.block ?_
  refine S.unroll ?_
  refine S.seq (S.seq (S.region rfl ?_))
  refine O.op (.p rfl) (.mv rfl) ?_
  refine O.op (.p rfl) (.mv rfl) ?_
  refine O.op (.p rfl) (.len rfl Go.Proofs.Tryz.underlying49 rfl) ?_
  refine O.op (.p rfl) (.lss rfl rfl) ?_
  refine O.nil ?_
  first | refine S.condD rfl (fun h78 => ?_) (fun h78 => ?_) | refine S.condB rfl (fun h78 => ?_) (fun h78 => ?_)
  · exact absurd (by assumption) (by simp)
  refine S.exit rfl ?_
  refine S.seq (S.seq (S.region rfl ?_))
  refine O.op (.p rfl) (.as rfl) ?_
  refine O.nil ?_
  refine S.block ?_
  refine S.unroll ?_
  refine S.seq (S.seq (S.region rfl ?_))
  refine O.op (.p rfl) (.mv rfl) ?_
  refine O.op (.p rfl) (.mv rfl) ?_
  refine O.op (.p rfl) (.len rfl Go.Proofs.Tryz.underlying49 rfl) ?_
  refine O.op (.p rfl) (.lss rfl rfl) ?_
  refine O.nil ?_
  first | refine S.condD rfl (fun h130 => ?_) (fun h130 => ?_) | refine S.condB rfl (fun h130 => ?_) (fun h130 => ?_)
  · exact absurd (by assumption) (by simp)
  refine S.exit rfl ?_
  refine S.seq (S.seq (S.region rfl ?_))
  refine O.op (.p rfl) (.as rfl) ?_
  refine O.nil ?_
  refine S.block ?_
  refine S.unroll ?_
  refine S.seq (S.seq (S.region rfl ?_))
  refine O.op (.p rfl) (.mv rfl) ?_
  refine O.op (.p rfl) (.mv rfl) ?_
  refine O.op (.p rfl) (.len rfl Go.Proofs.Tryz.underlying49 rfl) ?_
  refine O.op (.p rfl) (.lss rfl rfl) ?_
  refine O.nil ?_
  first | refine S.condD rfl (fun h160 => ?_) (fun h160 => ?_) | refine S.condB rfl (fun h160 => ?_) (fun h160 => ?_)
  · exact absurd (by assumption) (by simp)
  refine S.exit rfl ?_
  refine S.seq (S.region rfl ?_)
  refine O.op (.p rfl) (.as rfl) ?_
  refine O.nil ?_
  refine S.ret Go.Proofs.Tryz.results34 rfl fun w hw => Holds.end_ hR hw ?_
  exact ⟨_, ⟨rfl, rfl⟩, by repeat (first | exact Picks.all | exact Picks.nil | (apply Picks.cons; focus (repeat (first | exact Sel.here | apply Sel.there))) | apply Picks.skip)⟩
theorem flatInts_0 {r : Fr} : Con Go.Proofs.Tryz.prog 35 #[.slice none 0 0] r [] (Ret fun v η => v = .bool true ∧ η = []) := by
  refine Con.of (n := 193) [.slice none 0 0] rfl Go.Proofs.Tryz.func35 rfl rfl rfl fun g hg R hR => ?_
  refine S.seq (S.region rfl ?_)
  refine O.op (.p rfl) (.as rfl) ?_
  refine O.nil ?_
  refine S.seq (S.seq (S.region rfl ?_))
  refine O.op (.p rfl) (.as rfl) ?_
  refine O.nil ?_
  refine S.block ?_
  refine S.unroll ?_
  refine S.seq (S.seq (S.region rfl ?_))
  refine O.op (.p rfl) (.mv rfl) ?_
  refine O.op (.p rfl) (.mv rfl) ?_
  refine O.op (.p rfl) (.len rfl Go.Proofs.Tryz.underlying50 rfl) ?_
  refine O.op (.p rfl) (.lss rfl rfl) ?_
  refine O.nil ?_
  first | refine S.condD rfl (fun h19 => ?_) (fun h19 => ?_) | refine S.condB rfl (fun h19 => ?_) (fun h19 => ?_)
  · exact absurd (by assumption) (by simp)
  refine S.exit rfl ?_
  refine S.seq (S.region rfl ?_)
  refine O.op (.p rfl) (.mv rfl) ?_
  refine O.op (.p rfl) (.len rfl Go.Proofs.Tryz.underlying50 rfl) ?_
  refine O.opE (.p rfl) (.makeP (T := Rp.val) (.slice none 0 0) (m := 0) Go.Proofs.Tryz.underlying50 FactKit4.elem115 (by decide) ⟨rfl, rfl⟩ rfl rfl rfl rfl (by decide) (by decide)) ?_
  rintro _ _ ⟨a42, c42, rfl, rfl⟩
  refine O.op (.p rfl) (.as rfl) ?_
  refine O.nil ?_
  refine S.seq (S.seq (S.region rfl ?_))
  refine O.op (.p rfl) (.as rfl) ?_
  refine O.nil ?_
  refine S.block ?_
  refine S.unroll ?_
  refine S.seq (S.seq (S.region rfl ?_))
  refine O.op (.p rfl) (.mv rfl) ?_
  refine O.op (.p rfl) (.mv rfl) ?_
  refine O.op (.p rfl) (.len rfl Go.Proofs.Tryz.underlying50 rfl) ?_
  refine O.op (.p rfl) (.lss rfl rfl) ?_
  refine O.nil ?_
  first | refine S.condD rfl (fun h46 => ?_) (fun h46 => ?_) | refine S.condB rfl (fun h46 => ?_) (fun h46 => ?_)
  · exact absurd (by assumption) (by simp)
  refine S.exit rfl ?_
  refine S.seq (S.seq (S.region rfl ?_))
  refine O.op (.p rfl) (.as rfl) ?_
  refine O.nil ?_
  refine S.block ?_
  refine S.unroll ?_
  refine S.seq (S.seq (S.region rfl ?_))
  refine O.op (.p rfl) (.mv rfl) ?_
  refine O.op (.p rfl) (.mv rfl) ?_
  refine O.op (.p rfl) (.len rfl Go.Proofs.Tryz.underlying50 rfl) ?_
  refine O.op (.p rfl) (.lss rfl rfl) ?_
  refine O.nil ?_
  first | refine S.condD rfl (fun h76 => ?_) (fun h76 => ?_) | refine S.condB rfl (fun h76 => ?_) (fun h76 => ?_)
  · exact absurd (by assumption) (by simp)
  refine S.exit rfl ?_
  refine S.seq (S.seq (S.region rfl ?_))
  refine O.op (.p rfl) (.as rfl) ?_
  refine O.nil ?_
  refine S.block ?_
  refine S.unroll ?_
  refine S.seq (S.seq (S.region rfl ?_))
  refine O.op (.p rfl) (.mv rfl) ?_
  refine O.op (.p rfl) (.mv rfl) ?_
  refine O.op (.p rfl) (.len rfl Go.Proofs.Tryz.underlying50 rfl) ?_
  refine O.op (.p rfl) (.lss rfl rfl) ?_
  refine O.nil ?_
  first | refine S.condD rfl (fun h126 => ?_) (fun h126 => ?_) | refine S.condB rfl (fun h126 => ?_) (fun h126 => ?_)
  · exact absurd (by assumption) (by simp)
  refine S.exit rfl ?_
  refine S.seq (S.seq (S.region rfl ?_))
  refine O.op (.p rfl) (.as rfl) ?_
  refine O.nil ?_
  refine S.block ?_
  refine S.unroll ?_
  refine S.seq (S.seq (S.region rfl ?_))
  refine O.op (.p rfl) (.mv rfl) ?_
  refine O.op (.p rfl) (.mv rfl) ?_
  refine O.op (.p rfl) (.len rfl Go.Proofs.Tryz.underlying50 rfl) ?_
  refine O.op (.p rfl) (.lss rfl rfl) ?_
  refine O.nil ?_
  first | refine S.condD rfl (fun h155 => ?_) (fun h155 => ?_) | refine S.condB rfl (fun h155 => ?_) (fun h155 => ?_)
  · exact absurd (by assumption) (by simp)
  refine S.exit rfl ?_
  refine S.seq (S.region rfl ?_)
  refine O.op (.p rfl) (.as rfl) ?_
  refine O.nil ?_
  refine S.ret Go.Proofs.Tryz.results35 rfl fun w hw => Holds.end_ hR hw ?_
  exact ⟨_, ⟨rfl, rfl⟩, by repeat (first | exact Picks.all | exact Picks.nil | (apply Picks.cons; focus (repeat (first | exact Sel.here | apply Sel.there))) | apply Picks.skip)⟩
theorem flatLongs_0 {r : Fr} : Con Go.Proofs.Tryz.prog 36 #[.slice none 0 0] r [] (Ret fun v η => v = .bool true ∧ η = []) := by
  refine Con.of (n := 193) [.slice none 0 0] rfl Go.Proofs.Tryz.func36 rfl rfl rfl fun g hg R hR => ?_
  refine S.seq (S.region rfl ?_)
  refine O.op (.p rfl) (.as rfl) ?_
  refine O.nil ?_
  refine S.seq (S.seq (S.region rfl ?_))
  refine O.op (.p rfl) (.as rfl) ?_
  refine O.nil ?_
  refine S.block ?_
  refine S.unroll ?_
  refine S.seq (S.seq (S.region rfl ?_))
  refine O.op (.p rfl) (.mv rfl) ?_
  refine O.op (.p rfl) (.mv rfl) ?_
  refine O.op (.p rfl) (.len rfl Go.Proofs.Tryz.underlying51 rfl) ?_
  refine O.op (.p rfl) (.lss rfl rfl) ?_
  refine O.nil ?_
  first | refine S.condD rfl (fun h19 => ?_) (fun h19 => ?_) | refine S.condB rfl (fun h19 => ?_) (fun h19 => ?_)
  · exact absurd (by assumption) (by simp)
  refine S.exit rfl ?_
  refine S.seq (S.region rfl ?_)
  refine O.op (.p rfl) (.mv rfl) ?_
  refine O.op (.p rfl) (.len rfl Go.Proofs.Tryz.underlying51 rfl) ?_
  refine O.opE (.p rfl) (.makeP (T := Rp.val) (.slice none 0 0) (m := 0) Go.Proofs.Tryz.underlying51 FactKit4.elem116 (by decide) ⟨rfl, rfl⟩ rfl rfl rfl rfl (by decide) (by decide)) ?_
  rintro _ _ ⟨a42, c42, rfl, rfl⟩
  refine O.op (.p rfl) (.as rfl) ?_
  refine O.nil ?_
  refine S.seq (S.seq (S.region rfl ?_))
  refine O.op (.p rfl) (.as rfl) ?_
  refine O.nil ?_
  refine S.block ?_
  refine S.unroll ?_
  refine S.seq (S.seq (S.region rfl ?_))
  refine O.op (.p rfl) (.mv rfl) ?_
  refine O.op (.p rfl) (.mv rfl) ?_
  refine O.op (.p rfl) (.len rfl Go.Proofs.Tryz.underlying51 rfl) ?_
  refine O.op (.p rfl) (.lss rfl rfl) ?_
  refine O.nil ?_
  first | refine S.condD rfl (fun h46 => ?_) (fun h46 => ?_) | refine S.condB rfl (fun h46 => ?_) (fun h46 => ?_)
  · exact absurd (by assumption) (by simp)
  refine S.exit rfl ?_
  refine S.seq (S.seq (S.region rfl ?_))
  refine O.op (.p rfl) (.as rfl) ?_
  refine O.nil ?_
  refine S.block ?_
  refine S.unroll ?_
  refine S.seq (S.seq (S.region rfl ?_))
  refine O.op (.p rfl) (.mv rfl) ?_
  refine O.op (.p rfl) (.mv rfl) ?_
  refine O.op (.p rfl) (.len rfl Go.Proofs.Tryz.underlying51 rfl) ?_
  refine O.op (.p rfl) (.lss rfl rfl) ?_
  refine O.nil ?_
  first | refine S.condD rfl (fun h76 => ?_) (fun h76 => ?_) | refine S.condB rfl (fun h76 => ?_) (fun h76 => ?_)
  · exact absurd (by assumption) (by simp)
  refine S.exit rfl ?_
  refine S.seq (S.seq (S.region rfl ?_))
  refine O.op (.p rfl) (.as rfl) ?_
  refine O.nil ?_
  refine S.block ?_
  refine S.unroll ?_
  refine S.seq (S.seq (S.region rfl ?_))
  refine O.op (.p rfl) (.mv rfl) ?_
  refine O.op (.p rfl) (.mv rfl) ?_
  refine O.op (.p rfl) (.len rfl Go.Proofs.Tryz.underlying51 rfl) ?_
  refine O.op (.p rfl) (.lss rfl rfl) ?_
  refine O.nil ?_
  first | refine S.condD rfl (fun h126 => ?_) (fun h126 => ?_) | refine S.condB rfl (fun h126 => ?_) (fun h126 => ?_)
  · exact absurd (by assumption) (by simp)
  refine S.exit rfl ?_
  refine S.seq (S.seq (S.region rfl ?_))
  refine O.op (.p rfl) (.as rfl) ?_
  refine O.nil ?_
  refine S.block ?_
  refine S.unroll ?_
  refine S.seq (S.seq (S.region rfl ?_))
  refine O.op (.p rfl) (.mv rfl) ?_
  refine O.op (.p rfl) (.mv rfl) ?_
  refine O.op (.p rfl) (.len rfl Go.Proofs.Tryz.underlying51 rfl) ?_
  refine O.op (.p rfl) (.lss rfl rfl) ?_
  refine O.nil ?_
  first | refine S.condD rfl (fun h155 => ?_) (fun h155 => ?_) | refine S.condB rfl (fun h155 => ?_) (fun h155 => ?_)
  · exact absurd (by assumption) (by simp)
  refine S.exit rfl ?_
  refine S.seq (S.region rfl ?_)
  refine O.op (.p rfl) (.as rfl) ?_
  refine O.nil ?_
  refine S.ret Go.Proofs.Tryz.results36 rfl fun w hw => Holds.end_ hR hw ?_
  exact ⟨_, ⟨rfl, rfl⟩, by repeat (first | exact Picks.all | exact Picks.nil | (apply Picks.cons; focus (repeat (first | exact Sel.here | apply Sel.there))) | apply Picks.skip)⟩
theorem flatTexts_0 {r : Fr} : Con Go.Proofs.Tryz.prog 37 #[.slice none 0 0] r [] (Ret fun v η => v = .bool true ∧ η = []) := by
  refine Con.of (n := 193) [.slice none 0 0] rfl Go.Proofs.Tryz.func37 rfl rfl rfl fun g hg R hR => ?_
  refine S.seq (S.region rfl ?_)
  refine O.op (.p rfl) (.as rfl) ?_
  refine O.nil ?_
  refine S.seq (S.seq (S.region rfl ?_))
  refine O.op (.p rfl) (.as rfl) ?_
  refine O.nil ?_
  refine S.block ?_
  refine S.unroll ?_
  refine S.seq (S.seq (S.region rfl ?_))
  refine O.op (.p rfl) (.mv rfl) ?_
  refine O.op (.p rfl) (.mv rfl) ?_
  refine O.op (.p rfl) (.len rfl Go.Proofs.Tryz.underlying52 rfl) ?_
  refine O.op (.p rfl) (.lss rfl rfl) ?_
  refine O.nil ?_
  first | refine S.condD rfl (fun h19 => ?_) (fun h19 => ?_) | refine S.condB rfl (fun h19 => ?_) (fun h19 => ?_)
  · exact absurd (by assumption) (by simp)
  refine S.exit rfl ?_
  refine S.seq (S.region rfl ?_)
  refine O.op (.p rfl) (.mv rfl) ?_
  refine O.op (.p rfl) (.len rfl Go.Proofs.Tryz.underlying52 rfl) ?_
  refine O.opE (.p rfl) (.makeP (T := Rp.val) (.slice none 0 0) (m := 0) Go.Proofs.Tryz.underlying52 FactKit4.elem117 (by decide) ⟨rfl, rfl⟩ rfl rfl rfl rfl (by decide) (by decide)) ?_
  rintro _ _ ⟨a42, c42, rfl, rfl⟩
  refine O.op (.p rfl) (.as rfl) ?_
  refine O.nil ?_
  refine S.seq (S.seq (S.region rfl ?_))
  refine O.op (.p rfl) (.as rfl) ?_
  refine O.nil ?_
  refine S.block ?_
  refine S.unroll ?_
  refine S.seq (S.seq (S.region rfl ?_))
  refine O.op (.p rfl) (.mv rfl) ?_
  refine O.op (.p rfl) (.mv rfl) ?_
  refine O.op (.p rfl) (.len rfl Go.Proofs.Tryz.underlying52 rfl) ?_
  refine O.op (.p rfl) (.lss rfl rfl) ?_
  refine O.nil ?_
  first | refine S.condD rfl (fun h46 => ?_) (fun h46 => ?_) | refine S.condB rfl (fun h46 => ?_) (fun h46 => ?_)
  · exact absurd (by assumption) (by simp)
  refine S.exit rfl ?_
  refine S.seq (S.seq (S.region rfl ?_))
  refine O.op (.p rfl) (.as rfl) ?_
  refine O.nil ?_
  refine S.block ?_
  refine S.unroll ?_
  refine S.seq (S.seq (S.region rfl ?_))
  refine O.op (.p rfl) (.mv rfl) ?_
  refine O.op (.p rfl) (.mv rfl) ?_
  refine O.op (.p rfl) (.len rfl Go.Proofs.Tryz.underlying52 rfl) ?_
  refine O.op (.p rfl) (.lss rfl rfl) ?_
  refine O.nil ?_
  first | refine S.condD rfl (fun h76 => ?_) (fun h76 => ?_) | refine S.condB rfl (fun h76 => ?_) (fun h76 => ?_)
  · exact absurd (by assumption) (by simp)
  refine S.exit rfl ?_
  refine S.seq (S.seq (S.region rfl ?_))
  refine O.op (.p rfl) (.as rfl) ?_
  refine O.nil ?_
  refine S.block ?_
  refine S.unroll ?_
  refine S.seq (S.seq (S.region rfl ?_))
  refine O.op (.p rfl) (.mv rfl) ?_
  refine O.op (.p rfl) (.mv rfl) ?_
  refine O.op (.p rfl) (.len rfl Go.Proofs.Tryz.underlying52 rfl) ?_
  refine O.op (.p rfl) (.lss rfl rfl) ?_
  refine O.nil ?_
  first | refine S.condD rfl (fun h126 => ?_) (fun h126 => ?_) | refine S.condB rfl (fun h126 => ?_) (fun h126 => ?_)
  · exact absurd (by assumption) (by simp)
  refine S.exit rfl ?_
  refine S.seq (S.seq (S.region rfl ?_))
  refine O.op (.p rfl) (.as rfl) ?_
  refine O.nil ?_
  refine S.block ?_
  refine S.unroll ?_
  refine S.seq (S.seq (S.region rfl ?_))
  refine O.op (.p rfl) (.mv rfl) ?_
  refine O.op (.p rfl) (.mv rfl) ?_
  refine O.op (.p rfl) (.len rfl Go.Proofs.Tryz.underlying52 rfl) ?_
  refine O.op (.p rfl) (.lss rfl rfl) ?_
  refine O.nil ?_
  first | refine S.condD rfl (fun h155 => ?_) (fun h155 => ?_) | refine S.condB rfl (fun h155 => ?_) (fun h155 => ?_)
  · exact absurd (by assumption) (by simp)
  refine S.exit rfl ?_
  refine S.seq (S.region rfl ?_)
  refine O.op (.p rfl) (.as rfl) ?_
  refine O.nil ?_
  refine S.ret Go.Proofs.Tryz.results37 rfl fun w hw => Holds.end_ hR hw ?_
  exact ⟨_, ⟨rfl, rfl⟩, by repeat (first | exact Picks.all | exact Picks.nil | (apply Picks.cons; focus (repeat (first | exact Sel.here | apply Sel.there))) | apply Picks.skip)⟩
theorem flatBytes_0 {r : Fr} : Con Go.Proofs.Tryz.prog 38 #[.slice none 0 0] r [] (Ret fun v η => v = .bool true ∧ η = []) := by
  refine Con.of (n := 193) [.slice none 0 0] rfl Go.Proofs.Tryz.func38 rfl rfl rfl fun g hg R hR => ?_
  refine S.seq (S.region rfl ?_)
  refine O.op (.p rfl) (.as rfl) ?_
  refine O.nil ?_
  refine S.seq (S.seq (S.region rfl ?_))
  refine O.op (.p rfl) (.as rfl) ?_
  refine O.nil ?_
  refine S.block ?_
  refine S.unroll ?_
  refine S.seq (S.seq (S.region rfl ?_))
  refine O.op (.p rfl) (.mv rfl) ?_
  refine O.op (.p rfl) (.mv rfl) ?_
  refine O.op (.p rfl) (.len rfl Go.Proofs.Tryz.underlying34 rfl) ?_
  refine O.op (.p rfl) (.lss rfl rfl) ?_
  refine O.nil ?_
  first | refine S.condD rfl (fun h19 => ?_) (fun h19 => ?_) | refine S.condB rfl (fun h19 => ?_) (fun h19 => ?_)
  · exact absurd (by assumption) (by simp)
  refine S.exit rfl ?_
  refine S.seq (S.region rfl ?_)
  refine O.op (.p rfl) (.mv rfl) ?_
  refine O.op (.p rfl) (.len rfl Go.Proofs.Tryz.underlying34 rfl) ?_
  refine O.opE (.p rfl) (.makeP (T := Rp.val) (.slice none 0 0) (m := 0) Go.Proofs.Tryz.underlying34 FactKit4.elem23 (by decide) ⟨rfl, rfl⟩ rfl rfl rfl rfl (by decide) (by decide)) ?_
  rintro _ _ ⟨a42, c42, rfl, rfl⟩
  refine O.op (.p rfl) (.as rfl) ?_
  refine O.nil ?_
  refine S.seq (S.seq (S.region rfl ?_))
  refine O.op (.p rfl) (.as rfl) ?_
  refine O.nil ?_
  refine S.block ?_
  refine S.unroll ?_
  refine S.seq (S.seq (S.region rfl ?_))
  refine O.op (.p rfl) (.mv rfl) ?_
  refine O.op (.p rfl) (.mv rfl) ?_
  refine O.op (.p rfl) (.len rfl Go.Proofs.Tryz.underlying34 rfl) ?_
  refine O.op (.p rfl) (.lss rfl rfl) ?_
  refine O.nil ?_
  first | refine S.condD rfl (fun h46 => ?_) (fun h46 => ?_) | refine S.condB rfl (fun h46 => ?_) (fun h46 => ?_)
  · exact absurd (by assumption) (by simp)
  refine S.exit rfl ?_
  refine S.seq (S.seq (S.region rfl ?_))
  refine O.op (.p rfl) (.as rfl) ?_
  refine O.nil ?_
  refine S.block ?_
  refine S.unroll ?_
  refine S.seq (S.seq (S.region rfl ?_))
  refine O.op (.p rfl) (.mv rfl) ?_
  refine O.op (.p rfl) (.mv rfl) ?_
  refine O.op (.p rfl) (.len rfl Go.Proofs.Tryz.underlying34 rfl) ?_
  refine O.op (.p rfl) (.lss rfl rfl) ?_
  refine O.nil ?_
  first | refine S.condD rfl (fun h76 => ?_) (fun h76 => ?_) | refine S.condB rfl (fun h76 => ?_) (fun h76 => ?_)
  · exact absurd (by assumption) (by simp)
  refine S.exit rfl ?_
  refine S.seq (S.seq (S.region rfl ?_))
  refine O.op (.p rfl) (.as rfl) ?_
  refine O.nil ?_
  refine S.block ?_
  refine S.unroll ?_
  refine S.seq (S.seq (S.region rfl ?_))
  refine O.op (.p rfl) (.mv rfl) ?_
  refine O.op (.p rfl) (.mv rfl) ?_
  refine O.op (.p rfl) (.len rfl Go.Proofs.Tryz.underlying34 rfl) ?_
  refine O.op (.p rfl) (.lss rfl rfl) ?_
  refine O.nil ?_
  first | refine S.condD rfl (fun h126 => ?_) (fun h126 => ?_) | refine S.condB rfl (fun h126 => ?_) (fun h126 => ?_)
  · exact absurd (by assumption) (by simp)
  refine S.exit rfl ?_
  refine S.seq (S.seq (S.region rfl ?_))
  refine O.op (.p rfl) (.as rfl) ?_
  refine O.nil ?_
  refine S.block ?_
  refine S.unroll ?_
  refine S.seq (S.seq (S.region rfl ?_))
  refine O.op (.p rfl) (.mv rfl) ?_
  refine O.op (.p rfl) (.mv rfl) ?_
  refine O.op (.p rfl) (.len rfl Go.Proofs.Tryz.underlying34 rfl) ?_
  refine O.op (.p rfl) (.lss rfl rfl) ?_
  refine O.nil ?_
  first | refine S.condD rfl (fun h155 => ?_) (fun h155 => ?_) | refine S.condB rfl (fun h155 => ?_) (fun h155 => ?_)
  · exact absurd (by assumption) (by simp)
  refine S.exit rfl ?_
  refine S.seq (S.region rfl ?_)
  refine O.op (.p rfl) (.as rfl) ?_
  refine O.nil ?_
  refine S.ret Go.Proofs.Tryz.results38 rfl fun w hw => Holds.end_ hR hw ?_
  exact ⟨_, ⟨rfl, rfl⟩, by repeat (first | exact Picks.all | exact Picks.nil | (apply Picks.cons; focus (repeat (first | exact Sel.here | apply Sel.there))) | apply Picks.skip)⟩
theorem flatTruths_0 {r : Fr} : Con Go.Proofs.Tryz.prog 39 #[.slice none 0 0] r [] (Ret fun v η => v = .bool true ∧ η = []) := by
  refine Con.of (n := 207) [.slice none 0 0] rfl Go.Proofs.Tryz.func39 rfl rfl rfl fun g hg R hR => ?_
  refine S.seq (S.region rfl ?_)
  refine O.op (.p rfl) (.as rfl) ?_
  refine O.nil ?_
  refine S.seq (S.seq (S.region rfl ?_))
  refine O.op (.p rfl) (.as rfl) ?_
  refine O.nil ?_
  refine S.block ?_
  refine S.unroll ?_
  refine S.seq (S.seq (S.region rfl ?_))
  refine O.op (.p rfl) (.mv rfl) ?_
  refine O.op (.p rfl) (.mv rfl) ?_
  refine O.op (.p rfl) (.len rfl Go.Proofs.Tryz.underlying53 rfl) ?_
  refine O.op (.p rfl) (.lss rfl rfl) ?_
  refine O.nil ?_
  first | refine S.condD rfl (fun h19 => ?_) (fun h19 => ?_) | refine S.condB rfl (fun h19 => ?_) (fun h19 => ?_)
  · exact absurd (by assumption) (by simp)
  refine S.exit rfl ?_
  refine S.seq (S.region rfl ?_)
  refine O.op (.p rfl) (.mv rfl) ?_
  refine O.op (.p rfl) (.len rfl Go.Proofs.Tryz.underlying53 rfl) ?_
  refine O.opE (.p rfl) (.makeP (T := Rp.val) (.slice none 0 0) (m := 0) Go.Proofs.Tryz.underlying53 FactKit4.elem119 (by decide) ⟨rfl, rfl⟩ rfl rfl rfl rfl (by decide) (by decide)) ?_
  rintro _ _ ⟨a44, c44, rfl, rfl⟩
  refine O.op (.p rfl) (.as rfl) ?_
  refine O.nil ?_
  refine S.seq (S.seq (S.region rfl ?_))
  refine O.op (.p rfl) (.as rfl) ?_
  refine O.nil ?_
  refine S.block ?_
  refine S.unroll ?_
  refine S.seq (S.seq (S.region rfl ?_))
  refine O.op (.p rfl) (.mv rfl) ?_
  refine O.op (.p rfl) (.mv rfl) ?_
  refine O.op (.p rfl) (.len rfl Go.Proofs.Tryz.underlying53 rfl) ?_
  refine O.op (.p rfl) (.lss rfl rfl) ?_
  refine O.nil ?_
  first | refine S.condD rfl (fun h48 => ?_) (fun h48 => ?_) | refine S.condB rfl (fun h48 => ?_) (fun h48 => ?_)
  · exact absurd (by assumption) (by simp)
  refine S.exit rfl ?_
  refine S.seq (S.seq (S.region rfl ?_))
  refine O.op (.p rfl) (.as rfl) ?_
  refine O.nil ?_
  refine S.block ?_
  refine S.unroll ?_
  refine S.seq (S.seq (S.region rfl ?_))
  refine O.op (.p rfl) (.mv rfl) ?_
  refine O.op (.p rfl) (.mv rfl) ?_
  refine O.op (.p rfl) (.len rfl Go.Proofs.Tryz.underlying53 rfl) ?_
  refine O.op (.p rfl) (.lss rfl rfl) ?_
  refine O.nil ?_
  first | refine S.condD rfl (fun h80 => ?_) (fun h80 => ?_) | refine S.condB rfl (fun h80 => ?_) (fun h80 => ?_)
  · exact absurd (by assumption) (by simp)
  refine S.exit rfl ?_
  refine S.seq (S.seq (S.region rfl ?_))
  refine O.op (.p rfl) (.as rfl) ?_
  refine O.nil ?_
  refine S.block ?_
  refine S.unroll ?_
  refine S.seq (S.seq (S.region rfl ?_))
  refine O.op (.p rfl) (.mv rfl) ?_
  refine O.op (.p rfl) (.mv rfl) ?_
  refine O.op (.p rfl) (.len rfl Go.Proofs.Tryz.underlying53 rfl) ?_
  refine O.op (.p rfl) (.lss rfl rfl) ?_
  refine O.nil ?_
  first | refine S.condD rfl (fun h134 => ?_) (fun h134 => ?_) | refine S.condB rfl (fun h134 => ?_) (fun h134 => ?_)
  · exact absurd (by assumption) (by simp)
  refine S.exit rfl ?_
  refine S.seq (S.seq (S.region rfl ?_))
  refine O.op (.p rfl) (.as rfl) ?_
  refine O.nil ?_
  refine S.block ?_
  refine S.unroll ?_
  refine S.seq (S.seq (S.region rfl ?_))
  refine O.op (.p rfl) (.mv rfl) ?_
  refine O.op (.p rfl) (.mv rfl) ?_
  refine O.op (.p rfl) (.len rfl Go.Proofs.Tryz.underlying53 rfl) ?_
  refine O.op (.p rfl) (.lss rfl rfl) ?_
  refine O.nil ?_
  first | refine S.condD rfl (fun h165 => ?_) (fun h165 => ?_) | refine S.condB rfl (fun h165 => ?_) (fun h165 => ?_)
  · exact absurd (by assumption) (by simp)
  refine S.exit rfl ?_
  refine S.seq (S.region rfl ?_)
  refine O.op (.p rfl) (.as rfl) ?_
  refine O.nil ?_
  refine S.ret Go.Proofs.Tryz.results39 rfl fun w hw => Holds.end_ hR hw ?_
  exact ⟨_, ⟨rfl, rfl⟩, by repeat (first | exact Picks.all | exact Picks.nil | (apply Picks.cons; focus (repeat (first | exact Sel.here | apply Sel.there))) | apply Picks.skip)⟩
theorem flatRows_0 {r : Fr} : Con Go.Proofs.Tryz.prog 40 #[.slice none 0 0] r [] (Ret fun v η => v = .bool true ∧ η = []) := by
  refine Con.of (n := 193) [.slice none 0 0] rfl Go.Proofs.Tryz.func40 rfl rfl rfl fun g hg R hR => ?_
  refine S.seq (S.region rfl ?_)
  refine O.op (.p rfl) (.as rfl) ?_
  refine O.nil ?_
  refine S.seq (S.seq (S.region rfl ?_))
  refine O.op (.p rfl) (.as rfl) ?_
  refine O.nil ?_
  refine S.block ?_
  refine S.unroll ?_
  refine S.seq (S.seq (S.region rfl ?_))
  refine O.op (.p rfl) (.mv rfl) ?_
  refine O.op (.p rfl) (.mv rfl) ?_
  refine O.op (.p rfl) (.len rfl Go.Proofs.Tryz.underlying54 rfl) ?_
  refine O.op (.p rfl) (.lss rfl rfl) ?_
  refine O.nil ?_
  first | refine S.condD rfl (fun h19 => ?_) (fun h19 => ?_) | refine S.condB rfl (fun h19 => ?_) (fun h19 => ?_)
  · exact absurd (by assumption) (by simp)
  refine S.exit rfl ?_
  refine S.seq (S.region rfl ?_)
  refine O.op (.p rfl) (.mv rfl) ?_
  refine O.op (.p rfl) (.len rfl Go.Proofs.Tryz.underlying54 rfl) ?_
  refine O.opE (.p rfl) (.makeP (T := Rp.val) (.slice none 0 0) (m := 0) Go.Proofs.Tryz.underlying54 FactKit4.elem34 (by decide) ⟨rfl, rfl⟩ rfl rfl rfl rfl (by decide) (by decide)) ?_
  rintro _ _ ⟨a42, c42, rfl, rfl⟩
  refine O.op (.p rfl) (.as rfl) ?_
  refine O.nil ?_
  refine S.seq (S.seq (S.region rfl ?_))
  refine O.op (.p rfl) (.as rfl) ?_
  refine O.nil ?_
  refine S.block ?_
  refine S.unroll ?_
  refine S.seq (S.seq (S.region rfl ?_))
  refine O.op (.p rfl) (.mv rfl) ?_
  refine O.op (.p rfl) (.mv rfl) ?_
  refine O.op (.p rfl) (.len rfl Go.Proofs.Tryz.underlying54 rfl) ?_
  refine O.op (.p rfl) (.lss rfl rfl) ?_
  refine O.nil ?_
  first | refine S.condD rfl (fun h46 => ?_) (fun h46 => ?_) | refine S.condB rfl (fun h46 => ?_) (fun h46 => ?_)
  · exact absurd (by assumption) (by simp)
  refine S.exit rfl ?_
  refine S.seq (S.seq (S.region rfl ?_))
  refine O.op (.p rfl) (.as rfl) ?_
  refine O.nil ?_
  refine S.block ?_
  refine S.unroll ?_
  refine S.seq (S.seq (S.region rfl ?_))
  refine O.op (.p rfl) (.mv rfl) ?_
  refine O.op (.p rfl) (.mv rfl) ?_
  refine O.op (.p rfl) (.len rfl Go.Proofs.Tryz.underlying54 rfl) ?_
  refine O.op (.p rfl) (.lss rfl rfl) ?_
  refine O.nil ?_
  first | refine S.condD rfl (fun h76 => ?_) (fun h76 => ?_) | refine S.condB rfl (fun h76 => ?_) (fun h76 => ?_)
  · exact absurd (by assumption) (by simp)
  refine S.exit rfl ?_
  refine S.seq (S.seq (S.region rfl ?_))
  refine O.op (.p rfl) (.as rfl) ?_
  refine O.nil ?_
  refine S.block ?_
  refine S.unroll ?_
  refine S.seq (S.seq (S.region rfl ?_))
  refine O.op (.p rfl) (.mv rfl) ?_
  refine O.op (.p rfl) (.mv rfl) ?_
  refine O.op (.p rfl) (.len rfl Go.Proofs.Tryz.underlying54 rfl) ?_
  refine O.op (.p rfl) (.lss rfl rfl) ?_
  refine O.nil ?_
  first | refine S.condD rfl (fun h126 => ?_) (fun h126 => ?_) | refine S.condB rfl (fun h126 => ?_) (fun h126 => ?_)
  · exact absurd (by assumption) (by simp)
  refine S.exit rfl ?_
  refine S.seq (S.seq (S.region rfl ?_))
  refine O.op (.p rfl) (.as rfl) ?_
  refine O.nil ?_
  refine S.block ?_
  refine S.unroll ?_
  refine S.seq (S.seq (S.region rfl ?_))
  refine O.op (.p rfl) (.mv rfl) ?_
  refine O.op (.p rfl) (.mv rfl) ?_
  refine O.op (.p rfl) (.len rfl Go.Proofs.Tryz.underlying54 rfl) ?_
  refine O.op (.p rfl) (.lss rfl rfl) ?_
  refine O.nil ?_
  first | refine S.condD rfl (fun h155 => ?_) (fun h155 => ?_) | refine S.condB rfl (fun h155 => ?_) (fun h155 => ?_)
  · exact absurd (by assumption) (by simp)
  refine S.exit rfl ?_
  refine S.seq (S.region rfl ?_)
  refine O.op (.p rfl) (.as rfl) ?_
  refine O.nil ?_
  refine S.ret Go.Proofs.Tryz.results40 rfl fun w hw => Holds.end_ hR hw ?_
  exact ⟨_, ⟨rfl, rfl⟩, by repeat (first | exact Picks.all | exact Picks.nil | (apply Picks.cons; focus (repeat (first | exact Sel.here | apply Sel.there))) | apply Picks.skip)⟩
theorem flatDots_0 {r : Fr} : Con Go.Proofs.Tryz.prog 41 #[.slice none 0 0] r [] (Ret fun v η => v = .bool true ∧ η = []) := by
  refine Con.of (n := 193) [.slice none 0 0] rfl Go.Proofs.Tryz.func41 rfl rfl rfl fun g hg R hR => ?_
  refine S.seq (S.region rfl ?_)
  refine O.op (.p rfl) (.as rfl) ?_
  refine O.nil ?_
  refine S.seq (S.seq (S.region rfl ?_))
  refine O.op (.p rfl) (.as rfl) ?_
  refine O.nil ?_
  refine S.block ?_
  refine S.unroll ?_
  refine S.seq (S.seq (S.region rfl ?_))
  refine O.op (.p rfl) (.mv rfl) ?_
  refine O.op (.p rfl) (.mv rfl) ?_
  refine O.op (.p rfl) (.len rfl Go.Proofs.Tryz.underlying55 rfl) ?_
  refine O.op (.p rfl) (.lss rfl rfl) ?_
  refine O.nil ?_
  first | refine S.condD rfl (fun h19 => ?_) (fun h19 => ?_) | refine S.condB rfl (fun h19 => ?_) (fun h19 => ?_)
  · exact absurd (by assumption) (by simp)
  refine S.exit rfl ?_
  refine S.seq (S.region rfl ?_)
  refine O.op (.p rfl) (.mv rfl) ?_
  refine O.op (.p rfl) (.len rfl Go.Proofs.Tryz.underlying55 rfl) ?_
  refine O.opE (.p rfl) (.makeP (T := Rp.val) (.slice none 0 0) (m := 0) Go.Proofs.Tryz.underlying55 FactKit4.elem121 (by decide) ⟨rfl, rfl⟩ rfl rfl rfl rfl (by decide) (by decide)) ?_
  rintro _ _ ⟨a42, c42, rfl, rfl⟩
  refine O.op (.p rfl) (.as rfl) ?_
  refine O.nil ?_
  refine S.seq (S.seq (S.region rfl ?_))
  refine O.op (.p rfl) (.as rfl) ?_
  refine O.nil ?_
  refine S.block ?_
  refine S.unroll ?_
  refine S.seq (S.seq (S.region rfl ?_))
  refine O.op (.p rfl) (.mv rfl) ?_
  refine O.op (.p rfl) (.mv rfl) ?_
  refine O.op (.p rfl) (.len rfl Go.Proofs.Tryz.underlying55 rfl) ?_
  refine O.op (.p rfl) (.lss rfl rfl) ?_
  refine O.nil ?_
  first | refine S.condD rfl (fun h46 => ?_) (fun h46 => ?_) | refine S.condB rfl (fun h46 => ?_) (fun h46 => ?_)
  · exact absurd (by assumption) (by simp)
  refine S.exit rfl ?_
  refine S.seq (S.seq (S.region rfl ?_))
  refine O.op (.p rfl) (.as rfl) ?_
  refine O.nil ?_
  refine S.block ?_
  refine S.unroll ?_
  refine S.seq (S.seq (S.region rfl ?_))
  refine O.op (.p rfl) (.mv rfl) ?_
  refine O.op (.p rfl) (.mv rfl) ?_
  refine O.op (.p rfl) (.len rfl Go.Proofs.Tryz.underlying55 rfl) ?_
  refine O.op (.p rfl) (.lss rfl rfl) ?_
  refine O.nil ?_
  first | refine S.condD rfl (fun h76 => ?_) (fun h76 => ?_) | refine S.condB rfl (fun h76 => ?_) (fun h76 => ?_)
  · exact absurd (by assumption) (by simp)
  refine S.exit rfl ?_
  refine S.seq (S.seq (S.region rfl ?_))
  refine O.op (.p rfl) (.as rfl) ?_
  refine O.nil ?_
  refine S.block ?_
  refine S.unroll ?_
  refine S.seq (S.seq (S.region rfl ?_))
  refine O.op (.p rfl) (.mv rfl) ?_
  refine O.op (.p rfl) (.mv rfl) ?_
  refine O.op (.p rfl) (.len rfl Go.Proofs.Tryz.underlying55 rfl) ?_
  refine O.op (.p rfl) (.lss rfl rfl) ?_
  refine O.nil ?_
  first | refine S.condD rfl (fun h126 => ?_) (fun h126 => ?_) | refine S.condB rfl (fun h126 => ?_) (fun h126 => ?_)
  · exact absurd (by assumption) (by simp)
  refine S.exit rfl ?_
  refine S.seq (S.seq (S.region rfl ?_))
  refine O.op (.p rfl) (.as rfl) ?_
  refine O.nil ?_
  refine S.block ?_
  refine S.unroll ?_
  refine S.seq (S.seq (S.region rfl ?_))
  refine O.op (.p rfl) (.mv rfl) ?_
  refine O.op (.p rfl) (.mv rfl) ?_
  refine O.op (.p rfl) (.len rfl Go.Proofs.Tryz.underlying55 rfl) ?_
  refine O.op (.p rfl) (.lss rfl rfl) ?_
  refine O.nil ?_
  first | refine S.condD rfl (fun h155 => ?_) (fun h155 => ?_) | refine S.condB rfl (fun h155 => ?_) (fun h155 => ?_)
  · exact absurd (by assumption) (by simp)
  refine S.exit rfl ?_
  refine S.seq (S.region rfl ?_)
  refine O.op (.p rfl) (.as rfl) ?_
  refine O.nil ?_
  refine S.ret Go.Proofs.Tryz.results41 rfl fun w hw => Holds.end_ hR hw ?_
  exact ⟨_, ⟨rfl, rfl⟩, by repeat (first | exact Picks.all | exact Picks.nil | (apply Picks.cons; focus (repeat (first | exact Sel.here | apply Sel.there))) | apply Picks.skip)⟩
theorem flatRecords_0 {r : Fr} : Con Go.Proofs.Tryz.prog 42 #[.slice none 0 0] r [] (Ret fun v η => v = .bool true ∧ η = []) := by
  refine Con.of (n := 193) [.slice none 0 0] rfl Go.Proofs.Tryz.func42 rfl rfl rfl fun g hg R hR => ?_
  refine S.seq (S.region rfl ?_)
  refine O.op (.p rfl) (.as rfl) ?_
  refine O.nil ?_
  refine S.seq (S.seq (S.region rfl ?_))
  refine O.op (.p rfl) (.as rfl) ?_
  refine O.nil ?_
  refine S.block ?_
  refine S.unroll ?_
  refine S.seq (S.seq (S.region rfl ?_))
  refine O.op (.p rfl) (.mv rfl) ?_
  refine O.op (.p rfl) (.mv rfl) ?_
  refine O.op (.p rfl) (.len rfl Go.Proofs.Tryz.underlying56 rfl) ?_
  refine O.op (.p rfl) (.lss rfl rfl) ?_
  refine O.nil ?_
  first | refine S.condD rfl (fun h19 => ?_) (fun h19 => ?_) | refine S.condB rfl (fun h19 => ?_) (fun h19 => ?_)
  · exact absurd (by assumption) (by simp)
  refine S.exit rfl ?_
  refine S.seq (S.region rfl ?_)
  refine O.op (.p rfl) (.mv rfl) ?_
  refine O.op (.p rfl) (.len rfl Go.Proofs.Tryz.underlying56 rfl) ?_
  refine O.opE (.p rfl) (.makeP (T := Rp.val) (.slice none 0 0) (m := 0) Go.Proofs.Tryz.underlying56 FactKit4.elem125 (by decide) ⟨rfl, rfl⟩ rfl rfl rfl rfl (by decide) (by decide)) ?_
  rintro _ _ ⟨a42, c42, rfl, rfl⟩
  refine O.op (.p rfl) (.as rfl) ?_
  refine O.nil ?_
  refine S.seq (S.seq (S.region rfl ?_))
  refine O.op (.p rfl) (.as rfl) ?_
  refine O.nil ?_
  refine S.block ?_
  refine S.unroll ?_
  refine S.seq (S.seq (S.region rfl ?_))
  refine O.op (.p rfl) (.mv rfl) ?_
  refine O.op (.p rfl) (.mv rfl) ?_
  refine O.op (.p rfl) (.len rfl Go.Proofs.Tryz.underlying56 rfl) ?_
  refine O.op (.p rfl) (.lss rfl rfl) ?_
  refine O.nil ?_
  first | refine S.condD rfl (fun h46 => ?_) (fun h46 => ?_) | refine S.condB rfl (fun h46 => ?_) (fun h46 => ?_)
  · exact absurd (by assumption) (by simp)
  refine S.exit rfl ?_
  refine S.seq (S.seq (S.region rfl ?_))
  refine O.op (.p rfl) (.as rfl) ?_
  refine O.nil ?_
  refine S.block ?_
  refine S.unroll ?_
  refine S.seq (S.seq (S.region rfl ?_))
  refine O.op (.p rfl) (.mv rfl) ?_
  refine O.op (.p rfl) (.mv rfl) ?_
  refine O.op (.p rfl) (.len rfl Go.Proofs.Tryz.underlying56 rfl) ?_
  refine O.op (.p rfl) (.lss rfl rfl) ?_
  refine O.nil ?_
  first | refine S.condD rfl (fun h76 => ?_) (fun h76 => ?_) | refine S.condB rfl (fun h76 => ?_) (fun h76 => ?_)
  · exact absurd (by assumption) (by simp)
  refine S.exit rfl ?_
  refine S.seq (S.seq (S.region rfl ?_))
  refine O.op (.p rfl) (.as rfl) ?_
  refine O.nil ?_
  refine S.block ?_
  refine S.unroll ?_
  refine S.seq (S.seq (S.region rfl ?_))
  refine O.op (.p rfl) (.mv rfl) ?_
  refine O.op (.p rfl) (.mv rfl) ?_
  refine O.op (.p rfl) (.len rfl Go.Proofs.Tryz.underlying56 rfl) ?_
  refine O.op (.p rfl) (.lss rfl rfl) ?_
  refine O.nil ?_
  first | refine S.condD rfl (fun h126 => ?_) (fun h126 => ?_) | refine S.condB rfl (fun h126 => ?_) (fun h126 => ?_)
  · exact absurd (by assumption) (by simp)
  refine S.exit rfl ?_
  refine S.seq (S.seq (S.region rfl ?_))
  refine O.op (.p rfl) (.as rfl) ?_
  refine O.nil ?_
  refine S.block ?_
  refine S.unroll ?_
  refine S.seq (S.seq (S.region rfl ?_))
  refine O.op (.p rfl) (.mv rfl) ?_
  refine O.op (.p rfl) (.mv rfl) ?_
  refine O.op (.p rfl) (.len rfl Go.Proofs.Tryz.underlying56 rfl) ?_
  refine O.op (.p rfl) (.lss rfl rfl) ?_
  refine O.nil ?_
  first | refine S.condD rfl (fun h155 => ?_) (fun h155 => ?_) | refine S.condB rfl (fun h155 => ?_) (fun h155 => ?_)
  · exact absurd (by assumption) (by simp)
  refine S.exit rfl ?_
  refine S.seq (S.region rfl ?_)
  refine O.op (.p rfl) (.as rfl) ?_
  refine O.nil ?_
  refine S.ret Go.Proofs.Tryz.results42 rfl fun w hw => Holds.end_ hR hw ?_
  exact ⟨_, ⟨rfl, rfl⟩, by repeat (first | exact Picks.all | exact Picks.nil | (apply Picks.cons; focus (repeat (first | exact Sel.here | apply Sel.there))) | apply Picks.skip)⟩
theorem flatLeaves_0 {r : Fr} : Con Go.Proofs.Tryz.prog 43 #[.slice none 0 0] r [] (Ret fun v η => v = .bool true ∧ η = []) := by
  refine Con.of (n := 193) [.slice none 0 0] rfl Go.Proofs.Tryz.func43 rfl rfl rfl fun g hg R hR => ?_
  refine S.seq (S.region rfl ?_)
  refine O.op (.p rfl) (.as rfl) ?_
  refine O.nil ?_
  refine S.seq (S.seq (S.region rfl ?_))
  refine O.op (.p rfl) (.as rfl) ?_
  refine O.nil ?_
  refine S.block ?_
  refine S.unroll ?_
  refine S.seq (S.seq (S.region rfl ?_))
  refine O.op (.p rfl) (.mv rfl) ?_
  refine O.op (.p rfl) (.mv rfl) ?_
  refine O.op (.p rfl) (.len rfl Go.Proofs.Tryz.underlying57 rfl) ?_
  refine O.op (.p rfl) (.lss rfl rfl) ?_
  refine O.nil ?_
  first | refine S.condD rfl (fun h19 => ?_) (fun h19 => ?_) | refine S.condB rfl (fun h19 => ?_) (fun h19 => ?_)
  · exact absurd (by assumption) (by simp)
  refine S.exit rfl ?_
  refine S.seq (S.region rfl ?_)
  refine O.op (.p rfl) (.mv rfl) ?_
  refine O.op (.p rfl) (.len rfl Go.Proofs.Tryz.underlying57 rfl) ?_
  refine O.opE (.p rfl) (.makeP (T := Rp.val) (.slice none 0 0) (m := 0) Go.Proofs.Tryz.underlying57 FactKit4.elem130 (by decide) ⟨rfl, rfl⟩ rfl rfl rfl rfl (by decide) (by decide)) ?_
  rintro _ _ ⟨a42, c42, rfl, rfl⟩
  refine O.op (.p rfl) (.as rfl) ?_
  refine O.nil ?_
  refine S.seq (S.seq (S.region rfl ?_))
  refine O.op (.p rfl) (.as rfl) ?_
  refine O.nil ?_
  refine S.block ?_
  refine S.unroll ?_
  refine S.seq (S.seq (S.region rfl ?_))
  refine O.op (.p rfl) (.mv rfl) ?_
  refine O.op (.p rfl) (.mv rfl) ?_
  refine O.op (.p rfl) (.len rfl Go.Proofs.Tryz.underlying57 rfl) ?_
  refine O.op (.p rfl) (.lss rfl rfl) ?_
  refine O.nil ?_
  first | refine S.condD rfl (fun h46 => ?_) (fun h46 => ?_) | refine S.condB rfl (fun h46 => ?_) (fun h46 => ?_)
  · exact absurd (by assumption) (by simp)
  refine S.exit rfl ?_
  refine S.seq (S.seq (S.region rfl ?_))
  refine O.op (.p rfl) (.as rfl) ?_
  refine O.nil ?_
  refine S.block ?_
  refine S.unroll ?_
  refine S.seq (S.seq (S.region rfl ?_))
  refine O.op (.p rfl) (.mv rfl) ?_
  refine O.op (.p rfl) (.mv rfl) ?_
  refine O.op (.p rfl) (.len rfl Go.Proofs.Tryz.underlying57 rfl) ?_
  refine O.op (.p rfl) (.lss rfl rfl) ?_
  refine O.nil ?_
  first | refine S.condD rfl (fun h76 => ?_) (fun h76 => ?_) | refine S.condB rfl (fun h76 => ?_) (fun h76 => ?_)
  · exact absurd (by assumption) (by simp)
  refine S.exit rfl ?_
  refine S.seq (S.seq (S.region rfl ?_))
  refine O.op (.p rfl) (.as rfl) ?_
  refine O.nil ?_
  refine S.block ?_
  refine S.unroll ?_
  refine S.seq (S.seq (S.region rfl ?_))
  refine O.op (.p rfl) (.mv rfl) ?_
  refine O.op (.p rfl) (.mv rfl) ?_
  refine O.op (.p rfl) (.len rfl Go.Proofs.Tryz.underlying57 rfl) ?_
  refine O.op (.p rfl) (.lss rfl rfl) ?_
  refine O.nil ?_
  first | refine S.condD rfl (fun h126 => ?_) (fun h126 => ?_) | refine S.condB rfl (fun h126 => ?_) (fun h126 => ?_)
  · exact absurd (by assumption) (by simp)
  refine S.exit rfl ?_
  refine S.seq (S.seq (S.region rfl ?_))
  refine O.op (.p rfl) (.as rfl) ?_
  refine O.nil ?_
  refine S.block ?_
  refine S.unroll ?_
  refine S.seq (S.seq (S.region rfl ?_))
  refine O.op (.p rfl) (.mv rfl) ?_
  refine O.op (.p rfl) (.mv rfl) ?_
  refine O.op (.p rfl) (.len rfl Go.Proofs.Tryz.underlying57 rfl) ?_
  refine O.op (.p rfl) (.lss rfl rfl) ?_
  refine O.nil ?_
  first | refine S.condD rfl (fun h155 => ?_) (fun h155 => ?_) | refine S.condB rfl (fun h155 => ?_) (fun h155 => ?_)
  · exact absurd (by assumption) (by simp)
  refine S.exit rfl ?_
  refine S.seq (S.region rfl ?_)
  refine O.op (.p rfl) (.as rfl) ?_
  refine O.nil ?_
  refine S.ret Go.Proofs.Tryz.results43 rfl fun w hw => Holds.end_ hR hw ?_
  exact ⟨_, ⟨rfl, rfl⟩, by repeat (first | exact Picks.all | exact Picks.nil | (apply Picks.cons; focus (repeat (first | exact Sel.here | apply Sel.there))) | apply Picks.skip)⟩
theorem flatGrants_0 {r : Fr} : Con Go.Proofs.Tryz.prog 44 #[.slice none 0 0] r [] (Ret fun v η => v = .bool true ∧ η = []) := by
  refine Con.of (n := 193) [.slice none 0 0] rfl Go.Proofs.Tryz.func44 rfl rfl rfl fun g hg R hR => ?_
  refine S.seq (S.region rfl ?_)
  refine O.op (.p rfl) (.as rfl) ?_
  refine O.nil ?_
  refine S.seq (S.seq (S.region rfl ?_))
  refine O.op (.p rfl) (.as rfl) ?_
  refine O.nil ?_
  refine S.block ?_
  refine S.unroll ?_
  refine S.seq (S.seq (S.region rfl ?_))
  refine O.op (.p rfl) (.mv rfl) ?_
  refine O.op (.p rfl) (.mv rfl) ?_
  refine O.op (.p rfl) (.len rfl Go.Proofs.Tryz.underlying58 rfl) ?_
  refine O.op (.p rfl) (.lss rfl rfl) ?_
  refine O.nil ?_
  first | refine S.condD rfl (fun h19 => ?_) (fun h19 => ?_) | refine S.condB rfl (fun h19 => ?_) (fun h19 => ?_)
  · exact absurd (by assumption) (by simp)
  refine S.exit rfl ?_
  refine S.seq (S.region rfl ?_)
  refine O.op (.p rfl) (.mv rfl) ?_
  refine O.op (.p rfl) (.len rfl Go.Proofs.Tryz.underlying58 rfl) ?_
  refine O.opE (.p rfl) (.makeP (T := Rp.val) (.slice none 0 0) (m := 0) Go.Proofs.Tryz.underlying58 FactKit4.elem135 (by decide) ⟨rfl, rfl⟩ rfl rfl rfl rfl (by decide) (by decide)) ?_
  rintro _ _ ⟨a42, c42, rfl, rfl⟩
  refine O.op (.p rfl) (.as rfl) ?_
  refine O.nil ?_
  refine S.seq (S.seq (S.region rfl ?_))
  refine O.op (.p rfl) (.as rfl) ?_
  refine O.nil ?_
  refine S.block ?_
  refine S.unroll ?_
  refine S.seq (S.seq (S.region rfl ?_))
  refine O.op (.p rfl) (.mv rfl) ?_
  refine O.op (.p rfl) (.mv rfl) ?_
  refine O.op (.p rfl) (.len rfl Go.Proofs.Tryz.underlying58 rfl) ?_
  refine O.op (.p rfl) (.lss rfl rfl) ?_
  refine O.nil ?_
  first | refine S.condD rfl (fun h46 => ?_) (fun h46 => ?_) | refine S.condB rfl (fun h46 => ?_) (fun h46 => ?_)
  · exact absurd (by assumption) (by simp)
  refine S.exit rfl ?_
  refine S.seq (S.seq (S.region rfl ?_))
  refine O.op (.p rfl) (.as rfl) ?_
  refine O.nil ?_
  refine S.block ?_
  refine S.unroll ?_
  refine S.seq (S.seq (S.region rfl ?_))
  refine O.op (.p rfl) (.mv rfl) ?_
  refine O.op (.p rfl) (.mv rfl) ?_
  refine O.op (.p rfl) (.len rfl Go.Proofs.Tryz.underlying58 rfl) ?_
  refine O.op (.p rfl) (.lss rfl rfl) ?_
  refine O.nil ?_
  first | refine S.condD rfl (fun h76 => ?_) (fun h76 => ?_) | refine S.condB rfl (fun h76 => ?_) (fun h76 => ?_)
  · exact absurd (by assumption) (by simp)
  refine S.exit rfl ?_
  refine S.seq (S.seq (S.region rfl ?_))
  refine O.op (.p rfl) (.as rfl) ?_
  refine O.nil ?_
  refine S.block ?_
  refine S.unroll ?_
  refine S.seq (S.seq (S.region rfl ?_))
  refine O.op (.p rfl) (.mv rfl) ?_
  refine O.op (.p rfl) (.mv rfl) ?_
  refine O.op (.p rfl) (.len rfl Go.Proofs.Tryz.underlying58 rfl) ?_
  refine O.op (.p rfl) (.lss rfl rfl) ?_
  refine O.nil ?_
  first | refine S.condD rfl (fun h126 => ?_) (fun h126 => ?_) | refine S.condB rfl (fun h126 => ?_) (fun h126 => ?_)
  · exact absurd (by assumption) (by simp)
  refine S.exit rfl ?_
  refine S.seq (S.seq (S.region rfl ?_))
  refine O.op (.p rfl) (.as rfl) ?_
  refine O.nil ?_
  refine S.block ?_
  refine S.unroll ?_
  refine S.seq (S.seq (S.region rfl ?_))
  refine O.op (.p rfl) (.mv rfl) ?_
  refine O.op (.p rfl) (.mv rfl) ?_
  refine O.op (.p rfl) (.len rfl Go.Proofs.Tryz.underlying58 rfl) ?_
  refine O.op (.p rfl) (.lss rfl rfl) ?_
  refine O.nil ?_
  first | refine S.condD rfl (fun h155 => ?_) (fun h155 => ?_) | refine S.condB rfl (fun h155 => ?_) (fun h155 => ?_)
  · exact absurd (by assumption) (by simp)
  refine S.exit rfl ?_
  refine S.seq (S.region rfl ?_)
  refine O.op (.p rfl) (.as rfl) ?_
  refine O.nil ?_
  refine S.ret Go.Proofs.Tryz.results44 rfl fun w hw => Holds.end_ hR hw ?_
  exact ⟨_, ⟨rfl, rfl⟩, by repeat (first | exact Picks.all | exact Picks.nil | (apply Picks.cons; focus (repeat (first | exact Sel.here | apply Sel.there))) | apply Picks.skip)⟩
theorem flatNodes_0 {r : Fr} : Con Go.Proofs.Tryz.prog 45 #[.slice none 0 0] r [] (Ret fun v η => v = .bool true ∧ η = []) := by
  refine Con.of (n := 193) [.slice none 0 0] rfl Go.Proofs.Tryz.func45 rfl rfl rfl fun g hg R hR => ?_
  refine S.seq (S.region rfl ?_)
  refine O.op (.p rfl) (.as rfl) ?_
  refine O.nil ?_
  refine S.seq (S.seq (S.region rfl ?_))
  refine O.op (.p rfl) (.as rfl) ?_
  refine O.nil ?_
  refine S.block ?_
  refine S.unroll ?_
  refine S.seq (S.seq (S.region rfl ?_))
  refine O.op (.p rfl) (.mv rfl) ?_
  refine O.op (.p rfl) (.mv rfl) ?_
  refine O.op (.p rfl) (.len rfl Go.Proofs.Tryz.underlying59 rfl) ?_
  refine O.op (.p rfl) (.lss rfl rfl) ?_
  refine O.nil ?_
  first | refine S.condD rfl (fun h19 => ?_) (fun h19 => ?_) | refine S.condB rfl (fun h19 => ?_) (fun h19 => ?_)
  · exact absurd (by assumption) (by simp)
  refine S.exit rfl ?_
  refine S.seq (S.region rfl ?_)
  refine O.op (.p rfl) (.mv rfl) ?_
  refine O.op (.p rfl) (.len rfl Go.Proofs.Tryz.underlying59 rfl) ?_
  refine O.opE (.p rfl) (.makeP (T := Rp.val) (.slice none 0 0) (m := 0) Go.Proofs.Tryz.underlying59 FactKit4.elem140 (by decide) ⟨rfl, rfl⟩ rfl rfl rfl rfl (by decide) (by decide)) ?_
  rintro _ _ ⟨a42, c42, rfl, rfl⟩
  refine O.op (.p rfl) (.as rfl) ?_
  refine O.nil ?_
  refine S.seq (S.seq (S.region rfl ?_))
  refine O.op (.p rfl) (.as rfl) ?_
  refine O.nil ?_
  refine S.block ?_
  refine S.unroll ?_
  refine S.seq (S.seq (S.region rfl ?_))
  refine O.op (.p rfl) (.mv rfl) ?_
  refine O.op (.p rfl) (.mv rfl) ?_
  refine O.op (.p rfl) (.len rfl Go.Proofs.Tryz.underlying59 rfl) ?_
  refine O.op (.p rfl) (.lss rfl rfl) ?_
  refine O.nil ?_
  first | refine S.condD rfl (fun h46 => ?_) (fun h46 => ?_) | refine S.condB rfl (fun h46 => ?_) (fun h46 => ?_)
  · exact absurd (by assumption) (by simp)
  refine S.exit rfl ?_
  refine S.seq (S.seq (S.region rfl ?_))
  refine O.op (.p rfl) (.as rfl) ?_
  refine O.nil ?_
  refine S.block ?_
  refine S.unroll ?_
  refine S.seq (S.seq (S.region rfl ?_))
  refine O.op (.p rfl) (.mv rfl) ?_
  refine O.op (.p rfl) (.mv rfl) ?_
  refine O.op (.p rfl) (.len rfl Go.Proofs.Tryz.underlying59 rfl) ?_
  refine O.op (.p rfl) (.lss rfl rfl) ?_
  refine O.nil ?_
  first | refine S.condD rfl (fun h76 => ?_) (fun h76 => ?_) | refine S.condB rfl (fun h76 => ?_) (fun h76 => ?_)
  · exact absurd (by assumption) (by simp)
  refine S.exit rfl ?_
  refine S.seq (S.seq (S.region rfl ?_))
  refine O.op (.p rfl) (.as rfl) ?_
  refine O.nil ?_
  refine S.block ?_
  refine S.unroll ?_
  refine S.seq (S.seq (S.region rfl ?_))
  refine O.op (.p rfl) (.mv rfl) ?_
  refine O.op (.p rfl) (.mv rfl) ?_
  refine O.op (.p rfl) (.len rfl Go.Proofs.Tryz.underlying59 rfl) ?_
  refine O.op (.p rfl) (.lss rfl rfl) ?_
  refine O.nil ?_
  first | refine S.condD rfl (fun h126 => ?_) (fun h126 => ?_) | refine S.condB rfl (fun h126 => ?_) (fun h126 => ?_)
  · exact absurd (by assumption) (by simp)
  refine S.exit rfl ?_
  refine S.seq (S.seq (S.region rfl ?_))
  refine O.op (.p rfl) (.as rfl) ?_
  refine O.nil ?_
  refine S.block ?_
  refine S.unroll ?_
  refine S.seq (S.seq (S.region rfl ?_))
  refine O.op (.p rfl) (.mv rfl) ?_
  refine O.op (.p rfl) (.mv rfl) ?_
  refine O.op (.p rfl) (.len rfl Go.Proofs.Tryz.underlying59 rfl) ?_
  refine O.op (.p rfl) (.lss rfl rfl) ?_
  refine O.nil ?_
  first | refine S.condD rfl (fun h155 => ?_) (fun h155 => ?_) | refine S.condB rfl (fun h155 => ?_) (fun h155 => ?_)
  · exact absurd (by assumption) (by simp)
  refine S.exit rfl ?_
  refine S.seq (S.region rfl ?_)
  refine O.op (.p rfl) (.as rfl) ?_
  refine O.nil ?_
  refine S.ret Go.Proofs.Tryz.results45 rfl fun w hw => Holds.end_ hR hw ?_
  exact ⟨_, ⟨rfl, rfl⟩, by repeat (first | exact Picks.all | exact Picks.nil | (apply Picks.cons; focus (repeat (first | exact Sel.here | apply Sel.there))) | apply Picks.skip)⟩
theorem flatStubs_0 {r : Fr} : Con Go.Proofs.Tryz.prog 46 #[.slice none 0 0] r [] (Ret fun v η => v = .bool true ∧ η = []) := by
  refine Con.of (n := 193) [.slice none 0 0] rfl Go.Proofs.Tryz.func46 rfl rfl rfl fun g hg R hR => ?_
  refine S.seq (S.region rfl ?_)
  refine O.op (.p rfl) (.as rfl) ?_
  refine O.nil ?_
  refine S.seq (S.seq (S.region rfl ?_))
  refine O.op (.p rfl) (.as rfl) ?_
  refine O.nil ?_
  refine S.block ?_
  refine S.unroll ?_
  refine S.seq (S.seq (S.region rfl ?_))
  refine O.op (.p rfl) (.mv rfl) ?_
  refine O.op (.p rfl) (.mv rfl) ?_
  refine O.op (.p rfl) (.len rfl Go.Proofs.Tryz.underlying60 rfl) ?_
  refine O.op (.p rfl) (.lss rfl rfl) ?_
  refine O.nil ?_
  first | refine S.condD rfl (fun h19 => ?_) (fun h19 => ?_) | refine S.condB rfl (fun h19 => ?_) (fun h19 => ?_)
  · exact absurd (by assumption) (by simp)
  refine S.exit rfl ?_
  refine S.seq (S.region rfl ?_)
  refine O.op (.p rfl) (.mv rfl) ?_
  refine O.op (.p rfl) (.len rfl Go.Proofs.Tryz.underlying60 rfl) ?_
  refine O.opE (.p rfl) (.makeP (T := Rp.val) (.slice none 0 0) (m := 0) Go.Proofs.Tryz.underlying60 FactKit4.elem146 (by decide) ⟨rfl, rfl⟩ rfl rfl rfl rfl (by decide) (by decide)) ?_
  rintro _ _ ⟨a42, c42, rfl, rfl⟩
  refine O.op (.p rfl) (.as rfl) ?_
  refine O.nil ?_
  refine S.seq (S.seq (S.region rfl ?_))
  refine O.op (.p rfl) (.as rfl) ?_
  refine O.nil ?_
  refine S.block ?_
  refine S.unroll ?_
  refine S.seq (S.seq (S.region rfl ?_))
  refine O.op (.p rfl) (.mv rfl) ?_
  refine O.op (.p rfl) (.mv rfl) ?_
  refine O.op (.p rfl) (.len rfl Go.Proofs.Tryz.underlying60 rfl) ?_
  refine O.op (.p rfl) (.lss rfl rfl) ?_
  refine O.nil ?_
  first | refine S.condD rfl (fun h46 => ?_) (fun h46 => ?_) | refine S.condB rfl (fun h46 => ?_) (fun h46 => ?_)
  · exact absurd (by assumption) (by simp)
  refine S.exit rfl ?_
  refine S.seq (S.seq (S.region rfl ?_))
  refine O.op (.p rfl) (.as rfl) ?_
  refine O.nil ?_
  refine S.block ?_
  refine S.unroll ?_
  refine S.seq (S.seq (S.region rfl ?_))
  refine O.op (.p rfl) (.mv rfl) ?_
  refine O.op (.p rfl) (.mv rfl) ?_
  refine O.op (.p rfl) (.len rfl Go.Proofs.Tryz.underlying60 rfl) ?_
  refine O.op (.p rfl) (.lss rfl rfl) ?_
  refine O.nil ?_
  first | refine S.condD rfl (fun h76 => ?_) (fun h76 => ?_) | refine S.condB rfl (fun h76 => ?_) (fun h76 => ?_)
  · exact absurd (by assumption) (by simp)
  refine S.exit rfl ?_
  refine S.seq (S.seq (S.region rfl ?_))
  refine O.op (.p rfl) (.as rfl) ?_
  refine O.nil ?_
  refine S.block ?_
  refine S.unroll ?_
  refine S.seq (S.seq (S.region rfl ?_))
  refine O.op (.p rfl) (.mv rfl) ?_
  refine O.op (.p rfl) (.mv rfl) ?_
  refine O.op (.p rfl) (.len rfl Go.Proofs.Tryz.underlying60 rfl) ?_
  refine O.op (.p rfl) (.lss rfl rfl) ?_
  refine O.nil ?_
  first | refine S.condD rfl (fun h126 => ?_) (fun h126 => ?_) | refine S.condB rfl (fun h126 => ?_) (fun h126 => ?_)
  · exact absurd (by assumption) (by simp)
  refine S.exit rfl ?_
  refine S.seq (S.seq (S.region rfl ?_))
  refine O.op (.p rfl) (.as rfl) ?_
  refine O.nil ?_
  refine S.block ?_
  refine S.unroll ?_
  refine S.seq (S.seq (S.region rfl ?_))
  refine O.op (.p rfl) (.mv rfl) ?_
  refine O.op (.p rfl) (.mv rfl) ?_
  refine O.op (.p rfl) (.len rfl Go.Proofs.Tryz.underlying60 rfl) ?_
  refine O.op (.p rfl) (.lss rfl rfl) ?_
  refine O.nil ?_
  first | refine S.condD rfl (fun h155 => ?_) (fun h155 => ?_) | refine S.condB rfl (fun h155 => ?_) (fun h155 => ?_)
  · exact absurd (by assumption) (by simp)
  refine S.exit rfl ?_
  refine S.seq (S.region rfl ?_)
  refine O.op (.p rfl) (.as rfl) ?_
  refine O.nil ?_
  refine S.ret Go.Proofs.Tryz.results46 rfl fun w hw => Holds.end_ hR hw ?_
  exact ⟨_, ⟨rfl, rfl⟩, by repeat (first | exact Picks.all | exact Picks.nil | (apply Picks.cons; focus (repeat (first | exact Sel.here | apply Sel.there))) | apply Picks.skip)⟩
theorem flatProofs_0 {r : Fr} : Con Go.Proofs.Tryz.prog 47 #[.slice none 0 0] r [] (Ret fun v η => v = .bool true ∧ η = []) := by
  refine Con.of (n := 193) [.slice none 0 0] rfl Go.Proofs.Tryz.func47 rfl rfl rfl fun g hg R hR => ?_
  refine S.seq (S.region rfl ?_)
  refine O.op (.p rfl) (.as rfl) ?_
  refine O.nil ?_
  refine S.seq (S.seq (S.region rfl ?_))
  refine O.op (.p rfl) (.as rfl) ?_
  refine O.nil ?_
  refine S.block ?_
  refine S.unroll ?_
  refine S.seq (S.seq (S.region rfl ?_))
  refine O.op (.p rfl) (.mv rfl) ?_
  refine O.op (.p rfl) (.mv rfl) ?_
  refine O.op (.p rfl) (.len rfl Go.Proofs.Tryz.underlying61 rfl) ?_
  refine O.op (.p rfl) (.lss rfl rfl) ?_
  refine O.nil ?_
  first | refine S.condD rfl (fun h19 => ?_) (fun h19 => ?_) | refine S.condB rfl (fun h19 => ?_) (fun h19 => ?_)
  · exact absurd (by assumption) (by simp)
  refine S.exit rfl ?_
  refine S.seq (S.region rfl ?_)
  refine O.op (.p rfl) (.mv rfl) ?_
  refine O.op (.p rfl) (.len rfl Go.Proofs.Tryz.underlying61 rfl) ?_
  refine O.opE (.p rfl) (.makeP (T := Rp.val) (.slice none 0 0) (m := 0) Go.Proofs.Tryz.underlying61 FactKit4.elem151 (by decide) ⟨rfl, rfl⟩ rfl rfl rfl rfl (by decide) (by decide)) ?_
  rintro _ _ ⟨a42, c42, rfl, rfl⟩
  refine O.op (.p rfl) (.as rfl) ?_
  refine O.nil ?_
  refine S.seq (S.seq (S.region rfl ?_))
  refine O.op (.p rfl) (.as rfl) ?_
  refine O.nil ?_
  refine S.block ?_
  refine S.unroll ?_
  refine S.seq (S.seq (S.region rfl ?_))
  refine O.op (.p rfl) (.mv rfl) ?_
  refine O.op (.p rfl) (.mv rfl) ?_
  refine O.op (.p rfl) (.len rfl Go.Proofs.Tryz.underlying61 rfl) ?_
  refine O.op (.p rfl) (.lss rfl rfl) ?_
  refine O.nil ?_
  first | refine S.condD rfl (fun h46 => ?_) (fun h46 => ?_) | refine S.condB rfl (fun h46 => ?_) (fun h46 => ?_)
  · exact absurd (by assumption) (by simp)
  refine S.exit rfl ?_
  refine S.seq (S.seq (S.region rfl ?_))
  refine O.op (.p rfl) (.as rfl) ?_
  refine O.nil ?_
  refine S.block ?_
  refine S.unroll ?_
  refine S.seq (S.seq (S.region rfl ?_))
  refine O.op (.p rfl) (.mv rfl) ?_
  refine O.op (.p rfl) (.mv rfl) ?_
  refine O.op (.p rfl) (.len rfl Go.Proofs.Tryz.underlying61 rfl) ?_
  refine O.op (.p rfl) (.lss rfl rfl) ?_
  refine O.nil ?_
  first | refine S.condD rfl (fun h76 => ?_) (fun h76 => ?_) | refine S.condB rfl (fun h76 => ?_) (fun h76 => ?_)
  · exact absurd (by assumption) (by simp)
  refine S.exit rfl ?_
  refine S.seq (S.seq (S.region rfl ?_))
  refine O.op (.p rfl) (.as rfl) ?_
  refine O.nil ?_
  refine S.block ?_
  refine S.unroll ?_
  refine S.seq (S.seq (S.region rfl ?_))
  refine O.op (.p rfl) (.mv rfl) ?_
  refine O.op (.p rfl) (.mv rfl) ?_
  refine O.op (.p rfl) (.len rfl Go.Proofs.Tryz.underlying61 rfl) ?_
  refine O.op (.p rfl) (.lss rfl rfl) ?_
  refine O.nil ?_
  first | refine S.condD rfl (fun h126 => ?_) (fun h126 => ?_) | refine S.condB rfl (fun h126 => ?_) (fun h126 => ?_)
  · exact absurd (by assumption) (by simp)
  refine S.exit rfl ?_
  refine S.seq (S.seq (S.region rfl ?_))
  refine O.op (.p rfl) (.as rfl) ?_
  refine O.nil ?_
  refine S.block ?_
  refine S.unroll ?_
  refine S.seq (S.seq (S.region rfl ?_))
  refine O.op (.p rfl) (.mv rfl) ?_
  refine O.op (.p rfl) (.mv rfl) ?_
  refine O.op (.p rfl) (.len rfl Go.Proofs.Tryz.underlying61 rfl) ?_
  refine O.op (.p rfl) (.lss rfl rfl) ?_
  refine O.nil ?_
  first | refine S.condD rfl (fun h155 => ?_) (fun h155 => ?_) | refine S.condB rfl (fun h155 => ?_) (fun h155 => ?_)
  · exact absurd (by assumption) (by simp)
  refine S.exit rfl ?_
  refine S.seq (S.region rfl ?_)
  refine O.op (.p rfl) (.as rfl) ?_
  refine O.nil ?_
  refine S.ret Go.Proofs.Tryz.results47 rfl fun w hw => Holds.end_ hR hw ?_
  exact ⟨_, ⟨rfl, rfl⟩, by repeat (first | exact Picks.all | exact Picks.nil | (apply Picks.cons; focus (repeat (first | exact Sel.here | apply Sel.there))) | apply Picks.skip)⟩
theorem flatRoots_0 {r : Fr} : Con Go.Proofs.Tryz.prog 48 #[.slice none 0 0] r [] (Ret fun v η => v = .bool true ∧ η = []) := by
  refine Con.of (n := 193) [.slice none 0 0] rfl Go.Proofs.Tryz.func48 rfl rfl rfl fun g hg R hR => ?_
  refine S.seq (S.region rfl ?_)
  refine O.op (.p rfl) (.as rfl) ?_
  refine O.nil ?_
  refine S.seq (S.seq (S.region rfl ?_))
  refine O.op (.p rfl) (.as rfl) ?_
  refine O.nil ?_
  refine S.block ?_
  refine S.unroll ?_
  refine S.seq (S.seq (S.region rfl ?_))
  refine O.op (.p rfl) (.mv rfl) ?_
  refine O.op (.p rfl) (.mv rfl) ?_
  refine O.op (.p rfl) (.len rfl Go.Proofs.Tryz.underlying62 rfl) ?_
  refine O.op (.p rfl) (.lss rfl rfl) ?_
  refine O.nil ?_
  first | refine S.condD rfl (fun h19 => ?_) (fun h19 => ?_) | refine S.condB rfl (fun h19 => ?_) (fun h19 => ?_)
  · exact absurd (by assumption) (by simp)
  refine S.exit rfl ?_
  refine S.seq (S.region rfl ?_)
  refine O.op (.p rfl) (.mv rfl) ?_
  refine O.op (.p rfl) (.len rfl Go.Proofs.Tryz.underlying62 rfl) ?_
  refine O.opE (.p rfl) (.makeP (T := Rp.val) (.slice none 0 0) (m := 0) Go.Proofs.Tryz.underlying62 FactKit4.elem156 (by decide) ⟨rfl, rfl⟩ rfl rfl rfl rfl (by decide) (by decide)) ?_
  rintro _ _ ⟨a42, c42, rfl, rfl⟩
  refine O.op (.p rfl) (.as rfl) ?_
  refine O.nil ?_
  refine S.seq (S.seq (S.region rfl ?_))
  refine O.op (.p rfl) (.as rfl) ?_
  refine O.nil ?_
  refine S.block ?_
  refine S.unroll ?_
  refine S.seq (S.seq (S.region rfl ?_))
  refine O.op (.p rfl) (.mv rfl) ?_
  refine O.op (.p rfl) (.mv rfl) ?_
  refine O.op (.p rfl) (.len rfl Go.Proofs.Tryz.underlying62 rfl) ?_
  refine O.op (.p rfl) (.lss rfl rfl) ?_
  refine O.nil ?_
  first | refine S.condD rfl (fun h46 => ?_) (fun h46 => ?_) | refine S.condB rfl (fun h46 => ?_) (fun h46 => ?_)
  · exact absurd (by assumption) (by simp)
  refine S.exit rfl ?_
  refine S.seq (S.seq (S.region rfl ?_))
  refine O.op (.p rfl) (.as rfl) ?_
  refine O.nil ?_
  refine S.block ?_
  refine S.unroll ?_
  refine S.seq (S.seq (S.region rfl ?_))
  refine O.op (.p rfl) (.mv rfl) ?_
  refine O.op (.p rfl) (.mv rfl) ?_
  refine O.op (.p rfl) (.len rfl Go.Proofs.Tryz.underlying62 rfl) ?_
  refine O.op (.p rfl) (.lss rfl rfl) ?_
  refine O.nil ?_
  first | refine S.condD rfl (fun h76 => ?_) (fun h76 => ?_) | refine S.condB rfl (fun h76 => ?_) (fun h76 => ?_)
  · exact absurd (by assumption) (by simp)
  refine S.exit rfl ?_
  refine S.seq (S.seq (S.region rfl ?_))
  refine O.op (.p rfl) (.as rfl) ?_
  refine O.nil ?_
  refine S.block ?_
  refine S.unroll ?_
  refine S.seq (S.seq (S.region rfl ?_))
  refine O.op (.p rfl) (.mv rfl) ?_
  refine O.op (.p rfl) (.mv rfl) ?_
  refine O.op (.p rfl) (.len rfl Go.Proofs.Tryz.underlying62 rfl) ?_
  refine O.op (.p rfl) (.lss rfl rfl) ?_
  refine O.nil ?_
  first | refine S.condD rfl (fun h126 => ?_) (fun h126 => ?_) | refine S.condB rfl (fun h126 => ?_) (fun h126 => ?_)
  · exact absurd (by assumption) (by simp)
  refine S.exit rfl ?_
  refine S.seq (S.seq (S.region rfl ?_))
  refine O.op (.p rfl) (.as rfl) ?_
  refine O.nil ?_
  refine S.block ?_
  refine S.unroll ?_
  refine S.seq (S.seq (S.region rfl ?_))
  refine O.op (.p rfl) (.mv rfl) ?_
  refine O.op (.p rfl) (.mv rfl) ?_
  refine O.op (.p rfl) (.len rfl Go.Proofs.Tryz.underlying62 rfl) ?_
  refine O.op (.p rfl) (.lss rfl rfl) ?_
  refine O.nil ?_
  first | refine S.condD rfl (fun h155 => ?_) (fun h155 => ?_) | refine S.condB rfl (fun h155 => ?_) (fun h155 => ?_)
  · exact absurd (by assumption) (by simp)
  refine S.exit rfl ?_
  refine S.seq (S.region rfl ?_)
  refine O.op (.p rfl) (.as rfl) ?_
  refine O.nil ?_
  refine S.ret Go.Proofs.Tryz.results48 rfl fun w hw => Holds.end_ hR hw ?_
  exact ⟨_, ⟨rfl, rfl⟩, by repeat (first | exact Picks.all | exact Picks.nil | (apply Picks.cons; focus (repeat (first | exact Sel.here | apply Sel.there))) | apply Picks.skip)⟩
theorem flatEvidenceRow_0 {r : Fr} : Con Go.Proofs.Tryz.prog 49 #[.slice none 0 0] r [] (Ret fun v η => v = .bool true ∧ η = []) := by
  refine Con.of (n := 193) [.slice none 0 0] rfl Go.Proofs.Tryz.func49 rfl rfl rfl fun g hg R hR => ?_
  refine S.seq (S.region rfl ?_)
  refine O.op (.p rfl) (.as rfl) ?_
  refine O.nil ?_
  refine S.seq (S.seq (S.region rfl ?_))
  refine O.op (.p rfl) (.as rfl) ?_
  refine O.nil ?_
  refine S.block ?_
  refine S.unroll ?_
  refine S.seq (S.seq (S.region rfl ?_))
  refine O.op (.p rfl) (.mv rfl) ?_
  refine O.op (.p rfl) (.mv rfl) ?_
  refine O.op (.p rfl) (.len rfl Go.Proofs.Tryz.underlying63 rfl) ?_
  refine O.op (.p rfl) (.lss rfl rfl) ?_
  refine O.nil ?_
  first | refine S.condD rfl (fun h19 => ?_) (fun h19 => ?_) | refine S.condB rfl (fun h19 => ?_) (fun h19 => ?_)
  · exact absurd (by assumption) (by simp)
  refine S.exit rfl ?_
  refine S.seq (S.region rfl ?_)
  refine O.op (.p rfl) (.mv rfl) ?_
  refine O.op (.p rfl) (.len rfl Go.Proofs.Tryz.underlying63 rfl) ?_
  refine O.opE (.p rfl) (.makeP (T := Rp.val) (.slice none 0 0) (m := 0) Go.Proofs.Tryz.underlying63 FactKit4.elem161 (by decide) ⟨rfl, rfl⟩ rfl rfl rfl rfl (by decide) (by decide)) ?_
  rintro _ _ ⟨a42, c42, rfl, rfl⟩
  refine O.op (.p rfl) (.as rfl) ?_
  refine O.nil ?_
  refine S.seq (S.seq (S.region rfl ?_))
  refine O.op (.p rfl) (.as rfl) ?_
  refine O.nil ?_
  refine S.block ?_
  refine S.unroll ?_
  refine S.seq (S.seq (S.region rfl ?_))
  refine O.op (.p rfl) (.mv rfl) ?_
  refine O.op (.p rfl) (.mv rfl) ?_
  refine O.op (.p rfl) (.len rfl Go.Proofs.Tryz.underlying63 rfl) ?_
  refine O.op (.p rfl) (.lss rfl rfl) ?_
  refine O.nil ?_
  first | refine S.condD rfl (fun h46 => ?_) (fun h46 => ?_) | refine S.condB rfl (fun h46 => ?_) (fun h46 => ?_)
  · exact absurd (by assumption) (by simp)
  refine S.exit rfl ?_
  refine S.seq (S.seq (S.region rfl ?_))
  refine O.op (.p rfl) (.as rfl) ?_
  refine O.nil ?_
  refine S.block ?_
  refine S.unroll ?_
  refine S.seq (S.seq (S.region rfl ?_))
  refine O.op (.p rfl) (.mv rfl) ?_
  refine O.op (.p rfl) (.mv rfl) ?_
  refine O.op (.p rfl) (.len rfl Go.Proofs.Tryz.underlying63 rfl) ?_
  refine O.op (.p rfl) (.lss rfl rfl) ?_
  refine O.nil ?_
  first | refine S.condD rfl (fun h76 => ?_) (fun h76 => ?_) | refine S.condB rfl (fun h76 => ?_) (fun h76 => ?_)
  · exact absurd (by assumption) (by simp)
  refine S.exit rfl ?_
  refine S.seq (S.seq (S.region rfl ?_))
  refine O.op (.p rfl) (.as rfl) ?_
  refine O.nil ?_
  refine S.block ?_
  refine S.unroll ?_
  refine S.seq (S.seq (S.region rfl ?_))
  refine O.op (.p rfl) (.mv rfl) ?_
  refine O.op (.p rfl) (.mv rfl) ?_
  refine O.op (.p rfl) (.len rfl Go.Proofs.Tryz.underlying63 rfl) ?_
  refine O.op (.p rfl) (.lss rfl rfl) ?_
  refine O.nil ?_
  first | refine S.condD rfl (fun h126 => ?_) (fun h126 => ?_) | refine S.condB rfl (fun h126 => ?_) (fun h126 => ?_)
  · exact absurd (by assumption) (by simp)
  refine S.exit rfl ?_
  refine S.seq (S.seq (S.region rfl ?_))
  refine O.op (.p rfl) (.as rfl) ?_
  refine O.nil ?_
  refine S.block ?_
  refine S.unroll ?_
  refine S.seq (S.seq (S.region rfl ?_))
  refine O.op (.p rfl) (.mv rfl) ?_
  refine O.op (.p rfl) (.mv rfl) ?_
  refine O.op (.p rfl) (.len rfl Go.Proofs.Tryz.underlying63 rfl) ?_
  refine O.op (.p rfl) (.lss rfl rfl) ?_
  refine O.nil ?_
  first | refine S.condD rfl (fun h155 => ?_) (fun h155 => ?_) | refine S.condB rfl (fun h155 => ?_) (fun h155 => ?_)
  · exact absurd (by assumption) (by simp)
  refine S.exit rfl ?_
  refine S.seq (S.region rfl ?_)
  refine O.op (.p rfl) (.as rfl) ?_
  refine O.nil ?_
  refine S.ret Go.Proofs.Tryz.results49 rfl fun w hw => Holds.end_ hR hw ?_
  exact ⟨_, ⟨rfl, rfl⟩, by repeat (first | exact Picks.all | exact Picks.nil | (apply Picks.cons; focus (repeat (first | exact Sel.here | apply Sel.there))) | apply Picks.skip)⟩
theorem flatFrames_0 {r : Fr} : Con Go.Proofs.Tryz.prog 50 #[.slice none 0 0] r [] (Ret fun v η => v = .bool true ∧ η = []) := by
  refine Con.of (n := 193) [.slice none 0 0] rfl Go.Proofs.Tryz.func50 rfl rfl rfl fun g hg R hR => ?_
  refine S.seq (S.region rfl ?_)
  refine O.op (.p rfl) (.as rfl) ?_
  refine O.nil ?_
  refine S.seq (S.seq (S.region rfl ?_))
  refine O.op (.p rfl) (.as rfl) ?_
  refine O.nil ?_
  refine S.block ?_
  refine S.unroll ?_
  refine S.seq (S.seq (S.region rfl ?_))
  refine O.op (.p rfl) (.mv rfl) ?_
  refine O.op (.p rfl) (.mv rfl) ?_
  refine O.op (.p rfl) (.len rfl Go.Proofs.Tryz.underlying64 rfl) ?_
  refine O.op (.p rfl) (.lss rfl rfl) ?_
  refine O.nil ?_
  first | refine S.condD rfl (fun h19 => ?_) (fun h19 => ?_) | refine S.condB rfl (fun h19 => ?_) (fun h19 => ?_)
  · exact absurd (by assumption) (by simp)
  refine S.exit rfl ?_
  refine S.seq (S.region rfl ?_)
  refine O.op (.p rfl) (.mv rfl) ?_
  refine O.op (.p rfl) (.len rfl Go.Proofs.Tryz.underlying64 rfl) ?_
  refine O.opE (.p rfl) (.makeP (T := Rp.val) (.slice none 0 0) (m := 0) Go.Proofs.Tryz.underlying64 FactKit4.elem166 (by decide) ⟨rfl, rfl⟩ rfl rfl rfl rfl (by decide) (by decide)) ?_
  rintro _ _ ⟨a42, c42, rfl, rfl⟩
  refine O.op (.p rfl) (.as rfl) ?_
  refine O.nil ?_
  refine S.seq (S.seq (S.region rfl ?_))
  refine O.op (.p rfl) (.as rfl) ?_
  refine O.nil ?_
  refine S.block ?_
  refine S.unroll ?_
  refine S.seq (S.seq (S.region rfl ?_))
  refine O.op (.p rfl) (.mv rfl) ?_
  refine O.op (.p rfl) (.mv rfl) ?_
  refine O.op (.p rfl) (.len rfl Go.Proofs.Tryz.underlying64 rfl) ?_
  refine O.op (.p rfl) (.lss rfl rfl) ?_
  refine O.nil ?_
  first | refine S.condD rfl (fun h46 => ?_) (fun h46 => ?_) | refine S.condB rfl (fun h46 => ?_) (fun h46 => ?_)
  · exact absurd (by assumption) (by simp)
  refine S.exit rfl ?_
  refine S.seq (S.seq (S.region rfl ?_))
  refine O.op (.p rfl) (.as rfl) ?_
  refine O.nil ?_
  refine S.block ?_
  refine S.unroll ?_
  refine S.seq (S.seq (S.region rfl ?_))
  refine O.op (.p rfl) (.mv rfl) ?_
  refine O.op (.p rfl) (.mv rfl) ?_
  refine O.op (.p rfl) (.len rfl Go.Proofs.Tryz.underlying64 rfl) ?_
  refine O.op (.p rfl) (.lss rfl rfl) ?_
  refine O.nil ?_
  first | refine S.condD rfl (fun h76 => ?_) (fun h76 => ?_) | refine S.condB rfl (fun h76 => ?_) (fun h76 => ?_)
  · exact absurd (by assumption) (by simp)
  refine S.exit rfl ?_
  refine S.seq (S.seq (S.region rfl ?_))
  refine O.op (.p rfl) (.as rfl) ?_
  refine O.nil ?_
  refine S.block ?_
  refine S.unroll ?_
  refine S.seq (S.seq (S.region rfl ?_))
  refine O.op (.p rfl) (.mv rfl) ?_
  refine O.op (.p rfl) (.mv rfl) ?_
  refine O.op (.p rfl) (.len rfl Go.Proofs.Tryz.underlying64 rfl) ?_
  refine O.op (.p rfl) (.lss rfl rfl) ?_
  refine O.nil ?_
  first | refine S.condD rfl (fun h126 => ?_) (fun h126 => ?_) | refine S.condB rfl (fun h126 => ?_) (fun h126 => ?_)
  · exact absurd (by assumption) (by simp)
  refine S.exit rfl ?_
  refine S.seq (S.seq (S.region rfl ?_))
  refine O.op (.p rfl) (.as rfl) ?_
  refine O.nil ?_
  refine S.block ?_
  refine S.unroll ?_
  refine S.seq (S.seq (S.region rfl ?_))
  refine O.op (.p rfl) (.mv rfl) ?_
  refine O.op (.p rfl) (.mv rfl) ?_
  refine O.op (.p rfl) (.len rfl Go.Proofs.Tryz.underlying64 rfl) ?_
  refine O.op (.p rfl) (.lss rfl rfl) ?_
  refine O.nil ?_
  first | refine S.condD rfl (fun h155 => ?_) (fun h155 => ?_) | refine S.condB rfl (fun h155 => ?_) (fun h155 => ?_)
  · exact absurd (by assumption) (by simp)
  refine S.exit rfl ?_
  refine S.seq (S.region rfl ?_)
  refine O.op (.p rfl) (.as rfl) ?_
  refine O.nil ?_
  refine S.ret Go.Proofs.Tryz.results50 rfl fun w hw => Holds.end_ hR hw ?_
  exact ⟨_, ⟨rfl, rfl⟩, by repeat (first | exact Picks.all | exact Picks.nil | (apply Picks.cons; focus (repeat (first | exact Sel.here | apply Sel.there))) | apply Picks.skip)⟩
theorem flatPackets_0 {r : Fr} : Con Go.Proofs.Tryz.prog 51 #[.slice none 0 0] r [] (Ret fun v η => v = .bool true ∧ η = []) := by
  refine Con.of (n := 193) [.slice none 0 0] rfl Go.Proofs.Tryz.func51 rfl rfl rfl fun g hg R hR => ?_
  refine S.seq (S.region rfl ?_)
  refine O.op (.p rfl) (.as rfl) ?_
  refine O.nil ?_
  refine S.seq (S.seq (S.region rfl ?_))
  refine O.op (.p rfl) (.as rfl) ?_
  refine O.nil ?_
  refine S.block ?_
  refine S.unroll ?_
  refine S.seq (S.seq (S.region rfl ?_))
  refine O.op (.p rfl) (.mv rfl) ?_
  refine O.op (.p rfl) (.mv rfl) ?_
  refine O.op (.p rfl) (.len rfl Go.Proofs.Tryz.underlying65 rfl) ?_
  refine O.op (.p rfl) (.lss rfl rfl) ?_
  refine O.nil ?_
  first | refine S.condD rfl (fun h19 => ?_) (fun h19 => ?_) | refine S.condB rfl (fun h19 => ?_) (fun h19 => ?_)
  · exact absurd (by assumption) (by simp)
  refine S.exit rfl ?_
  refine S.seq (S.region rfl ?_)
  refine O.op (.p rfl) (.mv rfl) ?_
  refine O.op (.p rfl) (.len rfl Go.Proofs.Tryz.underlying65 rfl) ?_
  refine O.opE (.p rfl) (.makeP (T := Rp.val) (.slice none 0 0) (m := 0) Go.Proofs.Tryz.underlying65 FactKit4.elem172 (by decide) ⟨rfl, rfl⟩ rfl rfl rfl rfl (by decide) (by decide)) ?_
  rintro _ _ ⟨a42, c42, rfl, rfl⟩
  refine O.op (.p rfl) (.as rfl) ?_
  refine O.nil ?_
  refine S.seq (S.seq (S.region rfl ?_))
  refine O.op (.p rfl) (.as rfl) ?_
  refine O.nil ?_
  refine S.block ?_
  refine S.unroll ?_
  refine S.seq (S.seq (S.region rfl ?_))
  refine O.op (.p rfl) (.mv rfl) ?_
  refine O.op (.p rfl) (.mv rfl) ?_
  refine O.op (.p rfl) (.len rfl Go.Proofs.Tryz.underlying65 rfl) ?_
  refine O.op (.p rfl) (.lss rfl rfl) ?_
  refine O.nil ?_
  first | refine S.condD rfl (fun h46 => ?_) (fun h46 => ?_) | refine S.condB rfl (fun h46 => ?_) (fun h46 => ?_)
  · exact absurd (by assumption) (by simp)
  refine S.exit rfl ?_
  refine S.seq (S.seq (S.region rfl ?_))
  refine O.op (.p rfl) (.as rfl) ?_
  refine O.nil ?_
  refine S.block ?_
  refine S.unroll ?_
  refine S.seq (S.seq (S.region rfl ?_))
  refine O.op (.p rfl) (.mv rfl) ?_
  refine O.op (.p rfl) (.mv rfl) ?_
  refine O.op (.p rfl) (.len rfl Go.Proofs.Tryz.underlying65 rfl) ?_
  refine O.op (.p rfl) (.lss rfl rfl) ?_
  refine O.nil ?_
  first | refine S.condD rfl (fun h76 => ?_) (fun h76 => ?_) | refine S.condB rfl (fun h76 => ?_) (fun h76 => ?_)
  · exact absurd (by assumption) (by simp)
  refine S.exit rfl ?_
  refine S.seq (S.seq (S.region rfl ?_))
  refine O.op (.p rfl) (.as rfl) ?_
  refine O.nil ?_
  refine S.block ?_
  refine S.unroll ?_
  refine S.seq (S.seq (S.region rfl ?_))
  refine O.op (.p rfl) (.mv rfl) ?_
  refine O.op (.p rfl) (.mv rfl) ?_
  refine O.op (.p rfl) (.len rfl Go.Proofs.Tryz.underlying65 rfl) ?_
  refine O.op (.p rfl) (.lss rfl rfl) ?_
  refine O.nil ?_
  first | refine S.condD rfl (fun h126 => ?_) (fun h126 => ?_) | refine S.condB rfl (fun h126 => ?_) (fun h126 => ?_)
  · exact absurd (by assumption) (by simp)
  refine S.exit rfl ?_
  refine S.seq (S.seq (S.region rfl ?_))
  refine O.op (.p rfl) (.as rfl) ?_
  refine O.nil ?_
  refine S.block ?_
  refine S.unroll ?_
  refine S.seq (S.seq (S.region rfl ?_))
  refine O.op (.p rfl) (.mv rfl) ?_
  refine O.op (.p rfl) (.mv rfl) ?_
  refine O.op (.p rfl) (.len rfl Go.Proofs.Tryz.underlying65 rfl) ?_
  refine O.op (.p rfl) (.lss rfl rfl) ?_
  refine O.nil ?_
  first | refine S.condD rfl (fun h155 => ?_) (fun h155 => ?_) | refine S.condB rfl (fun h155 => ?_) (fun h155 => ?_)
  · exact absurd (by assumption) (by simp)
  refine S.exit rfl ?_
  refine S.seq (S.region rfl ?_)
  refine O.op (.p rfl) (.as rfl) ?_
  refine O.nil ?_
  refine S.ret Go.Proofs.Tryz.results51 rfl fun w hw => Holds.end_ hR hw ?_
  exact ⟨_, ⟨rfl, rfl⟩, by repeat (first | exact Picks.all | exact Picks.nil | (apply Picks.cons; focus (repeat (first | exact Sel.here | apply Sel.there))) | apply Picks.skip)⟩
theorem flatEntries_0 {r : Fr} : Con Go.Proofs.Tryz.prog 52 #[.slice none 0 0] r [] (Ret fun v η => v = .bool true ∧ η = []) := by
  refine Con.of (n := 193) [.slice none 0 0] rfl Go.Proofs.Tryz.func52 rfl rfl rfl fun g hg R hR => ?_
  refine S.seq (S.region rfl ?_)
  refine O.op (.p rfl) (.as rfl) ?_
  refine O.nil ?_
  refine S.seq (S.seq (S.region rfl ?_))
  refine O.op (.p rfl) (.as rfl) ?_
  refine O.nil ?_
  refine S.block ?_
  refine S.unroll ?_
  refine S.seq (S.seq (S.region rfl ?_))
  refine O.op (.p rfl) (.mv rfl) ?_
  refine O.op (.p rfl) (.mv rfl) ?_
  refine O.op (.p rfl) (.len rfl Go.Proofs.Tryz.underlying42 rfl) ?_
  refine O.op (.p rfl) (.lss rfl rfl) ?_
  refine O.nil ?_
  first | refine S.condD rfl (fun h19 => ?_) (fun h19 => ?_) | refine S.condB rfl (fun h19 => ?_) (fun h19 => ?_)
  · exact absurd (by assumption) (by simp)
  refine S.exit rfl ?_
  refine S.seq (S.region rfl ?_)
  refine O.op (.p rfl) (.mv rfl) ?_
  refine O.op (.p rfl) (.len rfl Go.Proofs.Tryz.underlying42 rfl) ?_
  refine O.opE (.p rfl) (.makeP (T := Rp.val) (.slice none 0 0) (m := 0) Go.Proofs.Tryz.underlying42 FactKit4.elem37 (by decide) ⟨rfl, rfl⟩ rfl rfl rfl rfl (by decide) (by decide)) ?_
  rintro _ _ ⟨a42, c42, rfl, rfl⟩
  refine O.op (.p rfl) (.as rfl) ?_
  refine O.nil ?_
  refine S.seq (S.seq (S.region rfl ?_))
  refine O.op (.p rfl) (.as rfl) ?_
  refine O.nil ?_
  refine S.block ?_
  refine S.unroll ?_
  refine S.seq (S.seq (S.region rfl ?_))
  refine O.op (.p rfl) (.mv rfl) ?_
  refine O.op (.p rfl) (.mv rfl) ?_
  refine O.op (.p rfl) (.len rfl Go.Proofs.Tryz.underlying42 rfl) ?_
  refine O.op (.p rfl) (.lss rfl rfl) ?_
  refine O.nil ?_
  first | refine S.condD rfl (fun h46 => ?_) (fun h46 => ?_) | refine S.condB rfl (fun h46 => ?_) (fun h46 => ?_)
  · exact absurd (by assumption) (by simp)
  refine S.exit rfl ?_
  refine S.seq (S.seq (S.region rfl ?_))
  refine O.op (.p rfl) (.as rfl) ?_
  refine O.nil ?_
  refine S.block ?_
  refine S.unroll ?_
  refine S.seq (S.seq (S.region rfl ?_))
  refine O.op (.p rfl) (.mv rfl) ?_
  refine O.op (.p rfl) (.mv rfl) ?_
  refine O.op (.p rfl) (.len rfl Go.Proofs.Tryz.underlying42 rfl) ?_
  refine O.op (.p rfl) (.lss rfl rfl) ?_
  refine O.nil ?_
  first | refine S.condD rfl (fun h76 => ?_) (fun h76 => ?_) | refine S.condB rfl (fun h76 => ?_) (fun h76 => ?_)
  · exact absurd (by assumption) (by simp)
  refine S.exit rfl ?_
  refine S.seq (S.seq (S.region rfl ?_))
  refine O.op (.p rfl) (.as rfl) ?_
  refine O.nil ?_
  refine S.block ?_
  refine S.unroll ?_
  refine S.seq (S.seq (S.region rfl ?_))
  refine O.op (.p rfl) (.mv rfl) ?_
  refine O.op (.p rfl) (.mv rfl) ?_
  refine O.op (.p rfl) (.len rfl Go.Proofs.Tryz.underlying42 rfl) ?_
  refine O.op (.p rfl) (.lss rfl rfl) ?_
  refine O.nil ?_
  first | refine S.condD rfl (fun h126 => ?_) (fun h126 => ?_) | refine S.condB rfl (fun h126 => ?_) (fun h126 => ?_)
  · exact absurd (by assumption) (by simp)
  refine S.exit rfl ?_
  refine S.seq (S.seq (S.region rfl ?_))
  refine O.op (.p rfl) (.as rfl) ?_
  refine O.nil ?_
  refine S.block ?_
  refine S.unroll ?_
  refine S.seq (S.seq (S.region rfl ?_))
  refine O.op (.p rfl) (.mv rfl) ?_
  refine O.op (.p rfl) (.mv rfl) ?_
  refine O.op (.p rfl) (.len rfl Go.Proofs.Tryz.underlying42 rfl) ?_
  refine O.op (.p rfl) (.lss rfl rfl) ?_
  refine O.nil ?_
  first | refine S.condD rfl (fun h155 => ?_) (fun h155 => ?_) | refine S.condB rfl (fun h155 => ?_) (fun h155 => ?_)
  · exact absurd (by assumption) (by simp)
  refine S.exit rfl ?_
  refine S.seq (S.region rfl ?_)
  refine O.op (.p rfl) (.as rfl) ?_
  refine O.nil ?_
  refine S.ret Go.Proofs.Tryz.results52 rfl fun w hw => Holds.end_ hR hw ?_
  exact ⟨_, ⟨rfl, rfl⟩, by repeat (first | exact Picks.all | exact Picks.nil | (apply Picks.cons; focus (repeat (first | exact Sel.here | apply Sel.there))) | apply Picks.skip)⟩
theorem flatHeldRow_0 {r : Fr} : Con Go.Proofs.Tryz.prog 53 #[.slice none 0 0] r [] (Ret fun v η => v = .bool true ∧ η = []) := by
  refine Con.of (n := 193) [.slice none 0 0] rfl Go.Proofs.Tryz.func53 rfl rfl rfl fun g hg R hR => ?_
  refine S.seq (S.region rfl ?_)
  refine O.op (.p rfl) (.as rfl) ?_
  refine O.nil ?_
  refine S.seq (S.seq (S.region rfl ?_))
  refine O.op (.p rfl) (.as rfl) ?_
  refine O.nil ?_
  refine S.block ?_
  refine S.unroll ?_
  refine S.seq (S.seq (S.region rfl ?_))
  refine O.op (.p rfl) (.mv rfl) ?_
  refine O.op (.p rfl) (.mv rfl) ?_
  refine O.op (.p rfl) (.len rfl Go.Proofs.Tryz.underlying66 rfl) ?_
  refine O.op (.p rfl) (.lss rfl rfl) ?_
  refine O.nil ?_
  first | refine S.condD rfl (fun h19 => ?_) (fun h19 => ?_) | refine S.condB rfl (fun h19 => ?_) (fun h19 => ?_)
  · exact absurd (by assumption) (by simp)
  refine S.exit rfl ?_
  refine S.seq (S.region rfl ?_)
  refine O.op (.p rfl) (.mv rfl) ?_
  refine O.op (.p rfl) (.len rfl Go.Proofs.Tryz.underlying66 rfl) ?_
  refine O.opE (.p rfl) (.makeP (T := Rp.val) (.slice none 0 0) (m := 0) Go.Proofs.Tryz.underlying66 FactKit4.elem178 (by decide) ⟨rfl, rfl⟩ rfl rfl rfl rfl (by decide) (by decide)) ?_
  rintro _ _ ⟨a42, c42, rfl, rfl⟩
  refine O.op (.p rfl) (.as rfl) ?_
  refine O.nil ?_
  refine S.seq (S.seq (S.region rfl ?_))
  refine O.op (.p rfl) (.as rfl) ?_
  refine O.nil ?_
  refine S.block ?_
  refine S.unroll ?_
  refine S.seq (S.seq (S.region rfl ?_))
  refine O.op (.p rfl) (.mv rfl) ?_
  refine O.op (.p rfl) (.mv rfl) ?_
  refine O.op (.p rfl) (.len rfl Go.Proofs.Tryz.underlying66 rfl) ?_
  refine O.op (.p rfl) (.lss rfl rfl) ?_
  refine O.nil ?_
  first | refine S.condD rfl (fun h46 => ?_) (fun h46 => ?_) | refine S.condB rfl (fun h46 => ?_) (fun h46 => ?_)
  · exact absurd (by assumption) (by simp)
  refine S.exit rfl ?_
  refine S.seq (S.seq (S.region rfl ?_))
  refine O.op (.p rfl) (.as rfl) ?_
  refine O.nil ?_
  refine S.block ?_
  refine S.unroll ?_
  refine S.seq (S.seq (S.region rfl ?_))
  refine O.op (.p rfl) (.mv rfl) ?_
  refine O.op (.p rfl) (.mv rfl) ?_
  refine O.op (.p rfl) (.len rfl Go.Proofs.Tryz.underlying66 rfl) ?_
  refine O.op (.p rfl) (.lss rfl rfl) ?_
  refine O.nil ?_
  first | refine S.condD rfl (fun h76 => ?_) (fun h76 => ?_) | refine S.condB rfl (fun h76 => ?_) (fun h76 => ?_)
  · exact absurd (by assumption) (by simp)
  refine S.exit rfl ?_
  refine S.seq (S.seq (S.region rfl ?_))
  refine O.op (.p rfl) (.as rfl) ?_
  refine O.nil ?_
  refine S.block ?_
  refine S.unroll ?_
  refine S.seq (S.seq (S.region rfl ?_))
  refine O.op (.p rfl) (.mv rfl) ?_
  refine O.op (.p rfl) (.mv rfl) ?_
  refine O.op (.p rfl) (.len rfl Go.Proofs.Tryz.underlying66 rfl) ?_
  refine O.op (.p rfl) (.lss rfl rfl) ?_
  refine O.nil ?_
  first | refine S.condD rfl (fun h126 => ?_) (fun h126 => ?_) | refine S.condB rfl (fun h126 => ?_) (fun h126 => ?_)
  · exact absurd (by assumption) (by simp)
  refine S.exit rfl ?_
  refine S.seq (S.seq (S.region rfl ?_))
  refine O.op (.p rfl) (.as rfl) ?_
  refine O.nil ?_
  refine S.block ?_
  refine S.unroll ?_
  refine S.seq (S.seq (S.region rfl ?_))
  refine O.op (.p rfl) (.mv rfl) ?_
  refine O.op (.p rfl) (.mv rfl) ?_
  refine O.op (.p rfl) (.len rfl Go.Proofs.Tryz.underlying66 rfl) ?_
  refine O.op (.p rfl) (.lss rfl rfl) ?_
  refine O.nil ?_
  first | refine S.condD rfl (fun h155 => ?_) (fun h155 => ?_) | refine S.condB rfl (fun h155 => ?_) (fun h155 => ?_)
  · exact absurd (by assumption) (by simp)
  refine S.exit rfl ?_
  refine S.seq (S.region rfl ?_)
  refine O.op (.p rfl) (.as rfl) ?_
  refine O.nil ?_
  refine S.ret Go.Proofs.Tryz.results53 rfl fun w hw => Holds.end_ hR hw ?_
  exact ⟨_, ⟨rfl, rfl⟩, by repeat (first | exact Picks.all | exact Picks.nil | (apply Picks.cons; focus (repeat (first | exact Sel.here | apply Sel.there))) | apply Picks.skip)⟩
theorem flatConfigs_0 {r : Fr} : Con Go.Proofs.Tryz.prog 54 #[.slice none 0 0] r [] (Ret fun v η => v = .bool true ∧ η = []) := by
  refine Con.of (n := 193) [.slice none 0 0] rfl Go.Proofs.Tryz.func54 rfl rfl rfl fun g hg R hR => ?_
  refine S.seq (S.region rfl ?_)
  refine O.op (.p rfl) (.as rfl) ?_
  refine O.nil ?_
  refine S.seq (S.seq (S.region rfl ?_))
  refine O.op (.p rfl) (.as rfl) ?_
  refine O.nil ?_
  refine S.block ?_
  refine S.unroll ?_
  refine S.seq (S.seq (S.region rfl ?_))
  refine O.op (.p rfl) (.mv rfl) ?_
  refine O.op (.p rfl) (.mv rfl) ?_
  refine O.op (.p rfl) (.len rfl Go.Proofs.Tryz.underlying67 rfl) ?_
  refine O.op (.p rfl) (.lss rfl rfl) ?_
  refine O.nil ?_
  first | refine S.condD rfl (fun h19 => ?_) (fun h19 => ?_) | refine S.condB rfl (fun h19 => ?_) (fun h19 => ?_)
  · exact absurd (by assumption) (by simp)
  refine S.exit rfl ?_
  refine S.seq (S.region rfl ?_)
  refine O.op (.p rfl) (.mv rfl) ?_
  refine O.op (.p rfl) (.len rfl Go.Proofs.Tryz.underlying67 rfl) ?_
  refine O.opE (.p rfl) (.makeP (T := Rp.val) (.slice none 0 0) (m := 0) Go.Proofs.Tryz.underlying67 FactKit4.elem183 (by decide) ⟨rfl, rfl⟩ rfl rfl rfl rfl (by decide) (by decide)) ?_
  rintro _ _ ⟨a42, c42, rfl, rfl⟩
  refine O.op (.p rfl) (.as rfl) ?_
  refine O.nil ?_
  refine S.seq (S.seq (S.region rfl ?_))
  refine O.op (.p rfl) (.as rfl) ?_
  refine O.nil ?_
  refine S.block ?_
  refine S.unroll ?_
  refine S.seq (S.seq (S.region rfl ?_))
  refine O.op (.p rfl) (.mv rfl) ?_
  refine O.op (.p rfl) (.mv rfl) ?_
  refine O.op (.p rfl) (.len rfl Go.Proofs.Tryz.underlying67 rfl) ?_
  refine O.op (.p rfl) (.lss rfl rfl) ?_
  refine O.nil ?_
  first | refine S.condD rfl (fun h46 => ?_) (fun h46 => ?_) | refine S.condB rfl (fun h46 => ?_) (fun h46 => ?_)
  · exact absurd (by assumption) (by simp)
  refine S.exit rfl ?_
  refine S.seq (S.seq (S.region rfl ?_))
  refine O.op (.p rfl) (.as rfl) ?_
  refine O.nil ?_
  refine S.block ?_
  refine S.unroll ?_
  refine S.seq (S.seq (S.region rfl ?_))
  refine O.op (.p rfl) (.mv rfl) ?_
  refine O.op (.p rfl) (.mv rfl) ?_
  refine O.op (.p rfl) (.len rfl Go.Proofs.Tryz.underlying67 rfl) ?_
  refine O.op (.p rfl) (.lss rfl rfl) ?_
  refine O.nil ?_
  first | refine S.condD rfl (fun h76 => ?_) (fun h76 => ?_) | refine S.condB rfl (fun h76 => ?_) (fun h76 => ?_)
  · exact absurd (by assumption) (by simp)
  refine S.exit rfl ?_
  refine S.seq (S.seq (S.region rfl ?_))
  refine O.op (.p rfl) (.as rfl) ?_
  refine O.nil ?_
  refine S.block ?_
  refine S.unroll ?_
  refine S.seq (S.seq (S.region rfl ?_))
  refine O.op (.p rfl) (.mv rfl) ?_
  refine O.op (.p rfl) (.mv rfl) ?_
  refine O.op (.p rfl) (.len rfl Go.Proofs.Tryz.underlying67 rfl) ?_
  refine O.op (.p rfl) (.lss rfl rfl) ?_
  refine O.nil ?_
  first | refine S.condD rfl (fun h126 => ?_) (fun h126 => ?_) | refine S.condB rfl (fun h126 => ?_) (fun h126 => ?_)
  · exact absurd (by assumption) (by simp)
  refine S.exit rfl ?_
  refine S.seq (S.seq (S.region rfl ?_))
  refine O.op (.p rfl) (.as rfl) ?_
  refine O.nil ?_
  refine S.block ?_
  refine S.unroll ?_
  refine S.seq (S.seq (S.region rfl ?_))
  refine O.op (.p rfl) (.mv rfl) ?_
  refine O.op (.p rfl) (.mv rfl) ?_
  refine O.op (.p rfl) (.len rfl Go.Proofs.Tryz.underlying67 rfl) ?_
  refine O.op (.p rfl) (.lss rfl rfl) ?_
  refine O.nil ?_
  first | refine S.condD rfl (fun h155 => ?_) (fun h155 => ?_) | refine S.condB rfl (fun h155 => ?_) (fun h155 => ?_)
  · exact absurd (by assumption) (by simp)
  refine S.exit rfl ?_
  refine S.seq (S.region rfl ?_)
  refine O.op (.p rfl) (.as rfl) ?_
  refine O.nil ?_
  refine S.ret Go.Proofs.Tryz.results54 rfl fun w hw => Holds.end_ hR hw ?_
  exact ⟨_, ⟨rfl, rfl⟩, by repeat (first | exact Picks.all | exact Picks.nil | (apply Picks.cons; focus (repeat (first | exact Sel.here | apply Sel.there))) | apply Picks.skip)⟩
theorem flatSteps_0 {r : Fr} : Con Go.Proofs.Tryz.prog 55 #[.slice none 0 0] r [] (Ret fun v η => v = .bool true ∧ η = []) := by
  refine Con.of (n := 193) [.slice none 0 0] rfl Go.Proofs.Tryz.func55 rfl rfl rfl fun g hg R hR => ?_
  refine S.seq (S.region rfl ?_)
  refine O.op (.p rfl) (.as rfl) ?_
  refine O.nil ?_
  refine S.seq (S.seq (S.region rfl ?_))
  refine O.op (.p rfl) (.as rfl) ?_
  refine O.nil ?_
  refine S.block ?_
  refine S.unroll ?_
  refine S.seq (S.seq (S.region rfl ?_))
  refine O.op (.p rfl) (.mv rfl) ?_
  refine O.op (.p rfl) (.mv rfl) ?_
  refine O.op (.p rfl) (.len rfl Go.Proofs.Tryz.underlying68 rfl) ?_
  refine O.op (.p rfl) (.lss rfl rfl) ?_
  refine O.nil ?_
  first | refine S.condD rfl (fun h19 => ?_) (fun h19 => ?_) | refine S.condB rfl (fun h19 => ?_) (fun h19 => ?_)
  · exact absurd (by assumption) (by simp)
  refine S.exit rfl ?_
  refine S.seq (S.region rfl ?_)
  refine O.op (.p rfl) (.mv rfl) ?_
  refine O.op (.p rfl) (.len rfl Go.Proofs.Tryz.underlying68 rfl) ?_
  refine O.opE (.p rfl) (.makeP (T := Rp.val) (.slice none 0 0) (m := 0) Go.Proofs.Tryz.underlying68 FactKit4.elem188 (by decide) ⟨rfl, rfl⟩ rfl rfl rfl rfl (by decide) (by decide)) ?_
  rintro _ _ ⟨a42, c42, rfl, rfl⟩
  refine O.op (.p rfl) (.as rfl) ?_
  refine O.nil ?_
  refine S.seq (S.seq (S.region rfl ?_))
  refine O.op (.p rfl) (.as rfl) ?_
  refine O.nil ?_
  refine S.block ?_
  refine S.unroll ?_
  refine S.seq (S.seq (S.region rfl ?_))
  refine O.op (.p rfl) (.mv rfl) ?_
  refine O.op (.p rfl) (.mv rfl) ?_
  refine O.op (.p rfl) (.len rfl Go.Proofs.Tryz.underlying68 rfl) ?_
  refine O.op (.p rfl) (.lss rfl rfl) ?_
  refine O.nil ?_
  first | refine S.condD rfl (fun h46 => ?_) (fun h46 => ?_) | refine S.condB rfl (fun h46 => ?_) (fun h46 => ?_)
  · exact absurd (by assumption) (by simp)
  refine S.exit rfl ?_
  refine S.seq (S.seq (S.region rfl ?_))
  refine O.op (.p rfl) (.as rfl) ?_
  refine O.nil ?_
  refine S.block ?_
  refine S.unroll ?_
  refine S.seq (S.seq (S.region rfl ?_))
  refine O.op (.p rfl) (.mv rfl) ?_
  refine O.op (.p rfl) (.mv rfl) ?_
  refine O.op (.p rfl) (.len rfl Go.Proofs.Tryz.underlying68 rfl) ?_
  refine O.op (.p rfl) (.lss rfl rfl) ?_
  refine O.nil ?_
  first | refine S.condD rfl (fun h76 => ?_) (fun h76 => ?_) | refine S.condB rfl (fun h76 => ?_) (fun h76 => ?_)
  · exact absurd (by assumption) (by simp)
  refine S.exit rfl ?_
  refine S.seq (S.seq (S.region rfl ?_))
  refine O.op (.p rfl) (.as rfl) ?_
  refine O.nil ?_
  refine S.block ?_
  refine S.unroll ?_
  refine S.seq (S.seq (S.region rfl ?_))
  refine O.op (.p rfl) (.mv rfl) ?_
  refine O.op (.p rfl) (.mv rfl) ?_
  refine O.op (.p rfl) (.len rfl Go.Proofs.Tryz.underlying68 rfl) ?_
  refine O.op (.p rfl) (.lss rfl rfl) ?_
  refine O.nil ?_
  first | refine S.condD rfl (fun h126 => ?_) (fun h126 => ?_) | refine S.condB rfl (fun h126 => ?_) (fun h126 => ?_)
  · exact absurd (by assumption) (by simp)
  refine S.exit rfl ?_
  refine S.seq (S.seq (S.region rfl ?_))
  refine O.op (.p rfl) (.as rfl) ?_
  refine O.nil ?_
  refine S.block ?_
  refine S.unroll ?_
  refine S.seq (S.seq (S.region rfl ?_))
  refine O.op (.p rfl) (.mv rfl) ?_
  refine O.op (.p rfl) (.mv rfl) ?_
  refine O.op (.p rfl) (.len rfl Go.Proofs.Tryz.underlying68 rfl) ?_
  refine O.op (.p rfl) (.lss rfl rfl) ?_
  refine O.nil ?_
  first | refine S.condD rfl (fun h155 => ?_) (fun h155 => ?_) | refine S.condB rfl (fun h155 => ?_) (fun h155 => ?_)
  · exact absurd (by assumption) (by simp)
  refine S.exit rfl ?_
  refine S.seq (S.region rfl ?_)
  refine O.op (.p rfl) (.as rfl) ?_
  refine O.nil ?_
  refine S.ret Go.Proofs.Tryz.results55 rfl fun w hw => Holds.end_ hR hw ?_
  exact ⟨_, ⟨rfl, rfl⟩, by repeat (first | exact Picks.all | exact Picks.nil | (apply Picks.cons; focus (repeat (first | exact Sel.here | apply Sel.there))) | apply Picks.skip)⟩
theorem flatTales_0 {r : Fr} : Con Go.Proofs.Tryz.prog 56 #[.slice none 0 0] r [] (Ret fun v η => v = .bool true ∧ η = []) := by
  refine Con.of (n := 193) [.slice none 0 0] rfl Go.Proofs.Tryz.func56 rfl rfl rfl fun g hg R hR => ?_
  refine S.seq (S.region rfl ?_)
  refine O.op (.p rfl) (.as rfl) ?_
  refine O.nil ?_
  refine S.seq (S.seq (S.region rfl ?_))
  refine O.op (.p rfl) (.as rfl) ?_
  refine O.nil ?_
  refine S.block ?_
  refine S.unroll ?_
  refine S.seq (S.seq (S.region rfl ?_))
  refine O.op (.p rfl) (.mv rfl) ?_
  refine O.op (.p rfl) (.mv rfl) ?_
  refine O.op (.p rfl) (.len rfl Go.Proofs.Tryz.underlying69 rfl) ?_
  refine O.op (.p rfl) (.lss rfl rfl) ?_
  refine O.nil ?_
  first | refine S.condD rfl (fun h19 => ?_) (fun h19 => ?_) | refine S.condB rfl (fun h19 => ?_) (fun h19 => ?_)
  · exact absurd (by assumption) (by simp)
  refine S.exit rfl ?_
  refine S.seq (S.region rfl ?_)
  refine O.op (.p rfl) (.mv rfl) ?_
  refine O.op (.p rfl) (.len rfl Go.Proofs.Tryz.underlying69 rfl) ?_
  refine O.opE (.p rfl) (.makeP (T := Rp.val) (.slice none 0 0) (m := 0) Go.Proofs.Tryz.underlying69 FactKit4.elem194 (by decide) ⟨rfl, rfl⟩ rfl rfl rfl rfl (by decide) (by decide)) ?_
  rintro _ _ ⟨a42, c42, rfl, rfl⟩
  refine O.op (.p rfl) (.as rfl) ?_
  refine O.nil ?_
  refine S.seq (S.seq (S.region rfl ?_))
  refine O.op (.p rfl) (.as rfl) ?_
  refine O.nil ?_
  refine S.block ?_
  refine S.unroll ?_
  refine S.seq (S.seq (S.region rfl ?_))
  refine O.op (.p rfl) (.mv rfl) ?_
  refine O.op (.p rfl) (.mv rfl) ?_
  refine O.op (.p rfl) (.len rfl Go.Proofs.Tryz.underlying69 rfl) ?_
  refine O.op (.p rfl) (.lss rfl rfl) ?_
  refine O.nil ?_
  first | refine S.condD rfl (fun h46 => ?_) (fun h46 => ?_) | refine S.condB rfl (fun h46 => ?_) (fun h46 => ?_)
  · exact absurd (by assumption) (by simp)
  refine S.exit rfl ?_
  refine S.seq (S.seq (S.region rfl ?_))
  refine O.op (.p rfl) (.as rfl) ?_
  refine O.nil ?_
  refine S.block ?_
  refine S.unroll ?_
  refine S.seq (S.seq (S.region rfl ?_))
  refine O.op (.p rfl) (.mv rfl) ?_
  refine O.op (.p rfl) (.mv rfl) ?_
  refine O.op (.p rfl) (.len rfl Go.Proofs.Tryz.underlying69 rfl) ?_
  refine O.op (.p rfl) (.lss rfl rfl) ?_
  refine O.nil ?_
  first | refine S.condD rfl (fun h76 => ?_) (fun h76 => ?_) | refine S.condB rfl (fun h76 => ?_) (fun h76 => ?_)
  · exact absurd (by assumption) (by simp)
  refine S.exit rfl ?_
  refine S.seq (S.seq (S.region rfl ?_))
  refine O.op (.p rfl) (.as rfl) ?_
  refine O.nil ?_
  refine S.block ?_
  refine S.unroll ?_
  refine S.seq (S.seq (S.region rfl ?_))
  refine O.op (.p rfl) (.mv rfl) ?_
  refine O.op (.p rfl) (.mv rfl) ?_
  refine O.op (.p rfl) (.len rfl Go.Proofs.Tryz.underlying69 rfl) ?_
  refine O.op (.p rfl) (.lss rfl rfl) ?_
  refine O.nil ?_
  first | refine S.condD rfl (fun h126 => ?_) (fun h126 => ?_) | refine S.condB rfl (fun h126 => ?_) (fun h126 => ?_)
  · exact absurd (by assumption) (by simp)
  refine S.exit rfl ?_
  refine S.seq (S.seq (S.region rfl ?_))
  refine O.op (.p rfl) (.as rfl) ?_
  refine O.nil ?_
  refine S.block ?_
  refine S.unroll ?_
  refine S.seq (S.seq (S.region rfl ?_))
  refine O.op (.p rfl) (.mv rfl) ?_
  refine O.op (.p rfl) (.mv rfl) ?_
  refine O.op (.p rfl) (.len rfl Go.Proofs.Tryz.underlying69 rfl) ?_
  refine O.op (.p rfl) (.lss rfl rfl) ?_
  refine O.nil ?_
  first | refine S.condD rfl (fun h155 => ?_) (fun h155 => ?_) | refine S.condB rfl (fun h155 => ?_) (fun h155 => ?_)
  · exact absurd (by assumption) (by simp)
  refine S.exit rfl ?_
  refine S.seq (S.region rfl ?_)
  refine O.op (.p rfl) (.as rfl) ?_
  refine O.nil ?_
  refine S.ret Go.Proofs.Tryz.results56 rfl fun w hw => Holds.end_ hR hw ?_
  exact ⟨_, ⟨rfl, rfl⟩, by repeat (first | exact Picks.all | exact Picks.nil | (apply Picks.cons; focus (repeat (first | exact Sel.here | apply Sel.there))) | apply Picks.skip)⟩

end Go.Proofs.YtcghiboamlaenaaGreat
