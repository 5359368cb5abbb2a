/- Texts of this proof. -/
import Derived.Test.YtodhbhanmdfdeaaGreatQGet6
open Go Go.Sp Go.Proofs.Tryz
set_option maxRecDepth 100000
set_option maxHeartbeats 1000000
attribute [local irreducible] obj Own OwnP
namespace Go.Proofs.YtodhbhanmdfdeaaGreat
theorem flatLimbs_0 {r:Fr}:Con prog 162 #[.slice none 0 0] r [] (Ret fun v η=>v=.bool true∧η=[]):=by
 refine Con.of (n:=200) _ rfl func162 rfl rfl rfl fun g hg R hR=>?_;refine S.seq<|S.region rfl<|O.q 1 rfl<|O.nil<|S.seq<|S.seq<|S.region rfl<|O.q 1 rfl<|O.nil<|S.block<|S.unroll<|S.seq<|S.seq<|S.region rfl<|O.q 2 rfl<|O.op (.p rfl) (.len rfl underlying100 rfl)<|O.op (.p rfl) (.lss rfl rfl)<|O.nil ?_
 first|refine S.condD rfl (fun h19=>?_) (fun h19=>?_)|refine S.condB rfl (fun h19=>?_) (fun h19=>?_)
 ·exact absurd zC zG
 refine S.exit rfl<|S.seq<|S.region rfl<|O.q 1 rfl<|O.op (.p rfl) (.len rfl underlying100 rfl)<|O.opE (.p rfl) (.makeP (T:=Rp.val) (.slice none 0 0) (m:=0) underlying100 elem260 zF ⟨rfl,rfl⟩ rfl rfl rfl rfl zF zF) ?_;rintro _ _ ⟨a43,c43,rfl,rfl⟩;refine O.q 1 rfl<|O.nil<|S.seq<|S.seq<|S.region rfl<|O.q 1 rfl<|O.nil<|S.block<|S.unroll<|S.seq<|S.seq<|S.region rfl<|O.q 2 rfl<|O.op (.p rfl) (.len rfl underlying100 rfl)<|O.op (.p rfl) (.lss rfl rfl)<|O.nil ?_
 first|refine S.condD rfl (fun h47=>?_) (fun h47=>?_)|refine S.condB rfl (fun h47=>?_) (fun h47=>?_)
 ·exact absurd zC zG
 refine S.exit rfl<|S.seq<|S.seq<|S.region rfl<|O.q 1 rfl<|O.nil<|S.block<|S.unroll<|S.seq<|S.seq<|S.region rfl<|O.q 2 rfl<|O.op (.p rfl) (.len rfl underlying100 rfl)<|O.op (.p rfl) (.lss rfl rfl)<|O.nil ?_
 first|refine S.condD rfl (fun h78=>?_) (fun h78=>?_)|refine S.condB rfl (fun h78=>?_) (fun h78=>?_)
 ·exact absurd zC zG
 refine S.exit rfl<|S.seq<|S.seq<|S.region rfl<|O.q 1 rfl<|O.nil<|S.block<|S.unroll<|S.seq<|S.seq<|S.region rfl<|O.q 2 rfl<|O.op (.p rfl) (.len rfl underlying100 rfl)<|O.op (.p rfl) (.lss rfl rfl)<|O.nil ?_
 first|refine S.condD rfl (fun h130=>?_) (fun h130=>?_)|refine S.condB rfl (fun h130=>?_) (fun h130=>?_)
 ·exact absurd zC zG
 refine S.exit rfl<|S.seq<|S.seq<|S.region rfl<|O.q 1 rfl<|O.nil<|S.block<|S.unroll<|S.seq<|S.seq<|S.region rfl<|O.q 2 rfl<|O.op (.p rfl) (.len rfl underlying100 rfl)<|O.op (.p rfl) (.lss rfl rfl)<|O.nil ?_
 first|refine S.condD rfl (fun h160=>?_) (fun h160=>?_)|refine S.condB rfl (fun h160=>?_) (fun h160=>?_)
 ·exact absurd zC zG
 refine S.exit rfl<|S.seq<|S.region rfl<|O.q 1 rfl<|O.nil ?_;exact S.rt results162 rfl hR ⟨rfl,rfl⟩
theorem flatWords_0 {r:Fr}:Con prog 163 #[.slice none 0 0] r [] (Ret fun v η=>v=.bool true∧η=[]):=by
 refine Con.of (n:=200) _ rfl func163 rfl rfl rfl fun g hg R hR=>?_;refine S.seq<|S.region rfl<|O.q 1 rfl<|O.nil<|S.seq<|S.seq<|S.region rfl<|O.q 1 rfl<|O.nil<|S.block<|S.unroll<|S.seq<|S.seq<|S.region rfl<|O.q 2 rfl<|O.op (.p rfl) (.len rfl underlying101 rfl)<|O.op (.p rfl) (.lss rfl rfl)<|O.nil ?_
 first|refine S.condD rfl (fun h19=>?_) (fun h19=>?_)|refine S.condB rfl (fun h19=>?_) (fun h19=>?_)
 ·exact absurd zC zG
 refine S.exit rfl<|S.seq<|S.region rfl<|O.q 1 rfl<|O.op (.p rfl) (.len rfl underlying101 rfl)<|O.opE (.p rfl) (.makeP (T:=Rp.val) (.slice none 0 0) (m:=0) underlying101 elem262 zF ⟨rfl,rfl⟩ rfl rfl rfl rfl zF zF) ?_;rintro _ _ ⟨a43,c43,rfl,rfl⟩;refine O.q 1 rfl<|O.nil<|S.seq<|S.seq<|S.region rfl<|O.q 1 rfl<|O.nil<|S.block<|S.unroll<|S.seq<|S.seq<|S.region rfl<|O.q 2 rfl<|O.op (.p rfl) (.len rfl underlying101 rfl)<|O.op (.p rfl) (.lss rfl rfl)<|O.nil ?_
 first|refine S.condD rfl (fun h47=>?_) (fun h47=>?_)|refine S.condB rfl (fun h47=>?_) (fun h47=>?_)
 ·exact absurd zC zG
 refine S.exit rfl<|S.seq<|S.seq<|S.region rfl<|O.q 1 rfl<|O.nil<|S.block<|S.unroll<|S.seq<|S.seq<|S.region rfl<|O.q 2 rfl<|O.op (.p rfl) (.len rfl underlying101 rfl)<|O.op (.p rfl) (.lss rfl rfl)<|O.nil ?_
 first|refine S.condD rfl (fun h78=>?_) (fun h78=>?_)|refine S.condB rfl (fun h78=>?_) (fun h78=>?_)
 ·exact absurd zC zG
 refine S.exit rfl<|S.seq<|S.seq<|S.region rfl<|O.q 1 rfl<|O.nil<|S.block<|S.unroll<|S.seq<|S.seq<|S.region rfl<|O.q 2 rfl<|O.op (.p rfl) (.len rfl underlying101 rfl)<|O.op (.p rfl) (.lss rfl rfl)<|O.nil ?_
 first|refine S.condD rfl (fun h130=>?_) (fun h130=>?_)|refine S.condB rfl (fun h130=>?_) (fun h130=>?_)
 ·exact absurd zC zG
 refine S.exit rfl<|S.seq<|S.seq<|S.region rfl<|O.q 1 rfl<|O.nil<|S.block<|S.unroll<|S.seq<|S.seq<|S.region rfl<|O.q 2 rfl<|O.op (.p rfl) (.len rfl underlying101 rfl)<|O.op (.p rfl) (.lss rfl rfl)<|O.nil ?_
 first|refine S.condD rfl (fun h160=>?_) (fun h160=>?_)|refine S.condB rfl (fun h160=>?_) (fun h160=>?_)
 ·exact absurd zC zG
 refine S.exit rfl<|S.seq<|S.region rfl<|O.q 1 rfl<|O.nil ?_;exact S.rt results163 rfl hR ⟨rfl,rfl⟩
theorem flatInts_0 {r:Fr}:Con prog 164 #[.slice none 0 0] r [] (Ret fun v η=>v=.bool true∧η=[]):=by
 refine Con.of (n:=193) _ rfl func164 rfl rfl rfl fun g hg R hR=>?_;refine S.seq<|S.region rfl<|O.q 1 rfl<|O.nil<|S.seq<|S.seq<|S.region rfl<|O.q 1 rfl<|O.nil<|S.block<|S.unroll<|S.seq<|S.seq<|S.region rfl<|O.q 2 rfl<|O.op (.p rfl) (.len rfl underlying102 rfl)<|O.op (.p rfl) (.lss rfl rfl)<|O.nil ?_
 first|refine S.condD rfl (fun h19=>?_) (fun h19=>?_)|refine S.condB rfl (fun h19=>?_) (fun h19=>?_)
 ·exact absurd zC zG
 refine S.exit rfl<|S.seq<|S.region rfl<|O.q 1 rfl<|O.op (.p rfl) (.len rfl underlying102 rfl)<|O.opE (.p rfl) (.makeP (T:=Rp.val) (.slice none 0 0) (m:=0) underlying102 elem25 zF ⟨rfl,rfl⟩ rfl rfl rfl rfl zF zF) ?_;rintro _ _ ⟨a42,c42,rfl,rfl⟩;refine O.q 1 rfl<|O.nil<|S.seq<|S.seq<|S.region rfl<|O.q 1 rfl<|O.nil<|S.block<|S.unroll<|S.seq<|S.seq<|S.region rfl<|O.q 2 rfl<|O.op (.p rfl) (.len rfl underlying102 rfl)<|O.op (.p rfl) (.lss rfl rfl)<|O.nil ?_
 first|refine S.condD rfl (fun h46=>?_) (fun h46=>?_)|refine S.condB rfl (fun h46=>?_) (fun h46=>?_)
 ·exact absurd zC zG
 refine S.exit rfl<|S.seq<|S.seq<|S.region rfl<|O.q 1 rfl<|O.nil<|S.block<|S.unroll<|S.seq<|S.seq<|S.region rfl<|O.q 2 rfl<|O.op (.p rfl) (.len rfl underlying102 rfl)<|O.op (.p rfl) (.lss rfl rfl)<|O.nil ?_
 first|refine S.condD rfl (fun h76=>?_) (fun h76=>?_)|refine S.condB rfl (fun h76=>?_) (fun h76=>?_)
 ·exact absurd zC zG
 refine S.exit rfl<|S.seq<|S.seq<|S.region rfl<|O.q 1 rfl<|O.nil<|S.block<|S.unroll<|S.seq<|S.seq<|S.region rfl<|O.q 2 rfl<|O.op (.p rfl) (.len rfl underlying102 rfl)<|O.op (.p rfl) (.lss rfl rfl)<|O.nil ?_
 first|refine S.condD rfl (fun h126=>?_) (fun h126=>?_)|refine S.condB rfl (fun h126=>?_) (fun h126=>?_)
 ·exact absurd zC zG
 refine S.exit rfl<|S.seq<|S.seq<|S.region rfl<|O.q 1 rfl<|O.nil<|S.block<|S.unroll<|S.seq<|S.seq<|S.region rfl<|O.q 2 rfl<|O.op (.p rfl) (.len rfl underlying102 rfl)<|O.op (.p rfl) (.lss rfl rfl)<|O.nil ?_
 first|refine S.condD rfl (fun h155=>?_) (fun h155=>?_)|refine S.condB rfl (fun h155=>?_) (fun h155=>?_)
 ·exact absurd zC zG
 refine S.exit rfl<|S.seq<|S.region rfl<|O.q 1 rfl<|O.nil ?_;exact S.rt results164 rfl hR ⟨rfl,rfl⟩
theorem flatLongs_0 {r:Fr}:Con prog 165 #[.slice none 0 0] r [] (Ret fun v η=>v=.bool true∧η=[]):=by
 refine Con.of (n:=193) _ rfl func165 rfl rfl rfl fun g hg R hR=>?_;refine S.seq<|S.region rfl<|O.q 1 rfl<|O.nil<|S.seq<|S.seq<|S.region rfl<|O.q 1 rfl<|O.nil<|S.block<|S.unroll<|S.seq<|S.seq<|S.region rfl<|O.q 2 rfl<|O.op (.p rfl) (.len rfl underlying103 rfl)<|O.op (.p rfl) (.lss rfl rfl)<|O.nil ?_
 first|refine S.condD rfl (fun h19=>?_) (fun h19=>?_)|refine S.condB rfl (fun h19=>?_) (fun h19=>?_)
 ·exact absurd zC zG
 refine S.exit rfl<|S.seq<|S.region rfl<|O.q 1 rfl<|O.op (.p rfl) (.len rfl underlying103 rfl)<|O.opE (.p rfl) (.makeP (T:=Rp.val) (.slice none 0 0) (m:=0) underlying103 elem263 zF ⟨rfl,rfl⟩ rfl rfl rfl rfl zF zF) ?_;rintro _ _ ⟨a42,c42,rfl,rfl⟩;refine O.q 1 rfl<|O.nil<|S.seq<|S.seq<|S.region rfl<|O.q 1 rfl<|O.nil<|S.block<|S.unroll<|S.seq<|S.seq<|S.region rfl<|O.q 2 rfl<|O.op (.p rfl) (.len rfl underlying103 rfl)<|O.op (.p rfl) (.lss rfl rfl)<|O.nil ?_
 first|refine S.condD rfl (fun h46=>?_) (fun h46=>?_)|refine S.condB rfl (fun h46=>?_) (fun h46=>?_)
 ·exact absurd zC zG
 refine S.exit rfl<|S.seq<|S.seq<|S.region rfl<|O.q 1 rfl<|O.nil<|S.block<|S.unroll<|S.seq<|S.seq<|S.region rfl<|O.q 2 rfl<|O.op (.p rfl) (.len rfl underlying103 rfl)<|O.op (.p rfl) (.lss rfl rfl)<|O.nil ?_
 first|refine S.condD rfl (fun h76=>?_) (fun h76=>?_)|refine S.condB rfl (fun h76=>?_) (fun h76=>?_)
 ·exact absurd zC zG
 refine S.exit rfl<|S.seq<|S.seq<|S.region rfl<|O.q 1 rfl<|O.nil<|S.block<|S.unroll<|S.seq<|S.seq<|S.region rfl<|O.q 2 rfl<|O.op (.p rfl) (.len rfl underlying103 rfl)<|O.op (.p rfl) (.lss rfl rfl)<|O.nil ?_
 first|refine S.condD rfl (fun h126=>?_) (fun h126=>?_)|refine S.condB rfl (fun h126=>?_) (fun h126=>?_)
 ·exact absurd zC zG
 refine S.exit rfl<|S.seq<|S.seq<|S.region rfl<|O.q 1 rfl<|O.nil<|S.block<|S.unroll<|S.seq<|S.seq<|S.region rfl<|O.q 2 rfl<|O.op (.p rfl) (.len rfl underlying103 rfl)<|O.op (.p rfl) (.lss rfl rfl)<|O.nil ?_
 first|refine S.condD rfl (fun h155=>?_) (fun h155=>?_)|refine S.condB rfl (fun h155=>?_) (fun h155=>?_)
 ·exact absurd zC zG
 refine S.exit rfl<|S.seq<|S.region rfl<|O.q 1 rfl<|O.nil ?_;exact S.rt results165 rfl hR ⟨rfl,rfl⟩
theorem flatTexts_0 {r:Fr}:Con prog 166 #[.slice none 0 0] r [] (Ret fun v η=>v=.bool true∧η=[]):=by
 refine Con.of (n:=193) _ rfl func166 rfl rfl rfl fun g hg R hR=>?_;refine S.seq<|S.region rfl<|O.q 1 rfl<|O.nil<|S.seq<|S.seq<|S.region rfl<|O.q 1 rfl<|O.nil<|S.block<|S.unroll<|S.seq<|S.seq<|S.region rfl<|O.q 2 rfl<|O.op (.p rfl) (.len rfl underlying104 rfl)<|O.op (.p rfl) (.lss rfl rfl)<|O.nil ?_
 first|refine S.condD rfl (fun h19=>?_) (fun h19=>?_)|refine S.condB rfl (fun h19=>?_) (fun h19=>?_)
 ·exact absurd zC zG
 refine S.exit rfl<|S.seq<|S.region rfl<|O.q 1 rfl<|O.op (.p rfl) (.len rfl underlying104 rfl)<|O.opE (.p rfl) (.makeP (T:=Rp.val) (.slice none 0 0) (m:=0) underlying104 elem184 zF ⟨rfl,rfl⟩ rfl rfl rfl rfl zF zF) ?_;rintro _ _ ⟨a42,c42,rfl,rfl⟩;refine O.q 1 rfl<|O.nil<|S.seq<|S.seq<|S.region rfl<|O.q 1 rfl<|O.nil<|S.block<|S.unroll<|S.seq<|S.seq<|S.region rfl<|O.q 2 rfl<|O.op (.p rfl) (.len rfl underlying104 rfl)<|O.op (.p rfl) (.lss rfl rfl)<|O.nil ?_
 first|refine S.condD rfl (fun h46=>?_) (fun h46=>?_)|refine S.condB rfl (fun h46=>?_) (fun h46=>?_)
 ·exact absurd zC zG
 refine S.exit rfl<|S.seq<|S.seq<|S.region rfl<|O.q 1 rfl<|O.nil<|S.block<|S.unroll<|S.seq<|S.seq<|S.region rfl<|O.q 2 rfl<|O.op (.p rfl) (.len rfl underlying104 rfl)<|O.op (.p rfl) (.lss rfl rfl)<|O.nil ?_
 first|refine S.condD rfl (fun h76=>?_) (fun h76=>?_)|refine S.condB rfl (fun h76=>?_) (fun h76=>?_)
 ·exact absurd zC zG
 refine S.exit rfl<|S.seq<|S.seq<|S.region rfl<|O.q 1 rfl<|O.nil<|S.block<|S.unroll<|S.seq<|S.seq<|S.region rfl<|O.q 2 rfl<|O.op (.p rfl) (.len rfl underlying104 rfl)<|O.op (.p rfl) (.lss rfl rfl)<|O.nil ?_
 first|refine S.condD rfl (fun h126=>?_) (fun h126=>?_)|refine S.condB rfl (fun h126=>?_) (fun h126=>?_)
 ·exact absurd zC zG
 refine S.exit rfl<|S.seq<|S.seq<|S.region rfl<|O.q 1 rfl<|O.nil<|S.block<|S.unroll<|S.seq<|S.seq<|S.region rfl<|O.q 2 rfl<|O.op (.p rfl) (.len rfl underlying104 rfl)<|O.op (.p rfl) (.lss rfl rfl)<|O.nil ?_
 first|refine S.condD rfl (fun h155=>?_) (fun h155=>?_)|refine S.condB rfl (fun h155=>?_) (fun h155=>?_)
 ·exact absurd zC zG
 refine S.exit rfl<|S.seq<|S.region rfl<|O.q 1 rfl<|O.nil ?_;exact S.rt results166 rfl hR ⟨rfl,rfl⟩
theorem flatTruths_0 {r:Fr}:Con prog 168 #[.slice none 0 0] r [] (Ret fun v η=>v=.bool true∧η=[]):=by
 refine Con.of (n:=207) _ rfl func168 rfl rfl rfl fun g hg R hR=>?_;refine S.seq<|S.region rfl<|O.q 1 rfl<|O.nil<|S.seq<|S.seq<|S.region rfl<|O.q 1 rfl<|O.nil<|S.block<|S.unroll<|S.seq<|S.seq<|S.region rfl<|O.q 2 rfl<|O.op (.p rfl) (.len rfl underlying105 rfl)<|O.op (.p rfl) (.lss rfl rfl)<|O.nil ?_
 first|refine S.condD rfl (fun h19=>?_) (fun h19=>?_)|refine S.condB rfl (fun h19=>?_) (fun h19=>?_)
 ·exact absurd zC zG
 refine S.exit rfl<|S.seq<|S.region rfl<|O.q 1 rfl<|O.op (.p rfl) (.len rfl underlying105 rfl)<|O.opE (.p rfl) (.makeP (T:=Rp.val) (.slice none 0 0) (m:=0) underlying105 elem264 zF ⟨rfl,rfl⟩ rfl rfl rfl rfl zF zF) ?_;rintro _ _ ⟨a44,c44,rfl,rfl⟩;refine O.q 1 rfl<|O.nil<|S.seq<|S.seq<|S.region rfl<|O.q 1 rfl<|O.nil<|S.block<|S.unroll<|S.seq<|S.seq<|S.region rfl<|O.q 2 rfl<|O.op (.p rfl) (.len rfl underlying105 rfl)<|O.op (.p rfl) (.lss rfl rfl)<|O.nil ?_
 first|refine S.condD rfl (fun h48=>?_) (fun h48=>?_)|refine S.condB rfl (fun h48=>?_) (fun h48=>?_)
 ·exact absurd zC zG
 refine S.exit rfl<|S.seq<|S.seq<|S.region rfl<|O.q 1 rfl<|O.nil<|S.block<|S.unroll<|S.seq<|S.seq<|S.region rfl<|O.q 2 rfl<|O.op (.p rfl) (.len rfl underlying105 rfl)<|O.op (.p rfl) (.lss rfl rfl)<|O.nil ?_
 first|refine S.condD rfl (fun h80=>?_) (fun h80=>?_)|refine S.condB rfl (fun h80=>?_) (fun h80=>?_)
 ·exact absurd zC zG
 refine S.exit rfl<|S.seq<|S.seq<|S.region rfl<|O.q 1 rfl<|O.nil<|S.block<|S.unroll<|S.seq<|S.seq<|S.region rfl<|O.q 2 rfl<|O.op (.p rfl) (.len rfl underlying105 rfl)<|O.op (.p rfl) (.lss rfl rfl)<|O.nil ?_
 first|refine S.condD rfl (fun h134=>?_) (fun h134=>?_)|refine S.condB rfl (fun h134=>?_) (fun h134=>?_)
 ·exact absurd zC zG
 refine S.exit rfl<|S.seq<|S.seq<|S.region rfl<|O.q 1 rfl<|O.nil<|S.block<|S.unroll<|S.seq<|S.seq<|S.region rfl<|O.q 2 rfl<|O.op (.p rfl) (.len rfl underlying105 rfl)<|O.op (.p rfl) (.lss rfl rfl)<|O.nil ?_
 first|refine S.condD rfl (fun h165=>?_) (fun h165=>?_)|refine S.condB rfl (fun h165=>?_) (fun h165=>?_)
 ·exact absurd zC zG
 refine S.exit rfl<|S.seq<|S.region rfl<|O.q 1 rfl<|O.nil ?_;exact S.rt results168 rfl hR ⟨rfl,rfl⟩
theorem flatRows_0 {r:Fr}:Con prog 169 #[.slice none 0 0] r [] (Ret fun v η=>v=.bool true∧η=[]):=by
 refine Con.of (n:=193) _ rfl func169 rfl rfl rfl fun g hg R hR=>?_;refine S.seq<|S.region rfl<|O.q 1 rfl<|O.nil<|S.seq<|S.seq<|S.region rfl<|O.q 1 rfl<|O.nil<|S.block<|S.unroll<|S.seq<|S.seq<|S.region rfl<|O.q 2 rfl<|O.op (.p rfl) (.len rfl underlying106 rfl)<|O.op (.p rfl) (.lss rfl rfl)<|O.nil ?_
 first|refine S.condD rfl (fun h19=>?_) (fun h19=>?_)|refine S.condB rfl (fun h19=>?_) (fun h19=>?_)
 ·exact absurd zC zG
 refine S.exit rfl<|S.seq<|S.region rfl<|O.q 1 rfl<|O.op (.p rfl) (.len rfl underlying106 rfl)<|O.opE (.p rfl) (.makeP (T:=Rp.val) (.slice none 0 0) (m:=0) underlying106 elem39 zF ⟨rfl,rfl⟩ rfl rfl rfl rfl zF zF) ?_;rintro _ _ ⟨a42,c42,rfl,rfl⟩;refine O.q 1 rfl<|O.nil<|S.seq<|S.seq<|S.region rfl<|O.q 1 rfl<|O.nil<|S.block<|S.unroll<|S.seq<|S.seq<|S.region rfl<|O.q 2 rfl<|O.op (.p rfl) (.len rfl underlying106 rfl)<|O.op (.p rfl) (.lss rfl rfl)<|O.nil ?_
 first|refine S.condD rfl (fun h46=>?_) (fun h46=>?_)|refine S.condB rfl (fun h46=>?_) (fun h46=>?_)
 ·exact absurd zC zG
 refine S.exit rfl<|S.seq<|S.seq<|S.region rfl<|O.q 1 rfl<|O.nil<|S.block<|S.unroll<|S.seq<|S.seq<|S.region rfl<|O.q 2 rfl<|O.op (.p rfl) (.len rfl underlying106 rfl)<|O.op (.p rfl) (.lss rfl rfl)<|O.nil ?_
 first|refine S.condD rfl (fun h76=>?_) (fun h76=>?_)|refine S.condB rfl (fun h76=>?_) (fun h76=>?_)
 ·exact absurd zC zG
 refine S.exit rfl<|S.seq<|S.seq<|S.region rfl<|O.q 1 rfl<|O.nil<|S.block<|S.unroll<|S.seq<|S.seq<|S.region rfl<|O.q 2 rfl<|O.op (.p rfl) (.len rfl underlying106 rfl)<|O.op (.p rfl) (.lss rfl rfl)<|O.nil ?_
 first|refine S.condD rfl (fun h126=>?_) (fun h126=>?_)|refine S.condB rfl (fun h126=>?_) (fun h126=>?_)
 ·exact absurd zC zG
 refine S.exit rfl<|S.seq<|S.seq<|S.region rfl<|O.q 1 rfl<|O.nil<|S.block<|S.unroll<|S.seq<|S.seq<|S.region rfl<|O.q 2 rfl<|O.op (.p rfl) (.len rfl underlying106 rfl)<|O.op (.p rfl) (.lss rfl rfl)<|O.nil ?_
 first|refine S.condD rfl (fun h155=>?_) (fun h155=>?_)|refine S.condB rfl (fun h155=>?_) (fun h155=>?_)
 ·exact absurd zC zG
 refine S.exit rfl<|S.seq<|S.region rfl<|O.q 1 rfl<|O.nil ?_;exact S.rt results169 rfl hR ⟨rfl,rfl⟩
theorem flatDots_0 {r:Fr}:Con prog 170 #[.slice none 0 0] r [] (Ret fun v η=>v=.bool true∧η=[]):=by
 refine Con.of (n:=193) _ rfl func170 rfl rfl rfl fun g hg R hR=>?_;refine S.seq<|S.region rfl<|O.q 1 rfl<|O.nil<|S.seq<|S.seq<|S.region rfl<|O.q 1 rfl<|O.nil<|S.block<|S.unroll<|S.seq<|S.seq<|S.region rfl<|O.q 2 rfl<|O.op (.p rfl) (.len rfl underlying107 rfl)<|O.op (.p rfl) (.lss rfl rfl)<|O.nil ?_
 first|refine S.condD rfl (fun h19=>?_) (fun h19=>?_)|refine S.condB rfl (fun h19=>?_) (fun h19=>?_)
 ·exact absurd zC zG
 refine S.exit rfl<|S.seq<|S.region rfl<|O.q 1 rfl<|O.op (.p rfl) (.len rfl underlying107 rfl)<|O.opE (.p rfl) (.makeP (T:=Rp.val) (.slice none 0 0) (m:=0) underlying107 elem72 zF ⟨rfl,rfl⟩ rfl rfl rfl rfl zF zF) ?_;rintro _ _ ⟨a42,c42,rfl,rfl⟩;refine O.q 1 rfl<|O.nil<|S.seq<|S.seq<|S.region rfl<|O.q 1 rfl<|O.nil<|S.block<|S.unroll<|S.seq<|S.seq<|S.region rfl<|O.q 2 rfl<|O.op (.p rfl) (.len rfl underlying107 rfl)<|O.op (.p rfl) (.lss rfl rfl)<|O.nil ?_
 first|refine S.condD rfl (fun h46=>?_) (fun h46=>?_)|refine S.condB rfl (fun h46=>?_) (fun h46=>?_)
 ·exact absurd zC zG
 refine S.exit rfl<|S.seq<|S.seq<|S.region rfl<|O.q 1 rfl<|O.nil<|S.block<|S.unroll<|S.seq<|S.seq<|S.region rfl<|O.q 2 rfl<|O.op (.p rfl) (.len rfl underlying107 rfl)<|O.op (.p rfl) (.lss rfl rfl)<|O.nil ?_
 first|refine S.condD rfl (fun h76=>?_) (fun h76=>?_)|refine S.condB rfl (fun h76=>?_) (fun h76=>?_)
 ·exact absurd zC zG
 refine S.exit rfl<|S.seq<|S.seq<|S.region rfl<|O.q 1 rfl<|O.nil<|S.block<|S.unroll<|S.seq<|S.seq<|S.region rfl<|O.q 2 rfl<|O.op (.p rfl) (.len rfl underlying107 rfl)<|O.op (.p rfl) (.lss rfl rfl)<|O.nil ?_
 first|refine S.condD rfl (fun h126=>?_) (fun h126=>?_)|refine S.condB rfl (fun h126=>?_) (fun h126=>?_)
 ·exact absurd zC zG
 refine S.exit rfl<|S.seq<|S.seq<|S.region rfl<|O.q 1 rfl<|O.nil<|S.block<|S.unroll<|S.seq<|S.seq<|S.region rfl<|O.q 2 rfl<|O.op (.p rfl) (.len rfl underlying107 rfl)<|O.op (.p rfl) (.lss rfl rfl)<|O.nil ?_
 first|refine S.condD rfl (fun h155=>?_) (fun h155=>?_)|refine S.condB rfl (fun h155=>?_) (fun h155=>?_)
 ·exact absurd zC zG
 refine S.exit rfl<|S.seq<|S.region rfl<|O.q 1 rfl<|O.nil ?_;exact S.rt results170 rfl hR ⟨rfl,rfl⟩
theorem flatRecords_0 {r:Fr}:Con prog 171 #[.slice none 0 0] r [] (Ret fun v η=>v=.bool true∧η=[]):=by
 refine Con.of (n:=193) _ rfl func171 rfl rfl rfl fun g hg R hR=>?_;refine S.seq<|S.region rfl<|O.q 1 rfl<|O.nil<|S.seq<|S.seq<|S.region rfl<|O.q 1 rfl<|O.nil<|S.block<|S.unroll<|S.seq<|S.seq<|S.region rfl<|O.q 2 rfl<|O.op (.p rfl) (.len rfl underlying65 rfl)<|O.op (.p rfl) (.lss rfl rfl)<|O.nil ?_
 first|refine S.condD rfl (fun h19=>?_) (fun h19=>?_)|refine S.condB rfl (fun h19=>?_) (fun h19=>?_)
 ·exact absurd zC zG
 refine S.exit rfl<|S.seq<|S.region rfl<|O.q 1 rfl<|O.op (.p rfl) (.len rfl underlying65 rfl)<|O.opE (.p rfl) (.makeP (T:=Rp.val) (.slice none 0 0) (m:=0) underlying65 elem47 zF ⟨rfl,rfl⟩ rfl rfl rfl rfl zF zF) ?_;rintro _ _ ⟨a42,c42,rfl,rfl⟩;refine O.q 1 rfl<|O.nil<|S.seq<|S.seq<|S.region rfl<|O.q 1 rfl<|O.nil<|S.block<|S.unroll<|S.seq<|S.seq<|S.region rfl<|O.q 2 rfl<|O.op (.p rfl) (.len rfl underlying65 rfl)<|O.op (.p rfl) (.lss rfl rfl)<|O.nil ?_
 first|refine S.condD rfl (fun h46=>?_) (fun h46=>?_)|refine S.condB rfl (fun h46=>?_) (fun h46=>?_)
 ·exact absurd zC zG
 refine S.exit rfl<|S.seq<|S.seq<|S.region rfl<|O.q 1 rfl<|O.nil<|S.block<|S.unroll<|S.seq<|S.seq<|S.region rfl<|O.q 2 rfl<|O.op (.p rfl) (.len rfl underlying65 rfl)<|O.op (.p rfl) (.lss rfl rfl)<|O.nil ?_
 first|refine S.condD rfl (fun h76=>?_) (fun h76=>?_)|refine S.condB rfl (fun h76=>?_) (fun h76=>?_)
 ·exact absurd zC zG
 refine S.exit rfl<|S.seq<|S.seq<|S.region rfl<|O.q 1 rfl<|O.nil<|S.block<|S.unroll<|S.seq<|S.seq<|S.region rfl<|O.q 2 rfl<|O.op (.p rfl) (.len rfl underlying65 rfl)<|O.op (.p rfl) (.lss rfl rfl)<|O.nil ?_
 first|refine S.condD rfl (fun h126=>?_) (fun h126=>?_)|refine S.condB rfl (fun h126=>?_) (fun h126=>?_)
 ·exact absurd zC zG
 refine S.exit rfl<|S.seq<|S.seq<|S.region rfl<|O.q 1 rfl<|O.nil<|S.block<|S.unroll<|S.seq<|S.seq<|S.region rfl<|O.q 2 rfl<|O.op (.p rfl) (.len rfl underlying65 rfl)<|O.op (.p rfl) (.lss rfl rfl)<|O.nil ?_
 first|refine S.condD rfl (fun h155=>?_) (fun h155=>?_)|refine S.condB rfl (fun h155=>?_) (fun h155=>?_)
 ·exact absurd zC zG
 refine S.exit rfl<|S.seq<|S.region rfl<|O.q 1 rfl<|O.nil ?_;exact S.rt results171 rfl hR ⟨rfl,rfl⟩
theorem flatLeaves_0 {r:Fr}:Con prog 172 #[.slice none 0 0] r [] (Ret fun v η=>v=.bool true∧η=[]):=by
 refine Con.of (n:=193) _ rfl func172 rfl rfl rfl fun g hg R hR=>?_;refine S.seq<|S.region rfl<|O.q 1 rfl<|O.nil<|S.seq<|S.seq<|S.region rfl<|O.q 1 rfl<|O.nil<|S.block<|S.unroll<|S.seq<|S.seq<|S.region rfl<|O.q 2 rfl<|O.op (.p rfl) (.len rfl underlying108 rfl)<|O.op (.p rfl) (.lss rfl rfl)<|O.nil ?_
 first|refine S.condD rfl (fun h19=>?_) (fun h19=>?_)|refine S.condB rfl (fun h19=>?_) (fun h19=>?_)
 ·exact absurd zC zG
 refine S.exit rfl<|S.seq<|S.region rfl<|O.q 1 rfl<|O.op (.p rfl) (.len rfl underlying108 rfl)<|O.opE (.p rfl) (.makeP (T:=Rp.val) (.slice none 0 0) (m:=0) underlying108 elem22 zF ⟨rfl,rfl⟩ rfl rfl rfl rfl zF zF) ?_;rintro _ _ ⟨a42,c42,rfl,rfl⟩;refine O.q 1 rfl<|O.nil<|S.seq<|S.seq<|S.region rfl<|O.q 1 rfl<|O.nil<|S.block<|S.unroll<|S.seq<|S.seq<|S.region rfl<|O.q 2 rfl<|O.op (.p rfl) (.len rfl underlying108 rfl)<|O.op (.p rfl) (.lss rfl rfl)<|O.nil ?_
 first|refine S.condD rfl (fun h46=>?_) (fun h46=>?_)|refine S.condB rfl (fun h46=>?_) (fun h46=>?_)
 ·exact absurd zC zG
 refine S.exit rfl<|S.seq<|S.seq<|S.region rfl<|O.q 1 rfl<|O.nil<|S.block<|S.unroll<|S.seq<|S.seq<|S.region rfl<|O.q 2 rfl<|O.op (.p rfl) (.len rfl underlying108 rfl)<|O.op (.p rfl) (.lss rfl rfl)<|O.nil ?_
 first|refine S.condD rfl (fun h76=>?_) (fun h76=>?_)|refine S.condB rfl (fun h76=>?_) (fun h76=>?_)
 ·exact absurd zC zG
 refine S.exit rfl<|S.seq<|S.seq<|S.region rfl<|O.q 1 rfl<|O.nil<|S.block<|S.unroll<|S.seq<|S.seq<|S.region rfl<|O.q 2 rfl<|O.op (.p rfl) (.len rfl underlying108 rfl)<|O.op (.p rfl) (.lss rfl rfl)<|O.nil ?_
 first|refine S.condD rfl (fun h126=>?_) (fun h126=>?_)|refine S.condB rfl (fun h126=>?_) (fun h126=>?_)
 ·exact absurd zC zG
 refine S.exit rfl<|S.seq<|S.seq<|S.region rfl<|O.q 1 rfl<|O.nil<|S.block<|S.unroll<|S.seq<|S.seq<|S.region rfl<|O.q 2 rfl<|O.op (.p rfl) (.len rfl underlying108 rfl)<|O.op (.p rfl) (.lss rfl rfl)<|O.nil ?_
 first|refine S.condD rfl (fun h155=>?_) (fun h155=>?_)|refine S.condB rfl (fun h155=>?_) (fun h155=>?_)
 ·exact absurd zC zG
 refine S.exit rfl<|S.seq<|S.region rfl<|O.q 1 rfl<|O.nil ?_;exact S.rt results172 rfl hR ⟨rfl,rfl⟩
theorem flatGrants_0 {r:Fr}:Con prog 173 #[.slice none 0 0] r [] (Ret fun v η=>v=.bool true∧η=[]):=by
 refine Con.of (n:=193) _ rfl func173 rfl rfl rfl fun g hg R hR=>?_;refine S.seq<|S.region rfl<|O.q 1 rfl<|O.nil<|S.seq<|S.seq<|S.region rfl<|O.q 1 rfl<|O.nil<|S.block<|S.unroll<|S.seq<|S.seq<|S.region rfl<|O.q 2 rfl<|O.op (.p rfl) (.len rfl underlying109 rfl)<|O.op (.p rfl) (.lss rfl rfl)<|O.nil ?_
 first|refine S.condD rfl (fun h19=>?_) (fun h19=>?_)|refine S.condB rfl (fun h19=>?_) (fun h19=>?_)
 ·exact absurd zC zG
 refine S.exit rfl<|S.seq<|S.region rfl<|O.q 1 rfl<|O.op (.p rfl) (.len rfl underlying109 rfl)<|O.opE (.p rfl) (.makeP (T:=Rp.val) (.slice none 0 0) (m:=0) underlying109 elem267 zF ⟨rfl,rfl⟩ rfl rfl rfl rfl zF zF) ?_;rintro _ _ ⟨a42,c42,rfl,rfl⟩;refine O.q 1 rfl<|O.nil<|S.seq<|S.seq<|S.region rfl<|O.q 1 rfl<|O.nil<|S.block<|S.unroll<|S.seq<|S.seq<|S.region rfl<|O.q 2 rfl<|O.op (.p rfl) (.len rfl underlying109 rfl)<|O.op (.p rfl) (.lss rfl rfl)<|O.nil ?_
 first|refine S.condD rfl (fun h46=>?_) (fun h46=>?_)|refine S.condB rfl (fun h46=>?_) (fun h46=>?_)
 ·exact absurd zC zG
 refine S.exit rfl<|S.seq<|S.seq<|S.region rfl<|O.q 1 rfl<|O.nil<|S.block<|S.unroll<|S.seq<|S.seq<|S.region rfl<|O.q 2 rfl<|O.op (.p rfl) (.len rfl underlying109 rfl)<|O.op (.p rfl) (.lss rfl rfl)<|O.nil ?_
 first|refine S.condD rfl (fun h76=>?_) (fun h76=>?_)|refine S.condB rfl (fun h76=>?_) (fun h76=>?_)
 ·exact absurd zC zG
 refine S.exit rfl<|S.seq<|S.seq<|S.region rfl<|O.q 1 rfl<|O.nil<|S.block<|S.unroll<|S.seq<|S.seq<|S.region rfl<|O.q 2 rfl<|O.op (.p rfl) (.len rfl underlying109 rfl)<|O.op (.p rfl) (.lss rfl rfl)<|O.nil ?_
 first|refine S.condD rfl (fun h126=>?_) (fun h126=>?_)|refine S.condB rfl (fun h126=>?_) (fun h126=>?_)
 ·exact absurd zC zG
 refine S.exit rfl<|S.seq<|S.seq<|S.region rfl<|O.q 1 rfl<|O.nil<|S.block<|S.unroll<|S.seq<|S.seq<|S.region rfl<|O.q 2 rfl<|O.op (.p rfl) (.len rfl underlying109 rfl)<|O.op (.p rfl) (.lss rfl rfl)<|O.nil ?_
 first|refine S.condD rfl (fun h155=>?_) (fun h155=>?_)|refine S.condB rfl (fun h155=>?_) (fun h155=>?_)
 ·exact absurd zC zG
 refine S.exit rfl<|S.seq<|S.region rfl<|O.q 1 rfl<|O.nil ?_;exact S.rt results173 rfl hR ⟨rfl,rfl⟩
theorem flatNodes_0 {r:Fr}:Con prog 174 #[.slice none 0 0] r [] (Ret fun v η=>v=.bool true∧η=[]):=by
 refine Con.of (n:=193) _ rfl func174 rfl rfl rfl fun g hg R hR=>?_;refine S.seq<|S.region rfl<|O.q 1 rfl<|O.nil<|S.seq<|S.seq<|S.region rfl<|O.q 1 rfl<|O.nil<|S.block<|S.unroll<|S.seq<|S.seq<|S.region rfl<|O.q 2 rfl<|O.op (.p rfl) (.len rfl underlying110 rfl)<|O.op (.p rfl) (.lss rfl rfl)<|O.nil ?_
 first|refine S.condD rfl (fun h19=>?_) (fun h19=>?_)|refine S.condB rfl (fun h19=>?_) (fun h19=>?_)
 ·exact absurd zC zG
 refine S.exit rfl<|S.seq<|S.region rfl<|O.q 1 rfl<|O.op (.p rfl) (.len rfl underlying110 rfl)<|O.opE (.p rfl) (.makeP (T:=Rp.val) (.slice none 0 0) (m:=0) underlying110 elem272 zF ⟨rfl,rfl⟩ rfl rfl rfl rfl zF zF) ?_;rintro _ _ ⟨a42,c42,rfl,rfl⟩;refine O.q 1 rfl<|O.nil<|S.seq<|S.seq<|S.region rfl<|O.q 1 rfl<|O.nil<|S.block<|S.unroll<|S.seq<|S.seq<|S.region rfl<|O.q 2 rfl<|O.op (.p rfl) (.len rfl underlying110 rfl)<|O.op (.p rfl) (.lss rfl rfl)<|O.nil ?_
 first|refine S.condD rfl (fun h46=>?_) (fun h46=>?_)|refine S.condB rfl (fun h46=>?_) (fun h46=>?_)
 ·exact absurd zC zG
 refine S.exit rfl<|S.seq<|S.seq<|S.region rfl<|O.q 1 rfl<|O.nil<|S.block<|S.unroll<|S.seq<|S.seq<|S.region rfl<|O.q 2 rfl<|O.op (.p rfl) (.len rfl underlying110 rfl)<|O.op (.p rfl) (.lss rfl rfl)<|O.nil ?_
 first|refine S.condD rfl (fun h76=>?_) (fun h76=>?_)|refine S.condB rfl (fun h76=>?_) (fun h76=>?_)
 ·exact absurd zC zG
 refine S.exit rfl<|S.seq<|S.seq<|S.region rfl<|O.q 1 rfl<|O.nil<|S.block<|S.unroll<|S.seq<|S.seq<|S.region rfl<|O.q 2 rfl<|O.op (.p rfl) (.len rfl underlying110 rfl)<|O.op (.p rfl) (.lss rfl rfl)<|O.nil ?_
 first|refine S.condD rfl (fun h126=>?_) (fun h126=>?_)|refine S.condB rfl (fun h126=>?_) (fun h126=>?_)
 ·exact absurd zC zG
 refine S.exit rfl<|S.seq<|S.seq<|S.region rfl<|O.q 1 rfl<|O.nil<|S.block<|S.unroll<|S.seq<|S.seq<|S.region rfl<|O.q 2 rfl<|O.op (.p rfl) (.len rfl underlying110 rfl)<|O.op (.p rfl) (.lss rfl rfl)<|O.nil ?_
 first|refine S.condD rfl (fun h155=>?_) (fun h155=>?_)|refine S.condB rfl (fun h155=>?_) (fun h155=>?_)
 ·exact absurd zC zG
 refine S.exit rfl<|S.seq<|S.region rfl<|O.q 1 rfl<|O.nil ?_;exact S.rt results174 rfl hR ⟨rfl,rfl⟩
theorem flatStubs_0 {r:Fr}:Con prog 175 #[.slice none 0 0] r [] (Ret fun v η=>v=.bool true∧η=[]):=by
 refine Con.of (n:=193) _ rfl func175 rfl rfl rfl fun g hg R hR=>?_;refine S.seq<|S.region rfl<|O.q 1 rfl<|O.nil<|S.seq<|S.seq<|S.region rfl<|O.q 1 rfl<|O.nil<|S.block<|S.unroll<|S.seq<|S.seq<|S.region rfl<|O.q 2 rfl<|O.op (.p rfl) (.len rfl underlying111 rfl)<|O.op (.p rfl) (.lss rfl rfl)<|O.nil ?_
 first|refine S.condD rfl (fun h19=>?_) (fun h19=>?_)|refine S.condB rfl (fun h19=>?_) (fun h19=>?_)
 ·exact absurd zC zG
 refine S.exit rfl<|S.seq<|S.region rfl<|O.q 1 rfl<|O.op (.p rfl) (.len rfl underlying111 rfl)<|O.opE (.p rfl) (.makeP (T:=Rp.val) (.slice none 0 0) (m:=0) underlying111 elem278 zF ⟨rfl,rfl⟩ rfl rfl rfl rfl zF zF) ?_;rintro _ _ ⟨a42,c42,rfl,rfl⟩;refine O.q 1 rfl<|O.nil<|S.seq<|S.seq<|S.region rfl<|O.q 1 rfl<|O.nil<|S.block<|S.unroll<|S.seq<|S.seq<|S.region rfl<|O.q 2 rfl<|O.op (.p rfl) (.len rfl underlying111 rfl)<|O.op (.p rfl) (.lss rfl rfl)<|O.nil ?_
 first|refine S.condD rfl (fun h46=>?_) (fun h46=>?_)|refine S.condB rfl (fun h46=>?_) (fun h46=>?_)
 ·exact absurd zC zG
 refine S.exit rfl<|S.seq<|S.seq<|S.region rfl<|O.q 1 rfl<|O.nil<|S.block<|S.unroll<|S.seq<|S.seq<|S.region rfl<|O.q 2 rfl<|O.op (.p rfl) (.len rfl underlying111 rfl)<|O.op (.p rfl) (.lss rfl rfl)<|O.nil ?_
 first|refine S.condD rfl (fun h76=>?_) (fun h76=>?_)|refine S.condB rfl (fun h76=>?_) (fun h76=>?_)
 ·exact absurd zC zG
 refine S.exit rfl<|S.seq<|S.seq<|S.region rfl<|O.q 1 rfl<|O.nil<|S.block<|S.unroll<|S.seq<|S.seq<|S.region rfl<|O.q 2 rfl<|O.op (.p rfl) (.len rfl underlying111 rfl)<|O.op (.p rfl) (.lss rfl rfl)<|O.nil ?_
 first|refine S.condD rfl (fun h126=>?_) (fun h126=>?_)|refine S.condB rfl (fun h126=>?_) (fun h126=>?_)
 ·exact absurd zC zG
 refine S.exit rfl<|S.seq<|S.seq<|S.region rfl<|O.q 1 rfl<|O.nil<|S.block<|S.unroll<|S.seq<|S.seq<|S.region rfl<|O.q 2 rfl<|O.op (.p rfl) (.len rfl underlying111 rfl)<|O.op (.p rfl) (.lss rfl rfl)<|O.nil ?_
 first|refine S.condD rfl (fun h155=>?_) (fun h155=>?_)|refine S.condB rfl (fun h155=>?_) (fun h155=>?_)
 ·exact absurd zC zG
 refine S.exit rfl<|S.seq<|S.region rfl<|O.q 1 rfl<|O.nil ?_;exact S.rt results175 rfl hR ⟨rfl,rfl⟩
theorem flatProofs_0 {r:Fr}:Con prog 176 #[.slice none 0 0] r [] (Ret fun v η=>v=.bool true∧η=[]):=by
 refine Con.of (n:=193) _ rfl func176 rfl rfl rfl fun g hg R hR=>?_;refine S.seq<|S.region rfl<|O.q 1 rfl<|O.nil<|S.seq<|S.seq<|S.region rfl<|O.q 1 rfl<|O.nil<|S.block<|S.unroll<|S.seq<|S.seq<|S.region rfl<|O.q 2 rfl<|O.op (.p rfl) (.len rfl underlying112 rfl)<|O.op (.p rfl) (.lss rfl rfl)<|O.nil ?_
 first|refine S.condD rfl (fun h19=>?_) (fun h19=>?_)|refine S.condB rfl (fun h19=>?_) (fun h19=>?_)
 ·exact absurd zC zG
 refine S.exit rfl<|S.seq<|S.region rfl<|O.q 1 rfl<|O.op (.p rfl) (.len rfl underlying112 rfl)<|O.opE (.p rfl) (.makeP (T:=Rp.val) (.slice none 0 0) (m:=0) underlying112 elem283 zF ⟨rfl,rfl⟩ rfl rfl rfl rfl zF zF) ?_;rintro _ _ ⟨a42,c42,rfl,rfl⟩;refine O.q 1 rfl<|O.nil<|S.seq<|S.seq<|S.region rfl<|O.q 1 rfl<|O.nil<|S.block<|S.unroll<|S.seq<|S.seq<|S.region rfl<|O.q 2 rfl<|O.op (.p rfl) (.len rfl underlying112 rfl)<|O.op (.p rfl) (.lss rfl rfl)<|O.nil ?_
 first|refine S.condD rfl (fun h46=>?_) (fun h46=>?_)|refine S.condB rfl (fun h46=>?_) (fun h46=>?_)
 ·exact absurd zC zG
 refine S.exit rfl<|S.seq<|S.seq<|S.region rfl<|O.q 1 rfl<|O.nil<|S.block<|S.unroll<|S.seq<|S.seq<|S.region rfl<|O.q 2 rfl<|O.op (.p rfl) (.len rfl underlying112 rfl)<|O.op (.p rfl) (.lss rfl rfl)<|O.nil ?_
 first|refine S.condD rfl (fun h76=>?_) (fun h76=>?_)|refine S.condB rfl (fun h76=>?_) (fun h76=>?_)
 ·exact absurd zC zG
 refine S.exit rfl<|S.seq<|S.seq<|S.region rfl<|O.q 1 rfl<|O.nil<|S.block<|S.unroll<|S.seq<|S.seq<|S.region rfl<|O.q 2 rfl<|O.op (.p rfl) (.len rfl underlying112 rfl)<|O.op (.p rfl) (.lss rfl rfl)<|O.nil ?_
 first|refine S.condD rfl (fun h126=>?_) (fun h126=>?_)|refine S.condB rfl (fun h126=>?_) (fun h126=>?_)
 ·exact absurd zC zG
 refine S.exit rfl<|S.seq<|S.seq<|S.region rfl<|O.q 1 rfl<|O.nil<|S.block<|S.unroll<|S.seq<|S.seq<|S.region rfl<|O.q 2 rfl<|O.op (.p rfl) (.len rfl underlying112 rfl)<|O.op (.p rfl) (.lss rfl rfl)<|O.nil ?_
 first|refine S.condD rfl (fun h155=>?_) (fun h155=>?_)|refine S.condB rfl (fun h155=>?_) (fun h155=>?_)
 ·exact absurd zC zG
 refine S.exit rfl<|S.seq<|S.region rfl<|O.q 1 rfl<|O.nil ?_;exact S.rt results176 rfl hR ⟨rfl,rfl⟩
theorem flatRoots_0 {r:Fr}:Con prog 177 #[.slice none 0 0] r [] (Ret fun v η=>v=.bool true∧η=[]):=by
 refine Con.of (n:=193) _ rfl func177 rfl rfl rfl fun g hg R hR=>?_;refine S.seq<|S.region rfl<|O.q 1 rfl<|O.nil<|S.seq<|S.seq<|S.region rfl<|O.q 1 rfl<|O.nil<|S.block<|S.unroll<|S.seq<|S.seq<|S.region rfl<|O.q 2 rfl<|O.op (.p rfl) (.len rfl underlying113 rfl)<|O.op (.p rfl) (.lss rfl rfl)<|O.nil ?_
 first|refine S.condD rfl (fun h19=>?_) (fun h19=>?_)|refine S.condB rfl (fun h19=>?_) (fun h19=>?_)
 ·exact absurd zC zG
 refine S.exit rfl<|S.seq<|S.region rfl<|O.q 1 rfl<|O.op (.p rfl) (.len rfl underlying113 rfl)<|O.opE (.p rfl) (.makeP (T:=Rp.val) (.slice none 0 0) (m:=0) underlying113 elem23 zF ⟨rfl,rfl⟩ rfl rfl rfl rfl zF zF) ?_;rintro _ _ ⟨a42,c42,rfl,rfl⟩;refine O.q 1 rfl<|O.nil<|S.seq<|S.seq<|S.region rfl<|O.q 1 rfl<|O.nil<|S.block<|S.unroll<|S.seq<|S.seq<|S.region rfl<|O.q 2 rfl<|O.op (.p rfl) (.len rfl underlying113 rfl)<|O.op (.p rfl) (.lss rfl rfl)<|O.nil ?_
 first|refine S.condD rfl (fun h46=>?_) (fun h46=>?_)|refine S.condB rfl (fun h46=>?_) (fun h46=>?_)
 ·exact absurd zC zG
 refine S.exit rfl<|S.seq<|S.seq<|S.region rfl<|O.q 1 rfl<|O.nil<|S.block<|S.unroll<|S.seq<|S.seq<|S.region rfl<|O.q 2 rfl<|O.op (.p rfl) (.len rfl underlying113 rfl)<|O.op (.p rfl) (.lss rfl rfl)<|O.nil ?_
 first|refine S.condD rfl (fun h76=>?_) (fun h76=>?_)|refine S.condB rfl (fun h76=>?_) (fun h76=>?_)
 ·exact absurd zC zG
 refine S.exit rfl<|S.seq<|S.seq<|S.region rfl<|O.q 1 rfl<|O.nil<|S.block<|S.unroll<|S.seq<|S.seq<|S.region rfl<|O.q 2 rfl<|O.op (.p rfl) (.len rfl underlying113 rfl)<|O.op (.p rfl) (.lss rfl rfl)<|O.nil ?_
 first|refine S.condD rfl (fun h126=>?_) (fun h126=>?_)|refine S.condB rfl (fun h126=>?_) (fun h126=>?_)
 ·exact absurd zC zG
 refine S.exit rfl<|S.seq<|S.seq<|S.region rfl<|O.q 1 rfl<|O.nil<|S.block<|S.unroll<|S.seq<|S.seq<|S.region rfl<|O.q 2 rfl<|O.op (.p rfl) (.len rfl underlying113 rfl)<|O.op (.p rfl) (.lss rfl rfl)<|O.nil ?_
 first|refine S.condD rfl (fun h155=>?_) (fun h155=>?_)|refine S.condB rfl (fun h155=>?_) (fun h155=>?_)
 ·exact absurd zC zG
 refine S.exit rfl<|S.seq<|S.region rfl<|O.q 1 rfl<|O.nil ?_;exact S.rt results177 rfl hR ⟨rfl,rfl⟩
theorem flatEvidenceRow_0 {r:Fr}:Con prog 178 #[.slice none 0 0] r [] (Ret fun v η=>v=.bool true∧η=[]):=by
 refine Con.of (n:=193) _ rfl func178 rfl rfl rfl fun g hg R hR=>?_;refine S.seq<|S.region rfl<|O.q 1 rfl<|O.nil<|S.seq<|S.seq<|S.region rfl<|O.q 1 rfl<|O.nil<|S.block<|S.unroll<|S.seq<|S.seq<|S.region rfl<|O.q 2 rfl<|O.op (.p rfl) (.len rfl underlying114 rfl)<|O.op (.p rfl) (.lss rfl rfl)<|O.nil ?_
 first|refine S.condD rfl (fun h19=>?_) (fun h19=>?_)|refine S.condB rfl (fun h19=>?_) (fun h19=>?_)
 ·exact absurd zC zG
 refine S.exit rfl<|S.seq<|S.region rfl<|O.q 1 rfl<|O.op (.p rfl) (.len rfl underlying114 rfl)<|O.opE (.p rfl) (.makeP (T:=Rp.val) (.slice none 0 0) (m:=0) underlying114 elem24 zF ⟨rfl,rfl⟩ rfl rfl rfl rfl zF zF) ?_;rintro _ _ ⟨a42,c42,rfl,rfl⟩;refine O.q 1 rfl<|O.nil<|S.seq<|S.seq<|S.region rfl<|O.q 1 rfl<|O.nil<|S.block<|S.unroll<|S.seq<|S.seq<|S.region rfl<|O.q 2 rfl<|O.op (.p rfl) (.len rfl underlying114 rfl)<|O.op (.p rfl) (.lss rfl rfl)<|O.nil ?_
 first|refine S.condD rfl (fun h46=>?_) (fun h46=>?_)|refine S.condB rfl (fun h46=>?_) (fun h46=>?_)
 ·exact absurd zC zG
 refine S.exit rfl<|S.seq<|S.seq<|S.region rfl<|O.q 1 rfl<|O.nil<|S.block<|S.unroll<|S.seq<|S.seq<|S.region rfl<|O.q 2 rfl<|O.op (.p rfl) (.len rfl underlying114 rfl)<|O.op (.p rfl) (.lss rfl rfl)<|O.nil ?_
 first|refine S.condD rfl (fun h76=>?_) (fun h76=>?_)|refine S.condB rfl (fun h76=>?_) (fun h76=>?_)
 ·exact absurd zC zG
 refine S.exit rfl<|S.seq<|S.seq<|S.region rfl<|O.q 1 rfl<|O.nil<|S.block<|S.unroll<|S.seq<|S.seq<|S.region rfl<|O.q 2 rfl<|O.op (.p rfl) (.len rfl underlying114 rfl)<|O.op (.p rfl) (.lss rfl rfl)<|O.nil ?_
 first|refine S.condD rfl (fun h126=>?_) (fun h126=>?_)|refine S.condB rfl (fun h126=>?_) (fun h126=>?_)
 ·exact absurd zC zG
 refine S.exit rfl<|S.seq<|S.seq<|S.region rfl<|O.q 1 rfl<|O.nil<|S.block<|S.unroll<|S.seq<|S.seq<|S.region rfl<|O.q 2 rfl<|O.op (.p rfl) (.len rfl underlying114 rfl)<|O.op (.p rfl) (.lss rfl rfl)<|O.nil ?_
 first|refine S.condD rfl (fun h155=>?_) (fun h155=>?_)|refine S.condB rfl (fun h155=>?_) (fun h155=>?_)
 ·exact absurd zC zG
 refine S.exit rfl<|S.seq<|S.region rfl<|O.q 1 rfl<|O.nil ?_;exact S.rt results178 rfl hR ⟨rfl,rfl⟩
theorem flatFrames_0 {r:Fr}:Con prog 179 #[.slice none 0 0] r [] (Ret fun v η=>v=.bool true∧η=[]):=by
 refine Con.of (n:=193) _ rfl func179 rfl rfl rfl fun g hg R hR=>?_;refine S.seq<|S.region rfl<|O.q 1 rfl<|O.nil<|S.seq<|S.seq<|S.region rfl<|O.q 1 rfl<|O.nil<|S.block<|S.unroll<|S.seq<|S.seq<|S.region rfl<|O.q 2 rfl<|O.op (.p rfl) (.len rfl underlying115 rfl)<|O.op (.p rfl) (.lss rfl rfl)<|O.nil ?_
 first|refine S.condD rfl (fun h19=>?_) (fun h19=>?_)|refine S.condB rfl (fun h19=>?_) (fun h19=>?_)
 ·exact absurd zC zG
 refine S.exit rfl<|S.seq<|S.region rfl<|O.q 1 rfl<|O.op (.p rfl) (.len rfl underlying115 rfl)<|O.opE (.p rfl) (.makeP (T:=Rp.val) (.slice none 0 0) (m:=0) underlying115 elem288 zF ⟨rfl,rfl⟩ rfl rfl rfl rfl zF zF) ?_;rintro _ _ ⟨a42,c42,rfl,rfl⟩;refine O.q 1 rfl<|O.nil<|S.seq<|S.seq<|S.region rfl<|O.q 1 rfl<|O.nil<|S.block<|S.unroll<|S.seq<|S.seq<|S.region rfl<|O.q 2 rfl<|O.op (.p rfl) (.len rfl underlying115 rfl)<|O.op (.p rfl) (.lss rfl rfl)<|O.nil ?_
 first|refine S.condD rfl (fun h46=>?_) (fun h46=>?_)|refine S.condB rfl (fun h46=>?_) (fun h46=>?_)
 ·exact absurd zC zG
 refine S.exit rfl<|S.seq<|S.seq<|S.region rfl<|O.q 1 rfl<|O.nil<|S.block<|S.unroll<|S.seq<|S.seq<|S.region rfl<|O.q 2 rfl<|O.op (.p rfl) (.len rfl underlying115 rfl)<|O.op (.p rfl) (.lss rfl rfl)<|O.nil ?_
 first|refine S.condD rfl (fun h76=>?_) (fun h76=>?_)|refine S.condB rfl (fun h76=>?_) (fun h76=>?_)
 ·exact absurd zC zG
 refine S.exit rfl<|S.seq<|S.seq<|S.region rfl<|O.q 1 rfl<|O.nil<|S.block<|S.unroll<|S.seq<|S.seq<|S.region rfl<|O.q 2 rfl<|O.op (.p rfl) (.len rfl underlying115 rfl)<|O.op (.p rfl) (.lss rfl rfl)<|O.nil ?_
 first|refine S.condD rfl (fun h126=>?_) (fun h126=>?_)|refine S.condB rfl (fun h126=>?_) (fun h126=>?_)
 ·exact absurd zC zG
 refine S.exit rfl<|S.seq<|S.seq<|S.region rfl<|O.q 1 rfl<|O.nil<|S.block<|S.unroll<|S.seq<|S.seq<|S.region rfl<|O.q 2 rfl<|O.op (.p rfl) (.len rfl underlying115 rfl)<|O.op (.p rfl) (.lss rfl rfl)<|O.nil ?_
 first|refine S.condD rfl (fun h155=>?_) (fun h155=>?_)|refine S.condB rfl (fun h155=>?_) (fun h155=>?_)
 ·exact absurd zC zG
 refine S.exit rfl<|S.seq<|S.region rfl<|O.q 1 rfl<|O.nil ?_;exact S.rt results179 rfl hR ⟨rfl,rfl⟩
theorem flatPackets_0 {r:Fr}:Con prog 180 #[.slice none 0 0] r [] (Ret fun v η=>v=.bool true∧η=[]):=by
 refine Con.of (n:=193) _ rfl func180 rfl rfl rfl fun g hg R hR=>?_;refine S.seq<|S.region rfl<|O.q 1 rfl<|O.nil<|S.seq<|S.seq<|S.region rfl<|O.q 1 rfl<|O.nil<|S.block<|S.unroll<|S.seq<|S.seq<|S.region rfl<|O.q 2 rfl<|O.op (.p rfl) (.len rfl underlying116 rfl)<|O.op (.p rfl) (.lss rfl rfl)<|O.nil ?_
 first|refine S.condD rfl (fun h19=>?_) (fun h19=>?_)|refine S.condB rfl (fun h19=>?_) (fun h19=>?_)
 ·exact absurd zC zG
 refine S.exit rfl<|S.seq<|S.region rfl<|O.q 1 rfl<|O.op (.p rfl) (.len rfl underlying116 rfl)<|O.opE (.p rfl) (.makeP (T:=Rp.val) (.slice none 0 0) (m:=0) underlying116 elem294 zF ⟨rfl,rfl⟩ rfl rfl rfl rfl zF zF) ?_;rintro _ _ ⟨a42,c42,rfl,rfl⟩;refine O.q 1 rfl<|O.nil<|S.seq<|S.seq<|S.region rfl<|O.q 1 rfl<|O.nil<|S.block<|S.unroll<|S.seq<|S.seq<|S.region rfl<|O.q 2 rfl<|O.op (.p rfl) (.len rfl underlying116 rfl)<|O.op (.p rfl) (.lss rfl rfl)<|O.nil ?_
 first|refine S.condD rfl (fun h46=>?_) (fun h46=>?_)|refine S.condB rfl (fun h46=>?_) (fun h46=>?_)
 ·exact absurd zC zG
 refine S.exit rfl<|S.seq<|S.seq<|S.region rfl<|O.q 1 rfl<|O.nil<|S.block<|S.unroll<|S.seq<|S.seq<|S.region rfl<|O.q 2 rfl<|O.op (.p rfl) (.len rfl underlying116 rfl)<|O.op (.p rfl) (.lss rfl rfl)<|O.nil ?_
 first|refine S.condD rfl (fun h76=>?_) (fun h76=>?_)|refine S.condB rfl (fun h76=>?_) (fun h76=>?_)
 ·exact absurd zC zG
 refine S.exit rfl<|S.seq<|S.seq<|S.region rfl<|O.q 1 rfl<|O.nil<|S.block<|S.unroll<|S.seq<|S.seq<|S.region rfl<|O.q 2 rfl<|O.op (.p rfl) (.len rfl underlying116 rfl)<|O.op (.p rfl) (.lss rfl rfl)<|O.nil ?_
 first|refine S.condD rfl (fun h126=>?_) (fun h126=>?_)|refine S.condB rfl (fun h126=>?_) (fun h126=>?_)
 ·exact absurd zC zG
 refine S.exit rfl<|S.seq<|S.seq<|S.region rfl<|O.q 1 rfl<|O.nil<|S.block<|S.unroll<|S.seq<|S.seq<|S.region rfl<|O.q 2 rfl<|O.op (.p rfl) (.len rfl underlying116 rfl)<|O.op (.p rfl) (.lss rfl rfl)<|O.nil ?_
 first|refine S.condD rfl (fun h155=>?_) (fun h155=>?_)|refine S.condB rfl (fun h155=>?_) (fun h155=>?_)
 ·exact absurd zC zG
 refine S.exit rfl<|S.seq<|S.region rfl<|O.q 1 rfl<|O.nil ?_;exact S.rt results180 rfl hR ⟨rfl,rfl⟩
theorem flatEntries_0 {r:Fr}:Con prog 181 #[.slice none 0 0] r [] (Ret fun v η=>v=.bool true∧η=[]):=by
 refine Con.of (n:=193) _ rfl func181 rfl rfl rfl fun g hg R hR=>?_;refine S.seq<|S.region rfl<|O.q 1 rfl<|O.nil<|S.seq<|S.seq<|S.region rfl<|O.q 1 rfl<|O.nil<|S.block<|S.unroll<|S.seq<|S.seq<|S.region rfl<|O.q 2 rfl<|O.op (.p rfl) (.len rfl underlying117 rfl)<|O.op (.p rfl) (.lss rfl rfl)<|O.nil ?_
 first|refine S.condD rfl (fun h19=>?_) (fun h19=>?_)|refine S.condB rfl (fun h19=>?_) (fun h19=>?_)
 ·exact absurd zC zG
 refine S.exit rfl<|S.seq<|S.region rfl<|O.q 1 rfl<|O.op (.p rfl) (.len rfl underlying117 rfl)<|O.opE (.p rfl) (.makeP (T:=Rp.val) (.slice none 0 0) (m:=0) underlying117 elem299 zF ⟨rfl,rfl⟩ rfl rfl rfl rfl zF zF) ?_;rintro _ _ ⟨a42,c42,rfl,rfl⟩;refine O.q 1 rfl<|O.nil<|S.seq<|S.seq<|S.region rfl<|O.q 1 rfl<|O.nil<|S.block<|S.unroll<|S.seq<|S.seq<|S.region rfl<|O.q 2 rfl<|O.op (.p rfl) (.len rfl underlying117 rfl)<|O.op (.p rfl) (.lss rfl rfl)<|O.nil ?_
 first|refine S.condD rfl (fun h46=>?_) (fun h46=>?_)|refine S.condB rfl (fun h46=>?_) (fun h46=>?_)
 ·exact absurd zC zG
 refine S.exit rfl<|S.seq<|S.seq<|S.region rfl<|O.q 1 rfl<|O.nil<|S.block<|S.unroll<|S.seq<|S.seq<|S.region rfl<|O.q 2 rfl<|O.op (.p rfl) (.len rfl underlying117 rfl)<|O.op (.p rfl) (.lss rfl rfl)<|O.nil ?_
 first|refine S.condD rfl (fun h76=>?_) (fun h76=>?_)|refine S.condB rfl (fun h76=>?_) (fun h76=>?_)
 ·exact absurd zC zG
 refine S.exit rfl<|S.seq<|S.seq<|S.region rfl<|O.q 1 rfl<|O.nil<|S.block<|S.unroll<|S.seq<|S.seq<|S.region rfl<|O.q 2 rfl<|O.op (.p rfl) (.len rfl underlying117 rfl)<|O.op (.p rfl) (.lss rfl rfl)<|O.nil ?_
 first|refine S.condD rfl (fun h126=>?_) (fun h126=>?_)|refine S.condB rfl (fun h126=>?_) (fun h126=>?_)
 ·exact absurd zC zG
 refine S.exit rfl<|S.seq<|S.seq<|S.region rfl<|O.q 1 rfl<|O.nil<|S.block<|S.unroll<|S.seq<|S.seq<|S.region rfl<|O.q 2 rfl<|O.op (.p rfl) (.len rfl underlying117 rfl)<|O.op (.p rfl) (.lss rfl rfl)<|O.nil ?_
 first|refine S.condD rfl (fun h155=>?_) (fun h155=>?_)|refine S.condB rfl (fun h155=>?_) (fun h155=>?_)
 ·exact absurd zC zG
 refine S.exit rfl<|S.seq<|S.region rfl<|O.q 1 rfl<|O.nil ?_;exact S.rt results181 rfl hR ⟨rfl,rfl⟩
theorem flatHeldRow_0 {r:Fr}:Con prog 182 #[.slice none 0 0] r [] (Ret fun v η=>v=.bool true∧η=[]):=by
 refine Con.of (n:=193) _ rfl func182 rfl rfl rfl fun g hg R hR=>?_;refine S.seq<|S.region rfl<|O.q 1 rfl<|O.nil<|S.seq<|S.seq<|S.region rfl<|O.q 1 rfl<|O.nil<|S.block<|S.unroll<|S.seq<|S.seq<|S.region rfl<|O.q 2 rfl<|O.op (.p rfl) (.len rfl underlying46 rfl)<|O.op (.p rfl) (.lss rfl rfl)<|O.nil ?_
 first|refine S.condD rfl (fun h19=>?_) (fun h19=>?_)|refine S.condB rfl (fun h19=>?_) (fun h19=>?_)
 ·exact absurd zC zG
 refine S.exit rfl<|S.seq<|S.region rfl<|O.q 1 rfl<|O.op (.p rfl) (.len rfl underlying46 rfl)<|O.opE (.p rfl) (.makeP (T:=Rp.val) (.slice none 0 0) (m:=0) underlying46 elem45 zF ⟨rfl,rfl⟩ rfl rfl rfl rfl zF zF) ?_;rintro _ _ ⟨a42,c42,rfl,rfl⟩;refine O.q 1 rfl<|O.nil<|S.seq<|S.seq<|S.region rfl<|O.q 1 rfl<|O.nil<|S.block<|S.unroll<|S.seq<|S.seq<|S.region rfl<|O.q 2 rfl<|O.op (.p rfl) (.len rfl underlying46 rfl)<|O.op (.p rfl) (.lss rfl rfl)<|O.nil ?_
 first|refine S.condD rfl (fun h46=>?_) (fun h46=>?_)|refine S.condB rfl (fun h46=>?_) (fun h46=>?_)
 ·exact absurd zC zG
 refine S.exit rfl<|S.seq<|S.seq<|S.region rfl<|O.q 1 rfl<|O.nil<|S.block<|S.unroll<|S.seq<|S.seq<|S.region rfl<|O.q 2 rfl<|O.op (.p rfl) (.len rfl underlying46 rfl)<|O.op (.p rfl) (.lss rfl rfl)<|O.nil ?_
 first|refine S.condD rfl (fun h76=>?_) (fun h76=>?_)|refine S.condB rfl (fun h76=>?_) (fun h76=>?_)
 ·exact absurd zC zG
 refine S.exit rfl<|S.seq<|S.seq<|S.region rfl<|O.q 1 rfl<|O.nil<|S.block<|S.unroll<|S.seq<|S.seq<|S.region rfl<|O.q 2 rfl<|O.op (.p rfl) (.len rfl underlying46 rfl)<|O.op (.p rfl) (.lss rfl rfl)<|O.nil ?_
 first|refine S.condD rfl (fun h126=>?_) (fun h126=>?_)|refine S.condB rfl (fun h126=>?_) (fun h126=>?_)
 ·exact absurd zC zG
 refine S.exit rfl<|S.seq<|S.seq<|S.region rfl<|O.q 1 rfl<|O.nil<|S.block<|S.unroll<|S.seq<|S.seq<|S.region rfl<|O.q 2 rfl<|O.op (.p rfl) (.len rfl underlying46 rfl)<|O.op (.p rfl) (.lss rfl rfl)<|O.nil ?_
 first|refine S.condD rfl (fun h155=>?_) (fun h155=>?_)|refine S.condB rfl (fun h155=>?_) (fun h155=>?_)
 ·exact absurd zC zG
 refine S.exit rfl<|S.seq<|S.region rfl<|O.q 1 rfl<|O.nil ?_;exact S.rt results182 rfl hR ⟨rfl,rfl⟩
theorem flatConfigs_0 {r:Fr}:Con prog 183 #[.slice none 0 0] r [] (Ret fun v η=>v=.bool true∧η=[]):=by
 refine Con.of (n:=193) _ rfl func183 rfl rfl rfl fun g hg R hR=>?_;refine S.seq<|S.region rfl<|O.q 1 rfl<|O.nil<|S.seq<|S.seq<|S.region rfl<|O.q 1 rfl<|O.nil<|S.block<|S.unroll<|S.seq<|S.seq<|S.region rfl<|O.q 2 rfl<|O.op (.p rfl) (.len rfl underlying118 rfl)<|O.op (.p rfl) (.lss rfl rfl)<|O.nil ?_
 first|refine S.condD rfl (fun h19=>?_) (fun h19=>?_)|refine S.condB rfl (fun h19=>?_) (fun h19=>?_)
 ·exact absurd zC zG
 refine S.exit rfl<|S.seq<|S.region rfl<|O.q 1 rfl<|O.op (.p rfl) (.len rfl underlying118 rfl)<|O.opE (.p rfl) (.makeP (T:=Rp.val) (.slice none 0 0) (m:=0) underlying118 elem306 zF ⟨rfl,rfl⟩ rfl rfl rfl rfl zF zF) ?_;rintro _ _ ⟨a42,c42,rfl,rfl⟩;refine O.q 1 rfl<|O.nil<|S.seq<|S.seq<|S.region rfl<|O.q 1 rfl<|O.nil<|S.block<|S.unroll<|S.seq<|S.seq<|S.region rfl<|O.q 2 rfl<|O.op (.p rfl) (.len rfl underlying118 rfl)<|O.op (.p rfl) (.lss rfl rfl)<|O.nil ?_
 first|refine S.condD rfl (fun h46=>?_) (fun h46=>?_)|refine S.condB rfl (fun h46=>?_) (fun h46=>?_)
 ·exact absurd zC zG
 refine S.exit rfl<|S.seq<|S.seq<|S.region rfl<|O.q 1 rfl<|O.nil<|S.block<|S.unroll<|S.seq<|S.seq<|S.region rfl<|O.q 2 rfl<|O.op (.p rfl) (.len rfl underlying118 rfl)<|O.op (.p rfl) (.lss rfl rfl)<|O.nil ?_
 first|refine S.condD rfl (fun h76=>?_) (fun h76=>?_)|refine S.condB rfl (fun h76=>?_) (fun h76=>?_)
 ·exact absurd zC zG
 refine S.exit rfl<|S.seq<|S.seq<|S.region rfl<|O.q 1 rfl<|O.nil<|S.block<|S.unroll<|S.seq<|S.seq<|S.region rfl<|O.q 2 rfl<|O.op (.p rfl) (.len rfl underlying118 rfl)<|O.op (.p rfl) (.lss rfl rfl)<|O.nil ?_
 first|refine S.condD rfl (fun h126=>?_) (fun h126=>?_)|refine S.condB rfl (fun h126=>?_) (fun h126=>?_)
 ·exact absurd zC zG
 refine S.exit rfl<|S.seq<|S.seq<|S.region rfl<|O.q 1 rfl<|O.nil<|S.block<|S.unroll<|S.seq<|S.seq<|S.region rfl<|O.q 2 rfl<|O.op (.p rfl) (.len rfl underlying118 rfl)<|O.op (.p rfl) (.lss rfl rfl)<|O.nil ?_
 first|refine S.condD rfl (fun h155=>?_) (fun h155=>?_)|refine S.condB rfl (fun h155=>?_) (fun h155=>?_)
 ·exact absurd zC zG
 refine S.exit rfl<|S.seq<|S.region rfl<|O.q 1 rfl<|O.nil ?_;exact S.rt results183 rfl hR ⟨rfl,rfl⟩
theorem flatSteps_0 {r:Fr}:Con prog 184 #[.slice none 0 0] r [] (Ret fun v η=>v=.bool true∧η=[]):=by
 refine Con.of (n:=193) _ rfl func184 rfl rfl rfl fun g hg R hR=>?_;refine S.seq<|S.region rfl<|O.q 1 rfl<|O.nil<|S.seq<|S.seq<|S.region rfl<|O.q 1 rfl<|O.nil<|S.block<|S.unroll<|S.seq<|S.seq<|S.region rfl<|O.q 2 rfl<|O.op (.p rfl) (.len rfl underlying119 rfl)<|O.op (.p rfl) (.lss rfl rfl)<|O.nil ?_
 first|refine S.condD rfl (fun h19=>?_) (fun h19=>?_)|refine S.condB rfl (fun h19=>?_) (fun h19=>?_)
 ·exact absurd zC zG
 refine S.exit rfl<|S.seq<|S.region rfl<|O.q 1 rfl<|O.op (.p rfl) (.len rfl underlying119 rfl)<|O.opE (.p rfl) (.makeP (T:=Rp.val) (.slice none 0 0) (m:=0) underlying119 elem311 zF ⟨rfl,rfl⟩ rfl rfl rfl rfl zF zF) ?_;rintro _ _ ⟨a42,c42,rfl,rfl⟩;refine O.q 1 rfl<|O.nil<|S.seq<|S.seq<|S.region rfl<|O.q 1 rfl<|O.nil<|S.block<|S.unroll<|S.seq<|S.seq<|S.region rfl<|O.q 2 rfl<|O.op (.p rfl) (.len rfl underlying119 rfl)<|O.op (.p rfl) (.lss rfl rfl)<|O.nil ?_
 first|refine S.condD rfl (fun h46=>?_) (fun h46=>?_)|refine S.condB rfl (fun h46=>?_) (fun h46=>?_)
 ·exact absurd zC zG
 refine S.exit rfl<|S.seq<|S.seq<|S.region rfl<|O.q 1 rfl<|O.nil<|S.block<|S.unroll<|S.seq<|S.seq<|S.region rfl<|O.q 2 rfl<|O.op (.p rfl) (.len rfl underlying119 rfl)<|O.op (.p rfl) (.lss rfl rfl)<|O.nil ?_
 first|refine S.condD rfl (fun h76=>?_) (fun h76=>?_)|refine S.condB rfl (fun h76=>?_) (fun h76=>?_)
 ·exact absurd zC zG
 refine S.exit rfl<|S.seq<|S.seq<|S.region rfl<|O.q 1 rfl<|O.nil<|S.block<|S.unroll<|S.seq<|S.seq<|S.region rfl<|O.q 2 rfl<|O.op (.p rfl) (.len rfl underlying119 rfl)<|O.op (.p rfl) (.lss rfl rfl)<|O.nil ?_
 first|refine S.condD rfl (fun h126=>?_) (fun h126=>?_)|refine S.condB rfl (fun h126=>?_) (fun h126=>?_)
 ·exact absurd zC zG
 refine S.exit rfl<|S.seq<|S.seq<|S.region rfl<|O.q 1 rfl<|O.nil<|S.block<|S.unroll<|S.seq<|S.seq<|S.region rfl<|O.q 2 rfl<|O.op (.p rfl) (.len rfl underlying119 rfl)<|O.op (.p rfl) (.lss rfl rfl)<|O.nil ?_
 first|refine S.condD rfl (fun h155=>?_) (fun h155=>?_)|refine S.condB rfl (fun h155=>?_) (fun h155=>?_)
 ·exact absurd zC zG
 refine S.exit rfl<|S.seq<|S.region rfl<|O.q 1 rfl<|O.nil ?_;exact S.rt results184 rfl hR ⟨rfl,rfl⟩
theorem flatTales_0 {r:Fr}:Con prog 185 #[.slice none 0 0] r [] (Ret fun v η=>v=.bool true∧η=[]):=by
 refine Con.of (n:=193) _ rfl func185 rfl rfl rfl fun g hg R hR=>?_;refine S.seq<|S.region rfl<|O.q 1 rfl<|O.nil<|S.seq<|S.seq<|S.region rfl<|O.q 1 rfl<|O.nil<|S.block<|S.unroll<|S.seq<|S.seq<|S.region rfl<|O.q 2 rfl<|O.op (.p rfl) (.len rfl underlying120 rfl)<|O.op (.p rfl) (.lss rfl rfl)<|O.nil ?_
 first|refine S.condD rfl (fun h19=>?_) (fun h19=>?_)|refine S.condB rfl (fun h19=>?_) (fun h19=>?_)
 ·exact absurd zC zG
 refine S.exit rfl<|S.seq<|S.region rfl<|O.q 1 rfl<|O.op (.p rfl) (.len rfl underlying120 rfl)<|O.opE (.p rfl) (.makeP (T:=Rp.val) (.slice none 0 0) (m:=0) underlying120 elem317 zF ⟨rfl,rfl⟩ rfl rfl rfl rfl zF zF) ?_;rintro _ _ ⟨a42,c42,rfl,rfl⟩;refine O.q 1 rfl<|O.nil<|S.seq<|S.seq<|S.region rfl<|O.q 1 rfl<|O.nil<|S.block<|S.unroll<|S.seq<|S.seq<|S.region rfl<|O.q 2 rfl<|O.op (.p rfl) (.len rfl underlying120 rfl)<|O.op (.p rfl) (.lss rfl rfl)<|O.nil ?_
 first|refine S.condD rfl (fun h46=>?_) (fun h46=>?_)|refine S.condB rfl (fun h46=>?_) (fun h46=>?_)
 ·exact absurd zC zG
 refine S.exit rfl<|S.seq<|S.seq<|S.region rfl<|O.q 1 rfl<|O.nil<|S.block<|S.unroll<|S.seq<|S.seq<|S.region rfl<|O.q 2 rfl<|O.op (.p rfl) (.len rfl underlying120 rfl)<|O.op (.p rfl) (.lss rfl rfl)<|O.nil ?_
 first|refine S.condD rfl (fun h76=>?_) (fun h76=>?_)|refine S.condB rfl (fun h76=>?_) (fun h76=>?_)
 ·exact absurd zC zG
 refine S.exit rfl<|S.seq<|S.seq<|S.region rfl<|O.q 1 rfl<|O.nil<|S.block<|S.unroll<|S.seq<|S.seq<|S.region rfl<|O.q 2 rfl<|O.op (.p rfl) (.len rfl underlying120 rfl)<|O.op (.p rfl) (.lss rfl rfl)<|O.nil ?_
 first|refine S.condD rfl (fun h126=>?_) (fun h126=>?_)|refine S.condB rfl (fun h126=>?_) (fun h126=>?_)
 ·exact absurd zC zG
 refine S.exit rfl<|S.seq<|S.seq<|S.region rfl<|O.q 1 rfl<|O.nil<|S.block<|S.unroll<|S.seq<|S.seq<|S.region rfl<|O.q 2 rfl<|O.op (.p rfl) (.len rfl underlying120 rfl)<|O.op (.p rfl) (.lss rfl rfl)<|O.nil ?_
 first|refine S.condD rfl (fun h155=>?_) (fun h155=>?_)|refine S.condB rfl (fun h155=>?_) (fun h155=>?_)
 ·exact absurd zC zG
 refine S.exit rfl<|S.seq<|S.region rfl<|O.q 1 rfl<|O.nil ?_;exact S.rt results185 rfl hR ⟨rfl,rfl⟩
end Go.Proofs.YtodhbhanmdfdeaaGreat
