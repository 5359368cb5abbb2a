/- Texts of this proof. -/
import Derived.Test.YtodhbhanmdfdeaaGreatQSib4
import Derived.Test.YtodhbhanmdfdeaaGreatQSpExt
open Go Go.Sp Go.Proofs.Tryz
set_option maxRecDepth 100000
set_option maxHeartbeats 1000000
attribute [local irreducible] obj Own OwnP
namespace Go.Proofs.YtodhbhanmdfdeaaGreat
theorem bcompare_c {r:Fr} {va vb:Value} {xs ys:List UInt8} (ha:Arr Rp.u8 r va xs) (hb:Arr Rp.u8 r vb ys):Con prog 209 #[va,vb] r [] (Ret fun v η=>v=.int .i64 (Lib.compareBytes xs ys)∧η=[]):=by
 refine Con.o func209 fun g hg R hR=>?_;have ha:=ha.mono hg;have hb:=hb.mono hg;obtain ⟨a1,c1,rfl⟩:=ha.shape;obtain ⟨a2,c2,rfl⟩:=hb.shape;refine zz 8 ?_;refine O.op (.p rfl) (.compareExt func282 zC rfl zC zC rfl rfl rfl ha hb) ?_;refine zz 2 ?_;exact S.rt results209 rfl hR ⟨rfl,rfl⟩
end Go.Proofs.YtodhbhanmdfdeaaGreat
