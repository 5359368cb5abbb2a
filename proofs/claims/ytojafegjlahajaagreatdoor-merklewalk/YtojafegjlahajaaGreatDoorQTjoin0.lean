/- Texts of this proof. -/
import Derived.Test.YtojafegjlahajaaGreatDoorQGet3
import Derived.Test.YtojafegjlahajaaGreatDoorQJoin3
import Derived.Test.YtojafegjlahajaaGreatDoorQSpTreeW
open Go Go.Sp Go.Proofs.Tryz
set_option maxRecDepth 100000
set_option maxHeartbeats 1000000
attribute [local irreducible] obj Own OwnP
namespace Go.Proofs.YtojafegjlahajaaGreatDoor
abbrev tys:Tys:=⟨5,3,24,191,102,31,0,27,0,0,0,0,0⟩
abbrev tt:TTys:=⟨77,31,9⟩
theorem recG_sat {x:RecT} {v3 v5 v6:Value} {m:Fr} (h:recOk x=true) (hs:Sat (recWs x v3 v5 v6) m):(RecG tys).own (recV x v3 v5 v6) x m:=by
 have h1:=shaped_iff.1 (recOk_iff.1 h).1;have hd:=dotOk_iff.1 h1.2.2.1;simp only [rDot] at hd;exact RecG.mk zB ⟨by omega,by omega⟩ ⟨by omega,by omega⟩ hs
end Go.Proofs.YtojafegjlahajaaGreatDoor
