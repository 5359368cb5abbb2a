/- Texts of this proof. -/
import Derived.Test.YtojafegjlahajaaGreatDoorQSpPut
open Go
namespace Go.Sp
theorem Fx:gJ []:=⟨Nat.zero_le _,fun c hc=>by cases hc⟩
end Go.Sp
