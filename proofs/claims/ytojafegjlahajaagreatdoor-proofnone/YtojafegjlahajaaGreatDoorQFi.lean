/- Texts of this proof. -/
import Derived.Test.YtojafegjlahajaaGreatDoorQFc
import Derived.Test.YtojafegjlahajaaGreatDoorQSpGo
open Go Go.Sp Go.Proofs.Tryz
set_option maxRecDepth 100000
namespace Go.Proofs.YtojafegjlahajaaGreatDoor

end Go.Proofs.YtojafegjlahajaaGreatDoor
