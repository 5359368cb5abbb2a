/- Texts of this proof. -/
import Derived.Test.YtodhbhanmdfdeaaGreatQFc
import Derived.Test.YtodhbhanmdfdeaaGreatQSpGo
open Go Go.Sp Go.Proofs.Tryz
set_option maxRecDepth 100000
namespace Go.Proofs.YtodhbhanmdfdeaaGreat

end Go.Proofs.YtodhbhanmdfdeaaGreat
