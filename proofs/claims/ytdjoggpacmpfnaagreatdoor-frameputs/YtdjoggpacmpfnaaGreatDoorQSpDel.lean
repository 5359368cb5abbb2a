/- Texts of this proof. -/
import Derived.Test.YtdjoggpacmpfnaaGreatDoorQSpGo
namespace Go.Sp
section
variable {ro:Option Nat} {P:Program} {fn:Func} {n:Nat} {R:Ending→World→Prop} {k:List Item} {σ:List (Nat × Value)} {D:List Deferred} {g:bp} {aa ζ cL:List az} {ops:Array Oper} {i d:Nat} {ls:List Nat}
 {t e:TypeId} {x y z u:Operand} {w:World} {a:Option Addr} {m c s:Nat} {p q r:Nat} {rY ky ahp:IntKind}
end
end Go.Sp
