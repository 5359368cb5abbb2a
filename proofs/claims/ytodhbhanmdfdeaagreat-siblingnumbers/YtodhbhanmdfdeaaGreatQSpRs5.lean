/- Texts of this proof. -/
import Derived.Test.YtodhbhanmdfdeaaGreatQSpRs3
namespace Go.Sp
theorem sGet_size {b:List UInt8} (hb:b.length≤1000000000):8*((sGet b).getD []).length≤b.length:=by
 cases e:sGet b with
 |none=>exact Nat.zero_le _
 |some l =>
  obtain ⟨_,h⟩:=(sGet_iff (by omega)).1 e;have h1:=sRows_min l;have h2:=congrArg List.length h;simp only [sB,List.length_append] at h2;simp only [Option.getD_some]
  omega
end Go.Sp
