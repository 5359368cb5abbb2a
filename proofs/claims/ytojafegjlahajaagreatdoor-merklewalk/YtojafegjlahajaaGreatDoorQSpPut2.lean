/- Texts of this proof. -/
import Derived.Test.YtojafegjlahajaaGreatDoorQSpCmp
open Go
namespace Go.Sp
def LApart (l:List LeafT):Prop:=l.Pairwise fun a b=>a.1≠b.1
theorem LRise.apart {l:List LeafT} (h:LRise l):LApart l:=h.imp fun q e=>by rw [e] at q;exact List.lt_irrefl _ q
theorem putsL_take {L l:List LeafT} {i:Nat} (hi:i<l.length):putsL L (l.take (i+1))=putL (putsL L (l.take i)) l[i]:=by
 rw [List.take_succ_eq_append_getElem hi,putsL,List.foldl_append];rfl
end Go.Sp
