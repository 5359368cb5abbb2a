/- Texts of this proof. -/
import Derived.Test.YtodhbhanmdfdeaaGreatQSpSib
import Derived.Test.YtodhbhanmdfdeaaGreatQSpExt
import Derived.Test.YtodhbhanmdfdeaaGreatQSpTry
namespace Go.Sp
section
variable {P:Program} {fn:Func} {n:Nat} {R:Ending→World→Prop} {ro:Option Nat} {σ:List (Nat × Value)} {D:List Deferred} {g:Gr} {η:List SProp}
theorem S.keep {todo:List Item} (θ:List SProp) (hp:Picks η θ) (h:S ro P fn n R todo σ D g θ):S ro P fn n R todo σ D g η:=fun a w hf hd hw=>h a w hf hd (hw.picks hp)
end
theorem mem_take_succ {α:Type} {l:List α} {i:Nat} (hi:i<l.length) {p:α→Prop} (h:∀ x∈l.take i,p x) (h' :p l[i]):∀ x∈l.take (i+1),p x:=fun x hx=>by
 rw [List.take_succ_eq_append_getElem hi,List.mem_append,List.mem_singleton] at hx
 rcases hx with hx|rfl
 ·exact h x hx
 ·exact h'
end Go.Sp
