/- Texts of this proof. -/
import Derived.Test.YtodhbhanmdfdeaaGreatQSpSib
import Derived.Test.YtodhbhanmdfdeaaGreatQSpExt
import Derived.Test.YtodhbhanmdfdeaaGreatQSpTry
namespace Go.Sp
section
variable {P:Program} {fn:Func} {n:Nat} {R:Ending→World→Prop} {ro:Option Nat} {σ:List (Nat × Value)} {D:List Deferred} {g:Gr} {η:List SProp}
theorem S.keep {todo:List Item} (θ:List SProp) (hp:Picks η θ) (h:S ro P fn n R todo σ D g θ):S ro P fn n R todo σ D g η:=fun a w hf hd hw=>h a w hf hd (hw.picks hp)
end
def recN (x:RecT):Nat:=1+x.2.2.2.1.length+(x.1.length+x.2.2.2.2.2.1.length+x.2.2.2.2.2.2.1.length) / 8
def big:Nat:=140737488351232
def RecsC (n:Nat) (l:List RecT):Prop:=l.length≤n∧∀ x∈l,recN x≤n
theorem RecsC.mono {n m:Nat} {l:List RecT} (hm:n≤m) (h:RecsC n l):RecsC m l:=⟨by have:=h.1;omega,fun x hx=>by have:=h.2 x hx;omega⟩
theorem mem_take_succ {α:Type} {l:List α} {i:Nat} (hi:i<l.length) {p:α→Prop} (h:∀ x∈l.take i,p x) (h' :p l[i]):∀ x∈l.take (i+1),p x:=fun x hx=>by
 rw [List.take_succ_eq_append_getElem hi,List.mem_append,List.mem_singleton] at hx
 rcases hx with hx|rfl
 ·exact h x hx
 ·exact h'
theorem recN_le {x:RecT} (h:RecOk big x):recN x≤3*big:=by
 obtain ⟨h0,h1,h2,h3⟩:=h;unfold recN big at *
 omega
end Go.Sp
