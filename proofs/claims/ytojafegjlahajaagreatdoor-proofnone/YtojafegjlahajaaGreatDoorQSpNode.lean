/- Texts of this proof, one behind the other. -/
import Derived.Test.YtojafegjlahajaaGreatDoorQSpLaid
section
/- Texts of this proof. -/
namespace Go.Sp
def keyOk (s:List UInt8):Prop:=1≤s.length∧s.length≤64
def pathOk (s:List UInt8):Prop:=s.length≤510∧∀ c∈s,c=48∨c=49
def keysRise {α:Type} (key:α→List UInt8) (l:List α):Prop:=∀ i (h:i<l.length),0<i→key (l[i - 1]'(by omega))<key l[i]
def leafOk (x:LeafT):Prop:=keyOk x.1∧SRight x.2.1∧∃ h:0<x.2.1.length,x.2.1[0].1=x.1
def nodeOk (n:NodeT):Prop:=((∀ x∈n.2.2.2.1,leafOk x)∧keysRise (·.1) n.2.2.2.1)∧(n.1=1∧n.2.1=[]∧n.2.2.1=[]∧n.2.2.2.1=[]∨n.1=2∧n.2.1=[]∧n.2.2.1=[]∧n.2.2.2.1.length=1∨n.1=3∧n.2.1.length=64∧n.2.2.1.length=64∧n.2.2.2.1=[]∨n.1=4∧n.2.1=[]∧n.2.2.1=[]∧2≤n.2.2.2.1.length)
def stubOk (s:StubT):Prop:=keyOk s.1∧s.2.1.length=64
def prfOk (p:PrfT):Prop:=(p.1.length≤510∧(1<p.2.1.length→p.1.length=510))∧(∀ x∈p.1,x.length=64)∧(∀ x∈p.2.1,stubOk x)∧keysRise (·.1) p.2.1
noncomputable instance (s:List UInt8):Decidable (keyOk s):=Classical.propDecidable _
noncomputable instance (s:List UInt8):Decidable (pathOk s):=Classical.propDecidable _
noncomputable instance (n:NodeT):Decidable (nodeOk n):=Classical.propDecidable _
noncomputable instance (p:PrfT):Decidable (prfOk p):=Classical.propDecidable _
end Go.Sp
end
section
/- Texts of this proof. -/
open Go
namespace Go.Sp
def ofK (s:List UInt8) (l:List RecT):Prop:=SRight l∧∀ h:0<l.length,l[0].1=s
noncomputable instance (s:List UInt8) (l:List RecT):Decidable (ofK s l):=Classical.propDecidable _
noncomputable def setD (l:List RecT):List UInt8:=if SRight l then shaSum (5::sB l) else []
theorem setD_y {l:List RecT} (h:SRight l):setD l=shaSum (5::sB l):=by unfold setD;rw [if_pos h]
theorem setD_len (l:List RecT):(setD l).length≤64:=by unfold setD;split;rw [shaSum_len];exact Nat.le_refl _;exact Nat.zero_le _
theorem setD_yes {l:List RecT} (h:SRight l):(setD l).length=64:=by rw [setD_y h,shaSum_len]
def nodeTag (k:UInt8):UInt8:=[0,0,1,2,3].getD k.toNat 0
noncomputable def leafParts (l:List LeafT):List (List UInt8):=(l.map fun y=>[bytesOf y.1,setD y.2.1]).flatten
noncomputable def nodeParts (x:NodeT):List (List UInt8):=[[nodeTag x.1],x.2.1,x.2.2.1]++leafParts x.2.2.2.1
noncomputable def nodeSumP (x:NodeT):List UInt8:=if nodeOk x then shaSum (nodeParts x).flatten else []
theorem nodeSumY {x:NodeT} (h:nodeOk x):nodeSumP x=shaSum (nodeParts x).flatten:=by unfold nodeSumP;rw [if_pos h]
theorem nodeSumN {x:NodeT} (h:¬ nodeOk x):nodeSumP x=[]:=by unfold nodeSumP;rw [if_neg h]
theorem nodeSum_64 (x:NodeT):(nodeSumP x).length=64↔nodeOk x:=by
 by_cases h:nodeOk x
 ·rw [nodeSumY h,shaSum_len];exact ⟨fun _=>h,fun _=>rfl⟩
 ·rw [nodeSumN h];exact ⟨fun w=>absurd w (by decide),fun w=>absurd w h⟩
theorem leafParts_snoc {l:List LeafT} {k:Nat} (h:k<l.length):leafParts (l.take k)++[bytesOf l[k].1,setD l[k].2.1]=leafParts (l.take (k+1)):=by
 rw [List.take_succ_eq_append_getElem h];unfold leafParts;rw [List.map_append,List.flatten_append];simp
theorem leafParts_sum:∀ l:List LeafT,(∀ y∈l,y.1.length≤64)→(leafParts l).flatten.length≤136*l.length
 |[],_=>Nat.zero_le _
 |y::l,h=>by
  have:=leafParts_sum l fun z hz=>h z (by simp [hz]);have h1:=h y (by simp);have h2:=setD_len y.2.1;unfold leafParts at *;simp only [List.map_cons,List.flatten_cons,List.flatten_append,List.length_append,List.length_cons,List.flatten_nil,List.length_nil,bytesOf_length];omega
theorem node_kind {x:NodeT} (h:nodeOk x):x.1.toNat<5:=by
 rcases h.2 with h|h|h|h<;>(rw [h.1];decide)
end Go.Sp
end
