/- Texts of this proof. -/
import Derived.Test.YtojafegjlahajaaGreatDoorQSpGo
namespace Go.Sp
def lightN (l:List LeafT) (i:Nat):Nat:=((l.take i).map fun x=>min x.2.1.length 100+x.1.length / 20).sum
theorem lightN_0 (l:List LeafT):lightN l 0=0:=rfl
theorem lightN_succ {l:List LeafT} {i:Nat} (h:i<l.length):lightN l (i+1)=lightN l i+min l[i].2.1.length 100+l[i].1.length / 20:=by
 unfold lightN;rw [List.take_succ_eq_append_getElem h,List.map_append,List.sum_append]
 simp;omega
theorem lightN_le {l:List LeafT} {i j:Nat} (h:i≤j) (hj:j≤l.length):lightN l i≤lightN l j:=by
 induction j with
 |zero =>
  have:i=0:=by omega
  subst this;exact Nat.le_refl _
 |succ j ih =>
  by_cases e:i=j+1
  ·rw [e];exact Nat.le_refl _
  ·have:=ih (by omega) (by omega)
   rw [lightN_succ (by omega)];omega
def smallR (x:RecT):Prop:=x.1.length≤200∧x.2.2.2.2.2.1.length≤2000∧x.2.2.2.1.length≤50∧x.2.2.2.2.2.2.1.length≤200
def LightOk (l:List LeafT):Prop:=l.length≤20∧lightN l l.length≤60∧∀ x∈l,x.1.length≤1300∧x.2.1.length≤60∧∀ y∈x.2.1,smallR y
def lightTo (l:List LeafT) (i:Nat):Prop:=∀ j (h:j<l.length),j<i→∀ k (hk:k<l[j].2.1.length),k<100→smallR l[j].2.1[k]
theorem lightTo_0 (l:List LeafT):lightTo l 0:=fun _ _ h=>absurd h (Nat.not_lt_zero _)
theorem lightTo_succ {l:List LeafT} {i:Nat} (hi:i<l.length) (h:lightTo l i) (q:∀ k (hk:k<l[i].2.1.length),k<100→smallR l[i].2.1[k]):lightTo l (i+1):=fun j hj hji k hk hk1=>by
 by_cases e:j=i
 ·subst e;exact q k hk hk1
 ·exact h j hj (by omega) k hk hk1
theorem light_done {l:List LeafT} (h1:l.length≤20) (h2:lightN l l.length≤60) (h:lightTo l l.length):LightOk l:=by
 refine ⟨h1,h2,fun x hx=>?_⟩;obtain ⟨i,hi,rfl⟩:=List.getElem_of_mem hx;have a:=lightN_succ hi;have b:=lightN_le (l:=l) (i:=i+1) (j:=l.length) (by omega) (Nat.le_refl _);have c:l[i].2.1.length≤60:=by omega
 refine ⟨by omega,c,fun y hy=>?_⟩;obtain ⟨k,hk,rfl⟩:=List.getElem_of_mem hy;exact h i hi hi k hk (by omega)
end Go.Sp
