/- Texts of this proof. -/
import Derived.Test.YtojafegjlahajaaGreatDoorQSpLoop
namespace Go.Sp
def mD (l:List aH) (i:Nat):Nat:=((l.take i).map fun x=>min x.2.1.length 100+x.1.length / 20).sum
theorem Ru (l:List aH):mD l 0=0:=rfl
theorem D0 {l:List aH} {i:Nat} (h:i<l.length):mD l (i+1)=mD l i+min l[i].2.1.length 100+l[i].1.length / 20:=by
 unfold mD;rw [List.take_succ_eq_append_getElem h,List.map_append,List.sum_append]
 simp;omega
theorem Rv {l:List aH} {i j:Nat} (h:i≤j) (hj:j≤l.length):mD l i≤mD l j:=by
 induction j with
 |zero =>
  have:i=0:=by omega
  subst this;exact Nat.le_refl _
 |succ j ih =>
  by_cases e:i=j+1
  ·rw [e];exact Nat.le_refl _
  ·have:=ih (by omega) (by omega)
   rw [D0 (by omega)];omega
def Az (x:aQ):Prop:=x.1.length≤200∧x.2.2.2.2.2.1.length≤2000∧x.2.2.2.1.length≤50∧x.2.2.2.2.2.2.1.length≤200
def Fu (l:List aH):Prop:=l.length≤20∧mD l l.length≤60∧∀ x∈l,x.1.length≤1300∧x.2.1.length≤60∧∀ y∈x.2.1,Az y
def xx (l:List aH) (i:Nat):Prop:=∀ j (h:j<l.length),j<i→∀ k (hk:k<l[j].2.1.length),k<100→Az l[j].2.1[k]
theorem Rw (l:List aH):xx l 0:=fun _ _ h=>absurd h (Nat.not_lt_zero _)
theorem Rx {l:List aH} {i:Nat} (hi:i<l.length) (h:xx l i) (q:∀ k (hk:k<l[i].2.1.length),k<100→Az l[i].2.1[k]):xx l (i+1):=fun j hj hji k hk nX=>by
 by_cases e:j=i
 ·subst e;exact q k hk nX
 ·exact h j hj (by omega) k hk nX
theorem Ry {l:List aH} (h1:l.length≤20) (h2:mD l l.length≤60) (h:xx l l.length):Fu l:=by
 refine ⟨h1,h2,fun x hx=>?_⟩;obtain ⟨i,hi,rfl⟩:=List.getElem_of_mem hx;have a:=D0 hi;have b:=Rv (l:=l) (i:=i+1) (j:=l.length) (by omega) (Nat.le_refl _);have c:l[i].2.1.length≤60:=by omega
 refine ⟨by omega,c,fun y hy=>?_⟩;obtain ⟨k,hk,rfl⟩:=List.getElem_of_mem hy;exact h i hi hi k hk (by omega)
end Go.Sp
