/- Texts of this proof. -/
import Derived.Test.YtojafegjlahajaaGreatDoorQSpGo
namespace Go.Sp
def mR (l:List aD) (i:Nat):Nat:=((l.take i).map fun x=>min x.2.1.length 100+x.1.length / 20).sum
theorem Tu (l:List aD):mR l 0=0:=rfl
theorem E6 {l:List aD} {i:Nat} (h:i<l.length):mR l (i+1)=mR l i+min l[i].2.1.length 100+l[i].1.length / 20:=by
 unfold mR;rw [List.take_succ_eq_append_getElem h,List.map_append,List.sum_append]
 simp;omega
theorem Tv {l:List aD} {i j:Nat} (h:i≤j) (hj:j≤l.length):mR l i≤mR l j:=by
 induction j with
 |zero =>
  have:i=0:=by omega
  subst this;exact Nat.le_refl _
 |succ j ih =>
  by_cases e:i=j+1
  ·rw [e];exact Nat.le_refl _
  ·have:=ih (by omega) (by omega)
   rw [E6 (by omega)];omega
def Bg (x:aP):Prop:=x.1.length≤200∧x.2.2.2.2.2.1.length≤2000∧x.2.2.2.1.length≤50∧x.2.2.2.2.2.2.1.length≤200
def GC (l:List aD):Prop:=l.length≤20∧mR l l.length≤60∧∀ x∈l,x.1.length≤1300∧x.2.1.length≤60∧∀ y∈x.2.1,Bg y
def x3 (l:List aD) (i:Nat):Prop:=∀ j (h:j<l.length),j<i→∀ k (hk:k<l[j].2.1.length),k<100→Bg l[j].2.1[k]
theorem Tw (l:List aD):x3 l 0:=fun _ _ h=>absurd h (Nat.not_lt_zero _)
theorem Tx {l:List aD} {i:Nat} (hi:i<l.length) (h:x3 l i) (q:∀ k (hk:k<l[i].2.1.length),k<100→Bg l[i].2.1[k]):x3 l (i+1):=fun j hj hji k hk ot=>by
 by_cases e:j=i
 ·subst e;exact q k hk ot
 ·exact h j hj (by omega) k hk ot
theorem Ty {l:List aD} (h1:l.length≤20) (h2:mR l l.length≤60) (h:x3 l l.length):GC l:=by
 refine ⟨h1,h2,fun x hx=>?_⟩;obtain ⟨i,hi,rfl⟩:=List.getElem_of_mem hx;have a:=E6 hi;have b:=Tv (l:=l) (i:=i+1) (j:=l.length) (by omega) (Nat.le_refl _);have c:l[i].2.1.length≤60:=by omega
 refine ⟨by omega,c,fun y hy=>?_⟩;obtain ⟨k,hk,rfl⟩:=List.getElem_of_mem hy;exact h i hi hi k hk (by omega)
end Go.Sp
