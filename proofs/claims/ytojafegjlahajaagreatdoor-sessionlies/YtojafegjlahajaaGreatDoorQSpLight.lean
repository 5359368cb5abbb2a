/- Texts of this proof. -/
import Derived.Test.YtojafegjlahajaaGreatDoorQSpLoop
namespace Go.Sp
def mR (l:List aG) (i:Nat):Nat:=((l.take i).map fun x=>min x.2.1.length 100+x.1.length / 20).sum
theorem SZ (l:List aG):mR l 0=0:=rfl
theorem EI {l:List aG} {i:Nat} (h:i<l.length):mR l (i+1)=mR l i+min l[i].2.1.length 100+l[i].1.length / 20:=by
 unfold mR;rw [List.take_succ_eq_append_getElem h,List.map_append,List.sum_append]
 simp;omega
theorem S0 {l:List aG} {i j:Nat} (h:i≤j) (hj:j≤l.length):mR l i≤mR l j:=by
 induction j with
 |zero =>
  have:i=0:=by omega
  subst this;exact Nat.le_refl _
 |succ j ih =>
  by_cases e:i=j+1
  ·rw [e];exact Nat.le_refl _
  ·have:=ih (by omega) (by omega)
   rw [EI (by omega)];omega
def A9 (x:aP):Prop:=x.1.length≤200∧x.2.2.2.2.2.1.length≤2000∧x.2.2.2.1.length≤50∧x.2.2.2.2.2.2.1.length≤200
def Gf (l:List aG):Prop:=l.length≤20∧mR l l.length≤60∧∀ x∈l,x.1.length≤1300∧x.2.1.length≤60∧∀ y∈x.2.1,A9 y
def xZ (l:List aG) (i:Nat):Prop:=∀ j (h:j<l.length),j<i→∀ k (hk:k<l[j].2.1.length),k<100→A9 l[j].2.1[k]
theorem S1 (l:List aG):xZ l 0:=fun _ _ h=>absurd h (Nat.not_lt_zero _)
theorem S2 {l:List aG} {i:Nat} (hi:i<l.length) (h:xZ l i) (q:∀ k (hk:k<l[i].2.1.length),k<100→A9 l[i].2.1[k]):xZ l (i+1):=fun j hj hji k hk oh=>by
 by_cases e:j=i
 ·subst e;exact q k hk oh
 ·exact h j hj (by omega) k hk oh
theorem S3 {l:List aG} (h1:l.length≤20) (h2:mR l l.length≤60) (h:xZ l l.length):Gf l:=by
 refine ⟨h1,h2,fun x hx=>?_⟩;obtain ⟨i,hi,rfl⟩:=List.getElem_of_mem hx;have a:=EI hi;have b:=S0 (l:=l) (i:=i+1) (j:=l.length) (by omega) (Nat.le_refl _);have c:l[i].2.1.length≤60:=by omega
 refine ⟨by omega,c,fun y hy=>?_⟩;obtain ⟨k,hk,rfl⟩:=List.getElem_of_mem hy;exact h i hi hi k hk (by omega)
end Go.Sp
