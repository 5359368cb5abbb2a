/- Texts of this proof, one behind the other. -/
import Derived.Test.YtojafegjlahajaaGreatDoorQSpJoin
section
/- Texts of this proof. -/
namespace Go.Sp
theorem M5 {x y:aP} (h:dQ x y=0):dQ y x=0:=by rw [lg] at h ⊢;omega
end Go.Sp
end
section
/- Texts of this proof. -/
namespace Go.Sp
theorem Vs {l:List aP} (h:pZ l) {x y:aP} (hx:x∈l) (hy:y∈l) (e:dQ x y=0):x=y:=by
 obtain ⟨i,hi,rfl⟩:=List.mem_iff_getElem.1 hx;obtain ⟨j,hj,rfl⟩:=List.mem_iff_getElem.1 hy;have hp:=List.pairwise_iff_getElem.1 h
 rcases Nat.lt_trichotomy i j with c|c|c
 ·have:=hp i j hi hj c;omega
 ·subst c;rfl
 ·have h1:=hp j i hj hi c
  have h2:=M5 e
  omega
theorem Vr {l:List aP} (h:∀ j (hj:j<l.length),∀ h0:0<j,dQ l[j-1] l[j]<0):pZ l:=by
 refine List.pairwise_iff_getElem.2 fun i j hi hj hij=>?_;have key:∀ d (hd:i+1+d<l.length),dQ l[i] l[i+1+d]<0:=by
  intro d
  induction d with
  |zero=>intro hd;exact h (i+1) hd (by omega)
  |succ d ih=>intro hd;exact G6 (ih (by omega)) (h (i+1+(d+1)) hd (by omega))
 have:=key (j - (i+1)) (by omega);have e:i+1+(j - (i+1))=j:=by omega
 simpa only [e] using this
theorem Sv {l:List aP} (ho:∀ x∈l,ee x=true):∀ x∈jo l,x∈l:=fun _ hx=>((xV ho).1 hx).1.1
theorem TI {l m:List aP} (h:gP l=true) (hs:∀ x∈m,x∈l):gP m=true:=by
 have key:∀ {l:List aP},gP l=true→∀ x∈l,∀ y∈l,x.1=y.1:=fun {l} h x hx y hy=>by
  rw [vQ] at h;obtain ⟨i,hi,rfl⟩:=List.mem_iff_getElem.1 hx;obtain ⟨j,hj,rfl⟩:=List.mem_iff_getElem.1 hy;rw [(h i hi).2,(h j hj).2]
 rw [vQ]
 intro i hi
 exact ⟨q7 h _ (hs _ (List.getElem_mem _)),key h _ (hs _ (List.getElem_mem _)) _ (hs _ (List.getElem_mem _))⟩
theorem Su {a:List aP} (h:fJ a):jo (a++a)=a:=by
 have ho:=q7 h.1;have hr:pZ a:=Vr fun j hj h0=>(h.2 j hj).1 h0;refine (St (fun x hx=>ho x (by simpa using hx)) hr fun x=>?_).symm;rw [Ab (l' :=a) fun z=>by simp];have hm:∀ {x},x∈a→r5 a x:=fun {x} hx=>⟨hx,fun y hy hq=>by rw [Vs hr hx hy hq];exact List.lt_irrefl _⟩;refine ⟨fun hx=>⟨hm hx,fun y hy hq=>?_⟩,fun q=>q.1.1⟩;obtain ⟨j,hj,rfl⟩:=List.mem_iff_getElem.1 hx;have h1:=(h.2 j hj).2;unfold iq at h1;rw [List.any_eq_false] at h1;have h2:=h1 y hy.1;rw [Bool.and_eq_true,decide_eq_true_iff] at h2;exact Bool.eq_false_iff.2 fun q=>h2 ⟨hq,q⟩
end Go.Sp
end
