/- Texts of this proof, one behind the other. -/
import Derived.Test.YtojafegjlahajaaGreatDoorQSpJoin
section
/- Texts of this proof. -/
namespace Go.Sp
theorem Ns {x y:aP} (h:dU x y=0):dU y x=0:=by rw [k_] at h ⊢;omega
end Go.Sp
end
section
/- Texts of this proof. -/
namespace Go.Sp
theorem V7 {l:List aP} (h:p0 l) {x y:aP} (hx:x∈l) (hy:y∈l) (e:dU x y=0):x=y:=by
 obtain ⟨i,hi,rfl⟩:=List.mem_iff_getElem.1 hx;obtain ⟨j,hj,rfl⟩:=List.mem_iff_getElem.1 hy;have hp:=List.pairwise_iff_getElem.1 h
 rcases Nat.lt_trichotomy i j with c|c|c
 ·have:=hp i j hi hj c;omega
 ·subst c;rfl
 ·have h1:=hp j i hj hi c
  have h2:=Ns e
  omega
theorem V6 {l:List aP} (h:∀ j (hj:j<l.length),∀ h0:0<j,dU l[j-1] l[j]<0):p0 l:=by
 refine List.pairwise_iff_getElem.2 fun i j hi hj hij=>?_;have key:∀ d (hd:i+1+d<l.length),dU l[i] l[i+1+d]<0:=by
  intro d
  induction d with
  |zero=>intro hd;exact h (i+1) hd (by omega)
  |succ d ih=>intro hd;exact Hz (ih (by omega)) (h (i+1+(d+1)) hd (by omega))
 have:=key (j - (i+1)) (by omega);have e:i+1+(j - (i+1))=j:=by omega
 simpa only [e] using this
theorem S3 {l:List aP} (ho:∀ x∈l,ej x=true):∀ x∈jl l,x∈l:=fun _ hx=>((xX ho).1 hx).1.1
theorem Uf {l m:List aP} (h:gI l=true) (hs:∀ x∈m,x∈l):gI m=true:=by
 have key:∀ {l:List aP},gI l=true→∀ x∈l,∀ y∈l,x.1=y.1:=fun {l} h x hx y hy=>by
  rw [vR] at h;obtain ⟨i,hi,rfl⟩:=List.mem_iff_getElem.1 hx;obtain ⟨j,hj,rfl⟩:=List.mem_iff_getElem.1 hy;rw [(h i hi).2,(h j hj).2]
 rw [vR]
 intro i hi
 exact ⟨q9 h _ (hs _ (List.getElem_mem _)),key h _ (hs _ (List.getElem_mem _)) _ (hs _ (List.getElem_mem _))⟩
theorem S2 {a:List aP} (h:fJ a):jl (a++a)=a:=by
 have ho:=q9 h.1;have hr:p0 a:=V6 fun j hj h0=>(h.2 j hj).1 h0;refine (S1 (fun x hx=>ho x (by simpa using hx)) hr fun x=>?_).symm;rw [Ak (l' :=a) fun z=>by simp];have hm:∀ {x},x∈a→r9 a x:=fun {x} hx=>⟨hx,fun y hy hq=>by rw [V7 hr hx hy hq];exact List.lt_irrefl _⟩;refine ⟨fun hx=>⟨hm hx,fun y hy hq=>?_⟩,fun q=>q.1.1⟩;obtain ⟨j,hj,rfl⟩:=List.mem_iff_getElem.1 hx;have h1:=(h.2 j hj).2;unfold hM at h1;rw [List.any_eq_false] at h1;have h2:=h1 y hy.1;rw [Bool.and_eq_true,decide_eq_true_iff] at h2;exact Bool.eq_false_iff.2 fun q=>h2 ⟨hq,q⟩
end Go.Sp
end
