/- Texts of this proof, one behind the other. -/
import Derived.Test.YtojafegjlahajaaGreatDoorQSpJoin
section
/- Texts of this proof. -/
namespace Go.Sp
theorem cmpR_zs {x y:RecT} (h:cmpR x y=0):cmpR y x=0:=by rw [cmpR_z] at h ⊢;omega
end Go.Sp
end
section
/- Texts of this proof. -/
namespace Go.Sp
theorem risesR_one {l:List RecT} (h:RisesR l) {x y:RecT} (hx:x∈l) (hy:y∈l) (e:cmpR x y=0):x=y:=by
 obtain ⟨i,hi,rfl⟩:=List.mem_iff_getElem.1 hx;obtain ⟨j,hj,rfl⟩:=List.mem_iff_getElem.1 hy;have hp:=List.pairwise_iff_getElem.1 h
 rcases Nat.lt_trichotomy i j with c|c|c
 ·have:=hp i j hi hj c;omega
 ·subst c;rfl
 ·have h1:=hp j i hj hi c
  have h2:=cmpR_zs e
  omega
theorem risesR_of {l:List RecT} (h:∀ j (hj:j<l.length),∀ h0:0<j,cmpR l[j-1] l[j]<0):RisesR l:=by
 refine List.pairwise_iff_getElem.2 fun i j hi hj hij=>?_;have key:∀ d (hd:i+1+d<l.length),cmpR l[i] l[i+1+d]<0:=by
  intro d
  induction d with
  |zero=>intro hd;exact h (i+1) hd (by omega)
  |succ d ih=>intro hd;exact cmpR_trans (ih (by omega)) (h (i+1+(d+1)) hd (by omega))
 have:=key (j - (i+1)) (by omega);have e:i+1+(j - (i+1))=j:=by omega
 simpa only [e] using this
theorem joinL_sub {l:List RecT} (ho:∀ x∈l,recOk x=true):∀ x∈joinL l,x∈l:=fun _ hx=>((joinL_mem ho).1 hx).1.1
theorem oneK_of {l m:List RecT} (h:oneK l=true) (hs:∀ x∈m,x∈l):oneK m=true:=by
 have key:∀ {l:List RecT},oneK l=true→∀ x∈l,∀ y∈l,x.1=y.1:=fun {l} h x hx y hy=>by
  rw [oneK_iff] at h;obtain ⟨i,hi,rfl⟩:=List.mem_iff_getElem.1 hx;obtain ⟨j,hj,rfl⟩:=List.mem_iff_getElem.1 hy;rw [(h i hi).2,(h j hj).2]
 rw [oneK_iff]
 intro i hi
 exact ⟨oneK_all h _ (hs _ (List.getElem_mem _)),key h _ (hs _ (List.getElem_mem _)) _ (hs _ (List.getElem_mem _))⟩
theorem joinL_self {a:List RecT} (h:SRight a):joinL (a++a)=a:=by
 have ho:=oneK_all h.1;have hr:RisesR a:=risesR_of fun j hj h0=>(h.2 j hj).1 h0;refine (joinL_of (fun x hx=>ho x (by simpa using hx)) hr fun x=>?_).symm;rw [isLeft_congr (l' :=a) fun z=>by simp];have hm:∀ {x},x∈a→isMin a x:=fun {x} hx=>⟨hx,fun y hy hq=>by rw [risesR_one hr hx hy hq];exact List.lt_irrefl _⟩;refine ⟨fun hx=>⟨hm hx,fun y hy hq=>?_⟩,fun q=>q.1.1⟩;obtain ⟨j,hj,rfl⟩:=List.mem_iff_getElem.1 hx;have h1:=(h.2 j hj).2;unfold underR at h1;rw [List.any_eq_false] at h1;have h2:=h1 y hy.1;rw [Bool.and_eq_true,decide_eq_true_iff] at h2;exact Bool.eq_false_iff.2 fun q=>h2 ⟨hq,q⟩
end Go.Sp
end
