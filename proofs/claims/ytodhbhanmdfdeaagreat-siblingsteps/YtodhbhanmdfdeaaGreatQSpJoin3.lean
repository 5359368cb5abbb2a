/- Texts of this proof, one behind the other. -/
import Derived.Test.YtodhbhanmdfdeaaGreatQSpJoin
section
/- Texts of this proof. -/
namespace Go.Sp
theorem cmpR_zs {x y:RecT} (h:cmpR x y=0):cmpR y x=0:=by rw [cmpR_z] at h ⊢;omega
end Go.Sp
end
section
/- Texts of this proof. -/
namespace Go.Sp
theorem over_me (x:RecT):over x x=false:=by
 unfold over
 cases h:shaped x with
 |false=>simp
 |true=>rw [(shaped_iff.1 h).2.2.2.2.1];simp
theorem risesR_one {l:List RecT} (h:RisesR l) {x y:RecT} (hx:x∈l) (hy:y∈l) (e:cmpR x y=0):x=y:=by
 obtain ⟨i,hi,rfl⟩:=List.mem_iff_getElem.1 hx;obtain ⟨j,hj,rfl⟩:=List.mem_iff_getElem.1 hy;have hp:=List.pairwise_iff_getElem.1 h
 rcases Nat.lt_trichotomy i j with c|c|c
 ·have:=hp i j hi hj c;omega
 ·subst c;rfl
 ·have h1:=hp j i hj hi c
  have h2:=cmpR_zs e
  omega
theorem risesR_of {l:List RecT} (h:∀ j (hj:j<l.length),∀ h0:0<j,cmpR l[j-1] l[j]<0):RisesR l:=by
 refine List.pairwise_iff_getElem.2 fun i j hi hj hij=>?_;have key:∀ d (hd:i+1+d<l.length),cmpR l[i] l[i+1+d]<0:=by
  intro d
  induction d with
  |zero=>intro hd;exact h (i+1) hd (by omega)
  |succ d ih=>intro hd;exact cmpR_trans (ih (by omega)) (h (i+1+(d+1)) hd (by omega))
 have:=key (j - (i+1)) (by omega);have e:i+1+(j - (i+1))=j:=by omega
 simpa only [e] using this
theorem risesR_step {l:List RecT} (h:RisesR l) {j:Nat} (hj:j<l.length) (h0:0<j):cmpR l[j-1] l[j]<0:=List.pairwise_iff_getElem.1 h (j-1) j (by omega) hj (by omega)
theorem joinL_sub {l:List RecT} (ho:∀ x∈l,recOk x=true):∀ x∈joinL l,x∈l:=fun _ hx=>((joinL_mem ho).1 hx).1.1
theorem joinL_over {l:List RecT} (ho:∀ x∈l,recOk x=true) {x y:RecT} (hx:x∈joinL l) (hy:y∈joinL l):over y x=false:=by
 by_cases e:cmpR x y=0
 ·rw [risesR_one (joinL_rises l) hx hy e];exact over_me y
 ·exact ((joinL_mem ho).1 hx).2 y ((joinL_mem ho).1 hy).1 e
theorem oneK_of {l m:List RecT} (h:oneK l=true) (hs:∀ x∈m,x∈l):oneK m=true:=by
 have key:∀ {l:List RecT},oneK l=true→∀ x∈l,∀ y∈l,x.1=y.1:=fun {l} h x hx y hy=>by
  rw [oneK_iff] at h;obtain ⟨i,hi,rfl⟩:=List.mem_iff_getElem.1 hx;obtain ⟨j,hj,rfl⟩:=List.mem_iff_getElem.1 hy;rw [(h i hi).2,(h j hj).2]
 rw [oneK_iff]
 intro i hi
 exact ⟨oneK_all h _ (hs _ (List.getElem_mem _)),key h _ (hs _ (List.getElem_mem _)) _ (hs _ (List.getElem_mem _))⟩
theorem joinL_right {l:List RecT} (h:oneK l=true):SRight (joinL l):=by
 have ho:=oneK_all h;refine ⟨oneK_of h (joinL_sub ho),fun j hj=>⟨fun h0=>risesR_step (joinL_rises l) hj h0,?_⟩⟩;unfold underR;rw [List.any_eq_false]
 intro y hy
 rw [joinL_over ho (List.getElem_mem hj) hy,Bool.and_false]
 decide
def Tame (l:List RecT):Prop:=(∀ x∈l,∀ y∈l,cmpR x y=0→x=y)∧(∀ x∈l,∀ y∈l,over x y=true→over y x=false)∧∀ x∈l,∀ y∈l,∀ z∈l,over x y=true→over y z=true→over x z=true
theorem Tame.sub {l m:List RecT} (h:Tame l) (s:∀ x∈m,x∈l):Tame m :=
 ⟨fun x hx y hy=>h.1 x (s x hx) y (s y hy),fun x hx y hy=>h.2.1 x (s x hx) y (s y hy),fun x hx y hy z hz=>h.2.2 x (s x hx) y (s y hy) z (s z hz)⟩
theorem Tame.left {l:List RecT} (h:Tame l) {x:RecT}:isLeft l x↔x∈l∧∀ y∈l,over y x=false:=by
 have hm:∀ {x},x∈l→isMin l x:=fun {x} hx=>⟨hx,fun y hy hq=>by rw [h.1 x hx y hy hq];exact List.lt_irrefl _⟩
 constructor
 ·rintro ⟨a,b⟩
  refine ⟨a.1,fun y hy=>?_⟩
  by_cases e:cmpR x y=0
  ·rw [h.1 x a.1 y hy e];exact over_me y
  ·exact b y (hm hy) e
 ·rintro ⟨a,b⟩
  exact ⟨hm a,fun y hy _=>b y hy.1⟩
theorem Tame.dominate {l:List RecT} (h:Tame l):∀ (n:Nat) {x:RecT},x∈l→(l.filter fun y=>over y x).length≤n→∃ z,isLeft l z∧(z=x∨over z x=true)
 |n,x,hx,hn=>by
  by_cases c:∀ y∈l,over y x=false
  ·exact ⟨x,h.left.2 ⟨hx,c⟩,.inl rfl⟩
  ·obtain ⟨y,hy,ho⟩:∃ y,y∈l∧over y x=true:=Classical.byContradiction fun q=>c fun y hy=>Bool.eq_false_iff.2 fun e=>q ⟨y,hy,e⟩
   have hlt:(l.filter fun z=>over z y).length<(l.filter fun z=>over z x).length:=by
    have hsub:(l.filter fun z=>over z y)=((l.filter fun z=>over z x).filter fun z=>over z y):=by
     rw [List.filter_filter];refine List.filter_congr fun z hz=>?_
     cases e:over z y with
     |false=>simp
     |true=>rw [h.2.2 z hz y hy x hx e ho];rfl
    rw [hsub];exact List.length_filter_lt_length_iff_exists.2 ⟨y,List.mem_filter.2 ⟨hy,ho⟩,by rw [over_me];decide⟩
   match n,hn with
   |0,hn=>exact absurd hlt (by omega)
   |n+1,hn =>
    obtain ⟨z,h1,h2⟩:=Tame.dominate h n hy (by omega);refine ⟨z,h1,.inr ?_⟩
    rcases h2 with rfl|h2
    ·exact ho
    ·exact h.2.2 z (h.left.1 h1).1 y hy x hx h2 ho
theorem joinL_step {l m:List RecT} (ht:Tame (l++m)) (ho:∀ x∈l++m,recOk x=true):joinL (joinL l++m)=joinL (l++m):=by
 have hol:∀ x∈l,recOk x=true:=fun x hx=>ho x (List.mem_append_left _ hx);have tl:Tame l:=ht.sub fun x hx=>List.mem_append_left _ hx;have hs:∀ x∈joinL l++m,x∈l++m:=fun x hx=>by
  rcases List.mem_append.1 hx with hx|hx
  ·exact List.mem_append_left _ (joinL_sub hol x hx)
  ·exact List.mem_append_right _ hx
 have tj:Tame (joinL l++m):=ht.sub hs;refine joinL_of ho (joinL_rises _) fun x=>?_;rw [joinL_mem fun z hz=>ho z (hs z hz),tj.left,ht.left]
 constructor
 ·rintro ⟨a,b⟩
  refine ⟨hs x a,fun y hy=>?_⟩
  rcases List.mem_append.1 hy with hy|hy
  ·rw [Bool.eq_false_iff]
   intro q
   obtain ⟨z,h1,h2⟩:=tl.dominate _ hy (Nat.le_refl _);have hz:z∈joinL l:=(joinL_mem hol).2 h1;have h3:=b z (List.mem_append_left _ hz)
   rcases h2 with rfl|h2
   ·rw [q] at h3;cases h3
   ·rw [ht.2.2 z (List.mem_append_left _ h1.1.1) y (List.mem_append_left _ hy) x (hs x a) h2 q] at h3;cases h3
  ·exact b y (List.mem_append_right _ hy)
 ·rintro ⟨a,b⟩
  refine ⟨?_,fun y hy=>b y (hs y hy)⟩
  rcases List.mem_append.1 a with a|a
  ·exact List.mem_append_left _ ((joinL_mem hol).2 (tl.left.2 ⟨a,fun y hy=>b y (List.mem_append_left _ hy)⟩))
  ·exact List.mem_append_right _ a
theorem joinL_again {l:List RecT} (ht:Tame l) (ho:∀ x∈l,recOk x=true):joinL (joinL l++l)=joinL l:=by
 rw [joinL_step (ht.sub fun x hx=>by simpa using hx) fun x hx=>ho x (by simpa using hx)];exact joinL_congr (fun x hx=>ho x (by simpa using hx)) fun x=>by simp
theorem joinL_dom {l:List RecT} (ht:Tame l) (ho:∀ x∈l,recOk x=true) {x:RecT} (hx:x∈l):∃ z∈joinL l,z=x∨over z x=true:=by
 obtain ⟨z,h1,h2⟩:=ht.dominate _ hx (Nat.le_refl _);exact ⟨z,(joinL_mem ho).2 h1,h2⟩
end Go.Sp
end
