/- Texts of this proof, one behind the other. -/
import Derived.Shelf.SortM.Plain
import Derived.Shelf.SortM.SortNone
import Derived.Shelf.SlSortCmp.NoneTotal
import Derived.Test.YtojafegjlahajaaGreatDoorQSpLaid
set_option linter.unusedSectionVars false
section
/- Texts of this proof, one behind the other. -/
section
/- Texts of this proof. -/
namespace Go.Sp
open Go.Proofs
variable {P:Program} {g:bn} {U ζ:List az}
def LF (l:List (List UInt8)):List (List UInt8):=l.mergeSort fun x y=>decide (x≤y)
theorem Xa (l:List (List UInt8)):(LF l).Perm l:=List.mergeSort_perm _ _
@[simp] theorem abl (l:List (List UInt8)):(LF l).length=l.length:=(Xa l).length_eq
theorem Holds.grow {w:World} (h:Holds w g U) (os:Array Obj):Holds (Sort.grow w os) g U:=by
 obtain ⟨l⟩:=os
 induction l generalizing w with
 |nil=>simpa using h
 |cons o l ih =>
  have h1:Holds (w.alloc o) g U:=(h.alloc o).imp fun _ x=>Sat.tail x;have h2:=ih h1;have e:Sort.grow (w.alloc o) ⟨l⟩=Sort.grow w ⟨o::l⟩:=by rw [Sort.alloc_eq_grow,Sort.grow_grow];congr 1;apply Array.ext';simp
  rwa [e] at h2
end Go.Sp
end
section
/- Texts of this proof. -/
namespace Go.Sp
open Go.Proofs
variable {P:Program} {g:bn} {U ζ:List az}
theorem Holds.grown {w w' :World} (h:Holds w' w.rR []):∃ q os,w' =Sort.grow (w.drewN q) os:=by
 have hb:=h.below;obtain ⟨a,b,⟨c,d⟩,_⟩:=h;obtain ⟨_,_,_,hsz,hpre⟩:=hb;obtain ⟨heap',tape',drawn',os',out'⟩:=w';obtain ⟨heap,tape,drawn,os,out⟩:=w;simp only [World.rR] at a b c d;subst a b c;refine ⟨drawn' - drawn,heap'.extract heap.size heap'.size,?_⟩;have e1:drawn+(drawn' - drawn)=drawn' :=by have d' :drawn≤drawn' :=d;omega
 have e2:heap++heap'.extract heap.size heap'.size=heap' :=by
  apply Array.ext_getElem?
  intro i
  rw [Array.getElem?_append]
  split
  ·rename_i hi;exact (hpre i hi).symm
  ·rename_i hi
   rw [Array.getElem?_extract]
   split
   ·congr 1;omega
   ·rename_i h2;rw [Array.getElem?_eq_none (by omega)]
 simp only [Sort.grow,World.drewN,e1,e2]
def Bh {α:Type} (cf:α→α→Int) (l:List α):List α:=l.mergeSort fun x y=>!(ltOf cf) y x
theorem F2 {α:Type} (cf:α→α→Int) (l:List α):(Bh cf l).Perm l:=List.mergeSort_perm _ _
@[simp] theorem W7 {α:Type} (cf:α→α→Int) (l:List α):(Bh cf l).length=l.length:=(F2 cf l).length_eq
section
variable {α:Type} [Inhabited α] {enc:α→List Value} {k:Nat}
theorem tj (hk:∀ x,(enc x).length=k) (h0:0<k):∀ (l:List α) (t:Nat),t<l.length*k→(l.map enc).flatten[t]! =(enc l[t / k]!)[t % k]!
 |[],t,h=>by simp at h
 |x::l,t,h=>by
  rw [List.map_cons,List.flatten_cons];have hx:=hk x
  by_cases ht:t<k
  ·rw [Nat.div_eq_of_lt ht,Nat.mod_eq_of_lt ht]
   rw [List.getElem!_eq_getElem?_getD,List.getElem?_append_left (by omega),List.getElem!_eq_getElem?_getD]
   rfl
  ·have h1:t / k=(t - k) / k+1:=by rw [← Nat.add_div_right _ h0];congr 1;omega
   have h2:t % k=(t - k) % k:=by
    have:t=(t - k)+k:=by omega
    rw [this,Nat.add_mod_right];congr 1;omega
   have h3:(x::l)[t / k]! =l[(t - k) / k]! :=by rw [h1];rfl
   rw [h2,h3,← tj hk h0 l (t - k) (by rw [List.length_cons,Nat.add_mul,Nat.one_mul] at h;omega)];rw [List.getElem!_eq_getElem?_getD,List.getElem?_append_right (by omega),hx,List.getElem!_eq_getElem?_getD]
omit [Inhabited α] in
theorem CU (hk:∀ x,(enc x).length=k):∀ (l:List α),(l.map enc).flatten.length=l.length*k
 |[]=>by simp
 |x::l=>by rw [List.map_cons,List.flatten_cons,List.length_append,CU hk l,hk,List.length_cons,Nat.add_mul,Nat.one_mul,Nat.add_comm]
theorem H_ (hk:∀ x,(enc x).length=k) (h0:0<k) (l:List α):(Sort.flatK enc k l.toArray).toList=(l.map enc).flatten:=by
 apply List.ext_getElem
 ·rw [CU hk];simp
 ·intro t h1 h2
  have ht:t<l.length*k:=by simpa using h1
  have h3:=tj hk h0 l t ht;have h4:=Sort.get_flatK enc k l.toArray t (by simpa using ht);have e1:(Sort.flatK enc k l.toArray).toList[t]=(Sort.flatK enc k l.toArray)[t]! :=by rw [getElem!_pos _ t (by simpa using ht)];simp
  have e2:(l.map enc).flatten[t]=(l.map enc).flatten[t]! :=by rw [getElem!_pos _ t h2]
  rw [e1,e2,h3,h4]
  simp
omit [Inhabited α] in
theorem Hs (hk:∀ x,(enc x).length=k) (h1:∀ x,∀ v∈enc x,v.oneCell' =true):∀ l:List α,b5 ((ag.cells k).rel Fr.emp) (l.map enc) (l.map enc)
 |[]=>trivial
 |x::l=>⟨⟨rfl,hk x,h1 x⟩,Hs hk h1 l⟩
theorem GS :∀ {ak ds:List (List Value)},b5 ((ag.cells k).rel Fr.emp) ak ds→ak=ds
 |[],[],_=>rfl
 |[],_::_,h=>h.elim
 |_::_,[],h=>h.elim
 |_::_,_::_,h=>by rw [h.1.1,GS h.2]
end
end Go.Sp
end
end
section
/- Texts of this proof. -/
namespace Go.Sp
open Go.Proofs
def lT (x y:aP):Int:=if dU x y≠0 then dU x y else Lib.compareBytes (cn x) (cn y)
theorem Cr {x y:aP}:lT x y<0↔x.2.1<y.2.1∨x.2.1=y.2.1∧(x.2.2.1<y.2.2.1∨x.2.2.1=y.2.2.1∧cn x<cn y):=by
 unfold lT
 split
 ·rename_i h
  rw [u9]
  constructor
  ·rintro (h1|⟨h1,h2⟩)
   ·exact .inl h1
   ·exact .inr ⟨h1,.inl h2⟩
  ·rintro (h1|⟨h1,h2|⟨h2,_⟩⟩)
   ·exact .inl h1
   ·exact .inr ⟨h1,h2⟩
   ·exact absurd (Cs.2 (by unfold iE;rw [h1,h2])) h
 ·rename_i h
  have h1:=Cs.1 (Classical.not_not.1 h);obtain ⟨h2,h3⟩:=Prod.mk.inj h1;obtain ⟨h3,_⟩:=Prod.mk.inj h3;rw [Cx];exact ⟨fun q=>.inr ⟨h2,.inr ⟨h3,q⟩⟩,fun q=>by
   rcases q with q|⟨_,q|⟨_,q⟩⟩
   ·omega
   ·omega
   ·exact q⟩
def lF (x y:aP):Prop:=x.2.1<y.2.1∨x.2.1=y.2.1∧(x.2.2.1<y.2.2.1∨x.2.2.1=y.2.2.1∧cn x≤cn y)
theorem ud {x y:aP}:lF x y↔¬ lT y x<0:=by
 rw [Cr]
 constructor
 ·rintro (h|⟨h,h2|⟨h2,h3⟩⟩) (q|⟨q,q2|⟨q2,cM⟩⟩)<;>first|omega|exact List.not_lt.2 h3 cM
 ·intro h
  by_cases h1:x.2.1<y.2.1
  ·exact .inl h1
  by_cases h2:y.2.1<x.2.1
  ·exact absurd (.inl h2) h
  have h3:x.2.1=y.2.1:=by omega
  refine .inr ⟨h3,?_⟩
  by_cases h4:x.2.2.1<y.2.2.1
  ·exact .inl h4
  by_cases h5:y.2.2.1<x.2.2.1
  ·exact absurd (.inr ⟨h3.symm,.inl h5⟩) h
  have h6:x.2.2.1=y.2.2.1:=by omega
  exact .inr ⟨h6,List.not_lt.1 fun q=>h (.inr ⟨h3.symm,.inr ⟨h6.symm,q⟩⟩)⟩
theorem JQ {x y z:aP} (h:lF x y) (q:lF y z):lF x z:=by
 rcases h with h|⟨h,h2|⟨h2,h3⟩⟩<;>rcases q with q|⟨q,q2|⟨q2,cM⟩⟩<;>first|exact .inl (by omega)|exact .inr ⟨by omega,.inl (by omega)⟩|exact .inr ⟨by omega,.inr ⟨by omega,List.le_trans h3 cM⟩⟩
theorem vK (x y:aP):ltOf lT x y=decide (lT x y<0):=rfl
theorem Xp:Sort.SWO (ltOf lT) where
 irrefl x:=by rw [vK,decide_eq_false_iff_not,← ud];exact .inr ⟨rfl,.inr ⟨rfl,List.le_refl _⟩⟩
 trans x y z h1 h2:=by
  rw [vK,decide_eq_true_iff,Cr] at h1 h2 ⊢
  rcases h1 with h|⟨h,qJ |⟨qJ,h3⟩⟩<;>rcases h2 with q|⟨q,q2|⟨q2,cM⟩⟩<;>first|exact .inl (by omega)|exact .inr ⟨by omega,.inl (by omega)⟩|exact .inr ⟨by omega,.inr ⟨by omega,List.lt_trans h3 cM⟩⟩
 ntrans x y z h1 h2:=by
  rw [vK,decide_eq_false_iff_not,← ud] at h1 h2 ⊢;exact JQ h2 h1
abbrev p0 (l:List aP):Prop:=List.Pairwise (fun x y=>dU x y<0) l
theorem Hy (x:aP):¬ dU x x<0:=by rw [u9];omega
theorem Nr {x y:aP} (h:dU x y<0):¬ dU y x<0:=by rw [u9] at h ⊢;omega
theorem Hz {x y z:aP} (h:dU x y<0) (h' :dU y z<0):dU x z<0:=by rw [u9] at h h' ⊢;omega
theorem k_ {x y:aP}:dU x y=0↔x.2.1=y.2.1∧x.2.2.1=y.2.2.1:=by
 rw [Cs];unfold iE;exact ⟨fun q=>⟨(Prod.mk.inj q).1,(Prod.mk.inj (Prod.mk.inj q).2).1⟩,fun q=>by rw [q.1,q.2]⟩
theorem A6:∀ {l l' :List aP},p0 l→p0 l' →(∀ x,x∈l↔x∈l')→l=l'
 |[],[],_,_,_=>rfl
 |[],y::_,_,_,h=>by have:=(h y).2 List.mem_cons_self;cases this
 |x::_,[],_,_,h=>by have:=(h x).1 List.mem_cons_self;cases this
 |x::l,y::l',h1,h2,h=>by
  obtain ⟨a1,b1⟩:=List.pairwise_cons.1 h1;obtain ⟨a2,b2⟩:=List.pairwise_cons.1 h2;have hxy:x=y:=by
   rcases List.mem_cons.1 ((h x).1 List.mem_cons_self) with e|e
   ·exact e
   ·rcases List.mem_cons.1 ((h y).2 List.mem_cons_self) with e' |e'
    ·exact e'.symm
    ·exact absurd (a1 _ e') (Nr (a2 _ e))
  subst hxy
  congr 1
  refine A6 b1 b2 fun z=>⟨fun hz=>?_,fun hz=>?_⟩
  ·rcases List.mem_cons.1 ((h z).1 (List.mem_cons_of_mem _ hz)) with e|e
   ·subst e;exact absurd (a1 _ hz) (Hy _)
   ·exact e
  ·rcases List.mem_cons.1 ((h z).2 (List.mem_cons_of_mem _ hz)) with e|e
   ·subst e;exact absurd (a2 _ hz) (Hy _)
   ·exact e
def ey {α:Type} (eq:α→α→Bool):Option α→List α→List α
 |_,[]=>[]
 |p,x::l=>if (p.any fun y=>eq x y) then ey eq (some x) l else x::ey eq (some x) l
theorem HF {α:Type} (eq:α→α→Bool) (x:α):∀ (p:Option α) (l:List α),ey eq p (l++[x])=ey eq p l++if ((l.getLast?.or p).any fun y=>eq x y) then [] else [x]
 |p,[]=>by
  cases h:(p.any fun y=>eq x y)<;>simp [ey,h]
 |p,a::l=>by
  have h:=HF eq x (some a) l;have e:((a::l).getLast?.or p)=l.getLast?.or (some a):=by
   cases l with
   |nil=>rfl
   |cons b l=>rw [List.getLast?_cons_cons];cases h:(b::l).getLast? with
    |none=>simp at h
    |some z=>rfl
  rw [List.cons_append,e];simp only [ey]
  split
  ·exact h
  ·rw [h,List.cons_append]
theorem HD {α β:Type} (f:α→β) (eq:β→β→Bool):∀ (p:Option α) (l:List α),(ey (fun x y=>eq (f x) (f y)) p l).map f=ey eq (p.map f) (l.map f)
 |_,[]=>rfl
 |p,x::l=>by
  have h:=HD f eq (some x) l;have e:(p.any fun y=>eq (f x) (f y))=((p.map f).any fun y=>eq (f x) y):=by cases p<;>rfl
  simp only [ey,List.map_cons,e]
  split
  ·exact h
  ·rw [List.map_cons,h];rfl
theorem Cu {α:Type} (eq:α→α→Bool):∀ (p:Option α) (l:List α),(ey eq p l).length≤l.length
 |_,[]=>Nat.le_refl _
 |p,x::l=>by
  have h:=Cu eq (some x) l;simp only [ey,List.length_cons]
  split
  ·omega
  ·rw [List.length_cons];omega
abbrev tg (x y:aP):Bool:=decide (dU x y=0)
def r9 (l:List aP) (x:aP):Prop:=x∈l∧∀ y∈l,dU x y=0→¬ cn y<cn x
def isLeft (l:List aP) (x:aP):Prop:=r9 l x∧∀ y,r9 l y→dU x y≠0→over y x=false
theorem Al {l l' :List aP} (h:∀ x,x∈l↔x∈l') {x:aP}:r9 l x↔r9 l' x :=
 ⟨fun ⟨a,b⟩=>⟨(h x).1 a,fun y hy=>b y ((h y).2 hy)⟩,fun ⟨a,b⟩=>⟨(h x).2 a,fun y hy=>b y ((h y).1 hy)⟩⟩
theorem Ak {l l' :List aP} (h:∀ x,x∈l↔x∈l') {x:aP}:isLeft l x↔isLeft l' x :=
 ⟨fun ⟨a,b⟩=>⟨(Al h).1 a,fun y hy=>b y ((Al h).2 hy)⟩,fun ⟨a,b⟩=>⟨(Al h).2 a,fun y hy=>b y ((Al h).1 hy)⟩⟩
theorem HG:∀ {l:List aP} {p:aP},List.Pairwise lF (p::l)→(∀ x∈l,ej x=true)→∀ {x:aP},x∈ey tg (some p) l↔(x∈l∧dU x p≠0∧∀ y∈l,dU x y=0→¬ cn y<cn x)
 |[],_,_,_,_=>by simp [ey]
 |a::l,p,hs,ho,x=>by
  obtain ⟨hp,hs2⟩:=List.pairwise_cons.1 hs;obtain ⟨ha,_⟩:=List.pairwise_cons.1 hs2;have ih:=HG hs2 (fun z hz=>ho z (List.mem_cons_of_mem _ hz)) (x:=x);have hpa:=hp a List.mem_cons_self;simp only [ey,Option.any_some]
  by_cases c:dU a p=0
  ·rw [if_pos (by exact decide_eq_true c),ih]
   have c' :=k_.1 c
   constructor
   ·rintro ⟨h1,h2,h3⟩
    refine ⟨List.mem_cons_of_mem _ h1,fun q=>h2 ?_,fun y hy hq=>?_⟩
    ·have:=k_.1 q;exact k_.2 ⟨by omega,by omega⟩
    ·rcases List.mem_cons.1 hy with rfl|hy
     ·exact absurd hq h2
     ·exact h3 y hy hq
   ·rintro ⟨h1,h2,h3⟩
    have h4:dU x a≠0:=fun q=>h2 (by have:=k_.1 q;exact k_.2 ⟨by omega,by omega⟩);refine ⟨?_,h4,fun y hy=>h3 y (List.mem_cons_of_mem _ hy)⟩
    rcases List.mem_cons.1 h1 with rfl|h1
    ·exact absurd c h2
    ·exact h1
  ·rw [if_neg (by simpa using c),List.mem_cons,ih]
   constructor
   ·rintro (rfl|⟨h1,h2,h3⟩)
    ·refine ⟨List.mem_cons_self,c,fun y hy hq=>?_⟩
     rcases List.mem_cons.1 hy with rfl|hy
     ·exact List.lt_irrefl _
     ·intro hb
      have:=ha y hy;have hz:=k_.1 hq
      rcases this with q|⟨q,q2|⟨q2,cM⟩⟩
      ·omega
      ·omega
      ·exact List.not_lt.2 cM hb
    ·refine ⟨List.mem_cons_of_mem _ h1,fun q=>?_,fun y hy hq=>?_⟩
     ·have q1:=k_.1 q
      have q2:¬ (a.2.1=p.2.1∧a.2.2.1=p.2.2.1):=fun q=>c (k_.2 q);have cM:=ha x h1;unfold lF at hpa cM
      omega
     ·rcases List.mem_cons.1 hy with rfl|hy
      ·exact absurd hq h2
      ·exact h3 y hy hq
   ·rintro ⟨h1,h2,h3⟩
    by_cases e:dU x a=0
    ·left
     rcases List.mem_cons.1 h1 with h1|h1
     ·exact h1
     ·have h4:=h3 a List.mem_cons_self e
      have hz:=k_.1 e;refine FK (ho x (List.mem_cons_of_mem _ h1)) (ho a List.mem_cons_self) ?_
      rcases ha x h1 with q|⟨q,q2|⟨q2,cM⟩⟩
      ·omega
      ·omega
      ·exact List.le_antisymm (List.not_lt.1 h4) cM
    ·right
     rcases List.mem_cons.1 h1 with rfl|h1
     ·exact absurd (k_.2 ⟨rfl,rfl⟩) e
     ·exact ⟨h1,e,fun y hy=>h3 y (List.mem_cons_of_mem _ hy)⟩
theorem HH:∀ {l:List aP} {p:aP},List.Pairwise lF (p::l)→p0 (ey tg (some p) l)∧∀ x∈ey tg (some p) l,dU p x<0
 |[],_,_=>⟨.nil,fun _ h=>(by cases h)⟩
 |a::l,p,hs=>by
  obtain ⟨hp,hs2⟩:=List.pairwise_cons.1 hs;obtain ⟨i1,i2⟩:=HH hs2;have hpa:=hp a List.mem_cons_self;simp only [ey,Option.any_some]
  by_cases c:dU a p=0
  ·rw [if_pos (by exact decide_eq_true c)]
   refine ⟨i1,fun x hx=>?_⟩;have:=i2 x hx;rw [u9] at this ⊢;have:=k_.1 c
   omega
  ·rw [if_neg (by simpa using c)]
   have c2:dU p a<0:=by
    rw [u9];have q2:¬ (a.2.1=p.2.1∧a.2.2.1=p.2.2.1):=fun q=>c (k_.2 q);unfold lF at hpa
    omega
   refine ⟨List.pairwise_cons.2 ⟨i2,i1⟩,fun x hx=>?_⟩
   rcases List.mem_cons.1 hx with rfl|hx
   ·exact c2
   ·exact Hz c2 (i2 x hx)
def qC (s:List aP):List aP:=ey tg none s
theorem Cv {s:List aP} (hs:List.Pairwise lF s) (ho:∀ x∈s,ej x=true) {x:aP}:x∈qC s↔r9 s x:=by
 cases s with
 |nil=>simp [qC,ey,r9]
 |cons a l =>
  have h:=HG hs (fun z hz=>ho z (List.mem_cons_of_mem _ hz)) (x:=x);obtain ⟨ha,_⟩:=List.pairwise_cons.1 hs;unfold qC r9;simp only [ey,Option.any_none,Bool.false_eq_true,if_false];rw [List.mem_cons,h]
  constructor
  ·rintro (rfl|⟨h1,h2,h3⟩)
   ·refine ⟨List.mem_cons_self,fun y hy hq=>?_⟩
    rcases List.mem_cons.1 hy with rfl|hy
    ·exact List.lt_irrefl _
    ·intro hb
     have hz:=k_.1 hq
     rcases ha y hy with q|⟨q,q2|⟨q2,cM⟩⟩
     ·omega
     ·omega
     ·exact List.not_lt.2 cM hb
   ·refine ⟨List.mem_cons_of_mem _ h1,fun y hy hq=>?_⟩
    rcases List.mem_cons.1 hy with rfl|hy
    ·exact absurd hq h2
    ·exact h3 y hy hq
  ·rintro ⟨h1,h3⟩
   by_cases e:dU x a=0
   ·left
    rcases List.mem_cons.1 h1 with h1|h1
    ·exact h1
    ·have h4:=h3 a List.mem_cons_self e
     have hz:=k_.1 e;refine FK (ho x (List.mem_cons_of_mem _ h1)) (ho a List.mem_cons_self) ?_
     rcases ha x h1 with q|⟨q,q2|⟨q2,cM⟩⟩
     ·omega
     ·omega
     ·exact List.le_antisymm (List.not_lt.1 h4) cM
   ·right
    rcases List.mem_cons.1 h1 with rfl|h1
    ·exact absurd (k_.2 ⟨rfl,rfl⟩) e
    ·exact ⟨h1,e,fun y hy=>h3 y (List.mem_cons_of_mem _ hy)⟩
theorem Nu {s:List aP} (hs:List.Pairwise lF s):p0 (qC s):=by
 cases s with
 |nil=>exact .nil
 |cons a l =>
  obtain ⟨h1,h2⟩:=HH hs;unfold qC;simp only [ey,Option.any_none,Bool.false_eq_true,if_false];exact List.pairwise_cons.2 ⟨h2,h1⟩
def r_ (s:List aP):List aP:=(qC s).filter fun x=>!hM (qC s) x
theorem JG {s:List aP} (hs:List.Pairwise lF s) (ho:∀ x∈s,ej x=true) {x:aP}:x∈r_ s↔isLeft s x:=by
 unfold r_ isLeft hM;rw [List.mem_filter,Cv hs ho,Bool.not_eq_true',List.any_eq_false];refine and_congr_right fun _=>⟨fun h y hy hq=>?_,fun h y hy=>?_⟩
 ·have:=h y ((Cv hs ho).2 hy)
  rw [Bool.and_eq_true,decide_eq_true_iff] at this;exact Bool.eq_false_iff.2 fun q=>this ⟨hq,q⟩
 ·rw [Bool.and_eq_true,decide_eq_true_iff]
  rintro ⟨q1,q2⟩;rw [h y ((Cv hs ho).1 hy) q1] at q2
  cases q2
theorem JH {s:List aP} (hs:List.Pairwise lF s):p0 (r_ s):=(Nu hs).filter _
def jl (l:List aP):List aP:=r_ (Bh lT l)
theorem LD (l:List aP):List.Pairwise lF (Bh lT l):=by
 have h:=List.pairwise_mergeSort (le:=fun x y:aP=>!(ltOf lT) y x) (fun a b c h1 h2=>?_) (fun a b=>?_) l
 ·exact h.imp fun {a b} q=>ud.2 (by simpa [vK] using q)
 ·simp only [Bool.not_eq_true',vK,decide_eq_false_iff_not,← ud] at h1 h2 ⊢
  exact JQ h1 h2
 ·simp only [Bool.or_eq_true,Bool.not_eq_true',vK,decide_eq_false_iff_not,← ud]
  by_cases c:lF a b
  ·exact .inl c
  ·right
   rw [ud,Classical.not_not,Cr] at c
   rcases c with q|⟨q,q2|⟨q2,cM⟩⟩
   ·exact .inl q
   ·exact .inr ⟨q,.inl q2⟩
   ·exact .inr ⟨q,.inr ⟨q2,List.le_of_lt cM⟩⟩
theorem xX {l:List aP} (ho:∀ x∈l,ej x=true) {x:aP}:x∈jl l↔isLeft l x:=by
 unfold jl;rw [JG (LD l) (fun z hz=>ho z ((F2 lT l).mem_iff.1 hz))];exact Ak fun z=>(F2 lT l).mem_iff
theorem An (l:List aP):p0 (jl l):=JH (LD l)
theorem S5 {l s:List aP} (hp:s.Perm l) (hs:List.Pairwise lF s) (ho:∀ x∈l,ej x=true):r_ s=jl l:=by
 refine A6 (JH hs) (An l) fun x=>?_;rw [JG hs (fun z hz=>ho z (hp.mem_iff.1 hz)),xX ho];exact Ak fun z=>hp.mem_iff
theorem S1 {l o:List aP} (ho:∀ x∈l,ej x=true) (h:p0 o) (hm:∀ x,x∈o↔isLeft l x):o=jl l :=
 A6 h (An l) fun x=>by rw [hm,xX ho]
theorem SY {l l' :List aP} (ho:∀ x∈l,ej x=true) (h:∀ x,x∈l↔x∈l'):jl l=jl l' :=
 A6 (An l) (An l') fun x=>by rw [xX ho,xX fun z hz=>ho z ((h z).2 hz)];exact Ak h
end Go.Sp
end
