/- Texts of this proof, one behind the other. -/
import Derived.Shelf.SortM.Plain
import Derived.Shelf.SortM.SortNone
import Derived.Shelf.SlSortCmp.NoneTotal
import Derived.Test.YtojafegjlahajaaGreatDoorQSpLaid
set_option linter.unusedSectionVars false
section
/- Texts of this proof, one behind the other. -/
section
/- Texts of this proof. -/
namespace Go.Sp
open Go.Proofs
variable {P:Program} {g:bh} {U ζ:List az}
def Ko (l:List (List UInt8)):List (List UInt8):=l.mergeSort fun x y=>decide (x≤y)
theorem UK (l:List (List UInt8)):(Ko l).Perm l:=List.mergeSort_perm _ _
@[simp] theorem YG (l:List (List UInt8)):(Ko l).length=l.length:=(UK l).length_eq
theorem Holds.grow {w:World} (h:Holds w g U) (os:Array Obj):Holds (Sort.grow w os) g U:=by
 obtain ⟨l⟩:=os
 induction l generalizing w with
 |nil=>simpa using h
 |cons o l ih =>
  have h1:Holds (w.alloc o) g U:=(h.alloc o).imp fun _ x=>Sat.tail x;have h2:=ih h1;have e:Sort.grow (w.alloc o) ⟨l⟩=Sort.grow w ⟨o::l⟩:=by rw [Sort.alloc_eq_grow,Sort.grow_grow];congr 1;apply Array.ext';simp
  rwa [e] at h2
end Go.Sp
end
section
/- Texts of this proof. -/
namespace Go.Sp
open Go.Proofs
variable {P:Program} {g:bh} {U ζ:List az}
theorem Holds.grown {w w' :World} (h:Holds w' w.rB []):∃ q os,w' =Sort.grow (w.drewN q) os:=by
 have hb:=h.below;obtain ⟨a,b,⟨c,d⟩,_⟩:=h;obtain ⟨_,_,_,hsz,hpre⟩:=hb;obtain ⟨heap',tape',drawn',os',out'⟩:=w';obtain ⟨heap,tape,drawn,os,out⟩:=w;simp only [World.rB] at a b c d;subst a b c;refine ⟨drawn' - drawn,heap'.extract heap.size heap'.size,?_⟩;have e1:drawn+(drawn' - drawn)=drawn' :=by have d' :drawn≤drawn' :=d;omega
 have e2:heap++heap'.extract heap.size heap'.size=heap' :=by
  apply Array.ext_getElem?
  intro i
  rw [Array.getElem?_append]
  split
  ·rename_i hi;exact (hpre i hi).symm
  ·rename_i hi
   rw [Array.getElem?_extract]
   split
   ·congr 1;omega
   ·rename_i h2;rw [Array.getElem?_eq_none (by omega)]
 simp only [Sort.grow,World.drewN,e1,e2]
def AA {α:Type} (cf:α→α→Int) (l:List α):List α:=l.mergeSort fun x y=>!(ltOf cf) y x
theorem EW {α:Type} (cf:α→α→Int) (l:List α):(AA cf l).Perm l:=List.mergeSort_perm _ _
@[simp] theorem UG {α:Type} (cf:α→α→Int) (l:List α):(AA cf l).length=l.length:=(EW cf l).length_eq
section
variable {α:Type} [Inhabited α] {enc:α→List Value} {k:Nat}
theorem sL (hk:∀ x,(enc x).length=k) (h0:0<k):∀ (l:List α) (t:Nat),t<l.length*k→(l.map enc).flatten[t]! =(enc l[t / k]!)[t % k]!
 |[],t,h=>by simp at h
 |x::l,t,h=>by
  rw [List.map_cons,List.flatten_cons];have hx:=hk x
  by_cases ht:t<k
  ·rw [Nat.div_eq_of_lt ht,Nat.mod_eq_of_lt ht]
   rw [List.getElem!_eq_getElem?_getD,List.getElem?_append_left (by omega),List.getElem!_eq_getElem?_getD]
   rfl
  ·have h1:t / k=(t - k) / k+1:=by rw [← Nat.add_div_right _ h0];congr 1;omega
   have h2:t % k=(t - k) % k:=by
    have:t=(t - k)+k:=by omega
    rw [this,Nat.add_mod_right];congr 1;omega
   have h3:(x::l)[t / k]! =l[(t - k) / k]! :=by rw [h1];rfl
   rw [h2,h3,← sL hk h0 l (t - k) (by rw [List.length_cons,Nat.add_mul,Nat.one_mul] at h;omega)];rw [List.getElem!_eq_getElem?_getD,List.getElem?_append_right (by omega),hx,List.getElem!_eq_getElem?_getD]
omit [Inhabited α] in
theorem B_ (hk:∀ x,(enc x).length=k):∀ (l:List α),(l.map enc).flatten.length=l.length*k
 |[]=>by simp
 |x::l=>by rw [List.map_cons,List.flatten_cons,List.length_append,B_ hk l,hk,List.length_cons,Nat.add_mul,Nat.one_mul,Nat.add_comm]
theorem GW (hk:∀ x,(enc x).length=k) (h0:0<k) (l:List α):(Sort.flatK enc k l.toArray).toList=(l.map enc).flatten:=by
 apply List.ext_getElem
 ·rw [B_ hk];simp
 ·intro t h1 h2
  have ht:t<l.length*k:=by simpa using h1
  have h3:=sL hk h0 l t ht;have h4:=Sort.get_flatK enc k l.toArray t (by simpa using ht);have e1:(Sort.flatK enc k l.toArray).toList[t]=(Sort.flatK enc k l.toArray)[t]! :=by rw [getElem!_pos _ t (by simpa using ht)];simp
  have e2:(l.map enc).flatten[t]=(l.map enc).flatten[t]! :=by rw [getElem!_pos _ t h2]
  rw [e1,e2,h3,h4]
  simp
omit [Inhabited α] in
theorem Gk (hk:∀ x,(enc x).length=k) (h1:∀ x,∀ v∈enc x,v.oneCell' =true):∀ l:List α,bY ((ag.cells k).rel Fr.emp) (l.map enc) (l.map enc)
 |[]=>trivial
 |x::l=>⟨⟨rfl,hk x,h1 x⟩,Gk hk h1 l⟩
theorem FL :∀ {ak ds:List (List Value)},bY ((ag.cells k).rel Fr.emp) ak ds→ak=ds
 |[],[],_=>rfl
 |[],_::_,h=>h.elim
 |_::_,[],h=>h.elim
 |_::_,_::_,h=>by rw [h.1.1,FL h.2]
end
end Go.Sp
end
end
section
/- Texts of this proof. -/
namespace Go.Sp
open Go.Proofs
def lB (x y:aQ):Int:=if dN x y≠0 then dN x y else Lib.compareBytes (b7 x) (b7 y)
theorem BI {x y:aQ}:lB x y<0↔x.2.1<y.2.1∨x.2.1=y.2.1∧(x.2.2.1<y.2.2.1∨x.2.2.1=y.2.2.1∧b7 x<b7 y):=by
 unfold lB
 split
 ·rename_i h
  rw [uB]
  constructor
  ·rintro (h1|⟨h1,h2⟩)
   ·exact .inl h1
   ·exact .inr ⟨h1,.inl h2⟩
  ·rintro (h1|⟨h1,h2|⟨h2,_⟩⟩)
   ·exact .inl h1
   ·exact .inr ⟨h1,h2⟩
   ·exact absurd (BJ.2 (by unfold iu;rw [h1,h2])) h
 ·rename_i h
  have h1:=BJ.1 (Classical.not_not.1 h);obtain ⟨h2,h3⟩:=Prod.mk.inj h1;obtain ⟨h3,_⟩:=Prod.mk.inj h3;rw [BO];exact ⟨fun q=>.inr ⟨h2,.inr ⟨h3,q⟩⟩,fun q=>by
   rcases q with q|⟨_,q|⟨_,q⟩⟩
   ·omega
   ·omega
   ·exact q⟩
def k5 (x y:aQ):Prop:=x.2.1<y.2.1∨x.2.1=y.2.1∧(x.2.2.1<y.2.2.1∨x.2.2.1=y.2.2.1∧b7 x≤b7 y)
theorem tu {x y:aQ}:k5 x y↔¬ lB y x<0:=by
 rw [BI]
 constructor
 ·rintro (h|⟨h,h2|⟨h2,h3⟩⟩) (q|⟨q,q2|⟨q2,cH⟩⟩)<;>first|omega|exact List.not_lt.2 h3 cH
 ·intro h
  by_cases h1:x.2.1<y.2.1
  ·exact .inl h1
  by_cases h2:y.2.1<x.2.1
  ·exact absurd (.inl h2) h
  have h3:x.2.1=y.2.1:=by omega
  refine .inr ⟨h3,?_⟩
  by_cases h4:x.2.2.1<y.2.2.1
  ·exact .inl h4
  by_cases h5:y.2.2.1<x.2.2.1
  ·exact absurd (.inr ⟨h3.symm,.inl h5⟩) h
  have h6:x.2.2.1=y.2.2.1:=by omega
  exact .inr ⟨h6,List.not_lt.1 fun q=>h (.inr ⟨h3.symm,.inr ⟨h6.symm,q⟩⟩)⟩
theorem IL {x y z:aQ} (h:k5 x y) (q:k5 y z):k5 x z:=by
 rcases h with h|⟨h,h2|⟨h2,h3⟩⟩<;>rcases q with q|⟨q,q2|⟨q2,cH⟩⟩<;>first|exact .inl (by omega)|exact .inr ⟨by omega,.inl (by omega)⟩|exact .inr ⟨by omega,.inr ⟨by omega,List.le_trans h3 cH⟩⟩
theorem u7 (x y:aQ):ltOf lB x y=decide (lB x y<0):=rfl
theorem U0:Sort.SWO (ltOf lB) where
 irrefl x:=by rw [u7,decide_eq_false_iff_not,← tu];exact .inr ⟨rfl,.inr ⟨rfl,List.le_refl _⟩⟩
 trans x y z h1 h2:=by
  rw [u7,decide_eq_true_iff,BI] at h1 h2 ⊢
  rcases h1 with h|⟨h,qo |⟨qo,h3⟩⟩<;>rcases h2 with q|⟨q,q2|⟨q2,cH⟩⟩<;>first|exact .inl (by omega)|exact .inr ⟨by omega,.inl (by omega)⟩|exact .inr ⟨by omega,.inr ⟨by omega,List.lt_trans h3 cH⟩⟩
 ntrans x y z h1 h2:=by
  rw [u7,decide_eq_false_iff_not,← tu] at h1 h2 ⊢;exact IL h2 h1
abbrev pG (l:List aQ):Prop:=List.Pairwise (fun x y=>dN x y<0) l
theorem Gr (x:aQ):¬ dN x x<0:=by rw [uB];omega
theorem Ma {x y:aQ} (h:dN x y<0):¬ dN y x<0:=by rw [uB] at h ⊢;omega
theorem Gs {x y z:aQ} (h:dN x y<0) (h' :dN y z<0):dN x z<0:=by rw [uB] at h h' ⊢;omega
theorem kU {x y:aQ}:dN x y=0↔x.2.1=y.2.1∧x.2.2.1=y.2.2.1:=by
 rw [BJ];unfold iu;exact ⟨fun q=>⟨(Prod.mk.inj q).1,(Prod.mk.inj (Prod.mk.inj q).2).1⟩,fun q=>by rw [q.1,q.2]⟩
theorem Aq:∀ {l l' :List aQ},pG l→pG l' →(∀ x,x∈l↔x∈l')→l=l'
 |[],[],_,_,_=>rfl
 |[],y::_,_,_,h=>by have:=(h y).2 List.mem_cons_self;cases this
 |x::_,[],_,_,h=>by have:=(h x).1 List.mem_cons_self;cases this
 |x::l,y::l',h1,h2,h=>by
  obtain ⟨a1,b1⟩:=List.pairwise_cons.1 h1;obtain ⟨a2,b2⟩:=List.pairwise_cons.1 h2;have hxy:x=y:=by
   rcases List.mem_cons.1 ((h x).1 List.mem_cons_self) with e|e
   ·exact e
   ·rcases List.mem_cons.1 ((h y).2 List.mem_cons_self) with e' |e'
    ·exact e'.symm
    ·exact absurd (a1 _ e') (Ma (a2 _ e))
  subst hxy
  congr 1
  refine Aq b1 b2 fun z=>⟨fun hz=>?_,fun hz=>?_⟩
  ·rcases List.mem_cons.1 ((h z).1 (List.mem_cons_of_mem _ hz)) with e|e
   ·subst e;exact absurd (a1 _ hz) (Gr _)
   ·exact e
  ·rcases List.mem_cons.1 ((h z).2 (List.mem_cons_of_mem _ hz)) with e|e
   ·subst e;exact absurd (a2 _ hz) (Gr _)
   ·exact e
def ei {α:Type} (eq:α→α→Bool):Option α→List α→List α
 |_,[]=>[]
 |p,x::l=>if (p.any fun y=>eq x y) then ei eq (some x) l else x::ei eq (some x) l
theorem Gy {α:Type} (eq:α→α→Bool) (x:α):∀ (p:Option α) (l:List α),ei eq p (l++[x])=ei eq p l++if ((l.getLast?.or p).any fun y=>eq x y) then [] else [x]
 |p,[]=>by
  cases h:(p.any fun y=>eq x y)<;>simp [ei,h]
 |p,a::l=>by
  have h:=Gy eq x (some a) l;have e:((a::l).getLast?.or p)=l.getLast?.or (some a):=by
   cases l with
   |nil=>rfl
   |cons b l=>rw [List.getLast?_cons_cons];cases h:(b::l).getLast? with
    |none=>simp at h
    |some z=>rfl
  rw [List.cons_append,e];simp only [ei]
  split
  ·exact h
  ·rw [h,List.cons_append]
theorem Gw {α β:Type} (f:α→β) (eq:β→β→Bool):∀ (p:Option α) (l:List α),(ei (fun x y=>eq (f x) (f y)) p l).map f=ei eq (p.map f) (l.map f)
 |_,[]=>rfl
 |p,x::l=>by
  have h:=Gw f eq (some x) l;have e:(p.any fun y=>eq (f x) (f y))=((p.map f).any fun y=>eq (f x) y):=by cases p<;>rfl
  simp only [ei,List.map_cons,e]
  split
  ·exact h
  ·rw [List.map_cons,h];rfl
theorem BL {α:Type} (eq:α→α→Bool):∀ (p:Option α) (l:List α),(ei eq p l).length≤l.length
 |_,[]=>Nat.le_refl _
 |p,x::l=>by
  have h:=BL eq (some x) l;simp only [ei,List.length_cons]
  split
  ·omega
  ·rw [List.length_cons];omega
abbrev sJ (x y:aQ):Bool:=decide (dN x y=0)
def rQ (l:List aQ) (x:aQ):Prop:=x∈l∧∀ y∈l,dN x y=0→¬ b7 y<b7 x
def isLeft (l:List aQ) (x:aQ):Prop:=rQ l x∧∀ y,rQ l y→dN x y≠0→over y x=false
theorem zA {l l' :List aQ} (h:∀ x,x∈l↔x∈l') {x:aQ}:rQ l x↔rQ l' x :=
 ⟨fun ⟨a,b⟩=>⟨(h x).1 a,fun y hy=>b y ((h y).2 hy)⟩,fun ⟨a,b⟩=>⟨(h x).2 a,fun y hy=>b y ((h y).1 hy)⟩⟩
theorem zz {l l' :List aQ} (h:∀ x,x∈l↔x∈l') {x:aQ}:isLeft l x↔isLeft l' x :=
 ⟨fun ⟨a,b⟩=>⟨(zA h).1 a,fun y hy=>b y ((zA h).2 hy)⟩,fun ⟨a,b⟩=>⟨(zA h).2 a,fun y hy=>b y ((zA h).1 hy)⟩⟩
theorem Gz:∀ {l:List aQ} {p:aQ},List.Pairwise k5 (p::l)→(∀ x∈l,ea x=true)→∀ {x:aQ},x∈ei sJ (some p) l↔(x∈l∧dN x p≠0∧∀ y∈l,dN x y=0→¬ b7 y<b7 x)
 |[],_,_,_,_=>by simp [ei]
 |a::l,p,hs,ho,x=>by
  obtain ⟨hp,hs2⟩:=List.pairwise_cons.1 hs;obtain ⟨ha,_⟩:=List.pairwise_cons.1 hs2;have ih:=Gz hs2 (fun z hz=>ho z (List.mem_cons_of_mem _ hz)) (x:=x);have hpa:=hp a List.mem_cons_self;simp only [ei,Option.any_some]
  by_cases c:dN a p=0
  ·rw [if_pos (by exact decide_eq_true c),ih]
   have c' :=kU.1 c
   constructor
   ·rintro ⟨h1,h2,h3⟩
    refine ⟨List.mem_cons_of_mem _ h1,fun q=>h2 ?_,fun y hy hq=>?_⟩
    ·have:=kU.1 q;exact kU.2 ⟨by omega,by omega⟩
    ·rcases List.mem_cons.1 hy with rfl|hy
     ·exact absurd hq h2
     ·exact h3 y hy hq
   ·rintro ⟨h1,h2,h3⟩
    have h4:dN x a≠0:=fun q=>h2 (by have:=kU.1 q;exact kU.2 ⟨by omega,by omega⟩);refine ⟨?_,h4,fun y hy=>h3 y (List.mem_cons_of_mem _ hy)⟩
    rcases List.mem_cons.1 h1 with rfl|h1
    ·exact absurd c h2
    ·exact h1
  ·rw [if_neg (by simpa using c),List.mem_cons,ih]
   constructor
   ·rintro (rfl|⟨h1,h2,h3⟩)
    ·refine ⟨List.mem_cons_self,c,fun y hy hq=>?_⟩
     rcases List.mem_cons.1 hy with rfl|hy
     ·exact List.lt_irrefl _
     ·intro hb
      have:=ha y hy;have hz:=kU.1 hq
      rcases this with q|⟨q,q2|⟨q2,cH⟩⟩
      ·omega
      ·omega
      ·exact List.not_lt.2 cH hb
    ·refine ⟨List.mem_cons_of_mem _ h1,fun q=>?_,fun y hy hq=>?_⟩
     ·have q1:=kU.1 q
      have q2:¬ (a.2.1=p.2.1∧a.2.2.1=p.2.2.1):=fun q=>c (kU.2 q);have cH:=ha x h1;unfold k5 at hpa cH
      omega
     ·rcases List.mem_cons.1 hy with rfl|hy
      ·exact absurd hq h2
      ·exact h3 y hy hq
   ·rintro ⟨h1,h2,h3⟩
    by_cases e:dN x a=0
    ·left
     rcases List.mem_cons.1 h1 with h1|h1
     ·exact h1
     ·have h4:=h3 a List.mem_cons_self e
      have hz:=kU.1 e;refine EC (ho x (List.mem_cons_of_mem _ h1)) (ho a List.mem_cons_self) ?_
      rcases ha x h1 with q|⟨q,q2|⟨q2,cH⟩⟩
      ·omega
      ·omega
      ·exact List.le_antisymm (List.not_lt.1 h4) cH
    ·right
     rcases List.mem_cons.1 h1 with rfl|h1
     ·exact absurd (kU.2 ⟨rfl,rfl⟩) e
     ·exact ⟨h1,e,fun y hy=>h3 y (List.mem_cons_of_mem _ hy)⟩
theorem GA:∀ {l:List aQ} {p:aQ},List.Pairwise k5 (p::l)→pG (ei sJ (some p) l)∧∀ x∈ei sJ (some p) l,dN p x<0
 |[],_,_=>⟨.nil,fun _ h=>(by cases h)⟩
 |a::l,p,hs=>by
  obtain ⟨hp,hs2⟩:=List.pairwise_cons.1 hs;obtain ⟨i1,i2⟩:=GA hs2;have hpa:=hp a List.mem_cons_self;simp only [ei,Option.any_some]
  by_cases c:dN a p=0
  ·rw [if_pos (by exact decide_eq_true c)]
   refine ⟨i1,fun x hx=>?_⟩;have:=i2 x hx;rw [uB] at this ⊢;have:=kU.1 c
   omega
  ·rw [if_neg (by simpa using c)]
   have c2:dN p a<0:=by
    rw [uB];have q2:¬ (a.2.1=p.2.1∧a.2.2.1=p.2.2.1):=fun q=>c (kU.2 q);unfold k5 at hpa
    omega
   refine ⟨List.pairwise_cons.2 ⟨i2,i1⟩,fun x hx=>?_⟩
   rcases List.mem_cons.1 hx with rfl|hx
   ·exact c2
   ·exact Gs c2 (i2 x hx)
def qh (s:List aQ):List aQ:=ei sJ none s
theorem BM {s:List aQ} (hs:List.Pairwise k5 s) (ho:∀ x∈s,ea x=true) {x:aQ}:x∈qh s↔rQ s x:=by
 cases s with
 |nil=>simp [qh,ei,rQ]
 |cons a l =>
  have h:=Gz hs (fun z hz=>ho z (List.mem_cons_of_mem _ hz)) (x:=x);obtain ⟨ha,_⟩:=List.pairwise_cons.1 hs;unfold qh rQ;simp only [ei,Option.any_none,Bool.false_eq_true,if_false];rw [List.mem_cons,h]
  constructor
  ·rintro (rfl|⟨h1,h2,h3⟩)
   ·refine ⟨List.mem_cons_self,fun y hy hq=>?_⟩
    rcases List.mem_cons.1 hy with rfl|hy
    ·exact List.lt_irrefl _
    ·intro hb
     have hz:=kU.1 hq
     rcases ha y hy with q|⟨q,q2|⟨q2,cH⟩⟩
     ·omega
     ·omega
     ·exact List.not_lt.2 cH hb
   ·refine ⟨List.mem_cons_of_mem _ h1,fun y hy hq=>?_⟩
    rcases List.mem_cons.1 hy with rfl|hy
    ·exact absurd hq h2
    ·exact h3 y hy hq
  ·rintro ⟨h1,h3⟩
   by_cases e:dN x a=0
   ·left
    rcases List.mem_cons.1 h1 with h1|h1
    ·exact h1
    ·have h4:=h3 a List.mem_cons_self e
     have hz:=kU.1 e;refine EC (ho x (List.mem_cons_of_mem _ h1)) (ho a List.mem_cons_self) ?_
     rcases ha x h1 with q|⟨q,q2|⟨q2,cH⟩⟩
     ·omega
     ·omega
     ·exact List.le_antisymm (List.not_lt.1 h4) cH
   ·right
    rcases List.mem_cons.1 h1 with rfl|h1
    ·exact absurd (kU.2 ⟨rfl,rfl⟩) e
    ·exact ⟨h1,e,fun y hy=>h3 y (List.mem_cons_of_mem _ hy)⟩
theorem Md {s:List aQ} (hs:List.Pairwise k5 s):pG (qh s):=by
 cases s with
 |nil=>exact .nil
 |cons a l =>
  obtain ⟨h1,h2⟩:=GA hs;unfold qh;simp only [ei,Option.any_none,Bool.false_eq_true,if_false];exact List.pairwise_cons.2 ⟨h2,h1⟩
def rR (s:List aQ):List aQ:=(qh s).filter fun x=>!gZ (qh s) x
theorem IA {s:List aQ} (hs:List.Pairwise k5 s) (ho:∀ x∈s,ea x=true) {x:aQ}:x∈rR s↔isLeft s x:=by
 unfold rR isLeft gZ;rw [List.mem_filter,BM hs ho,Bool.not_eq_true',List.any_eq_false];refine and_congr_right fun _=>⟨fun h y hy hq=>?_,fun h y hy=>?_⟩
 ·have:=h y ((BM hs ho).2 hy)
  rw [Bool.and_eq_true,decide_eq_true_iff] at this;exact Bool.eq_false_iff.2 fun q=>this ⟨hq,q⟩
 ·rw [Bool.and_eq_true,decide_eq_true_iff]
  rintro ⟨q1,q2⟩;rw [h y ((BM hs ho).1 hy) q1] at q2
  cases q2
theorem IB {s:List aQ} (hs:List.Pairwise k5 s):pG (rR s):=(Md hs).filter _
def i_ (l:List aQ):List aQ:=rR (AA lB l)
theorem Kn (l:List aQ):List.Pairwise k5 (AA lB l):=by
 have h:=List.pairwise_mergeSort (le:=fun x y:aQ=>!(ltOf lB) y x) (fun a b c h1 h2=>?_) (fun a b=>?_) l
 ·exact h.imp fun {a b} q=>tu.2 (by simpa [u7] using q)
 ·simp only [Bool.not_eq_true',u7,decide_eq_false_iff_not,← tu] at h1 h2 ⊢
  exact IL h1 h2
 ·simp only [Bool.or_eq_true,Bool.not_eq_true',u7,decide_eq_false_iff_not,← tu]
  by_cases c:k5 a b
  ·exact .inl c
  ·right
   rw [tu,Classical.not_not,BI] at c
   rcases c with q|⟨q,q2|⟨q2,cH⟩⟩
   ·exact .inl q
   ·exact .inr ⟨q,.inl q2⟩
   ·exact .inr ⟨q,.inr ⟨q2,List.le_of_lt cH⟩⟩
theorem xo {l:List aQ} (ho:∀ x∈l,ea x=true) {x:aQ}:x∈i_ l↔isLeft l x:=by
 unfold i_;rw [IA (Kn l) (fun z hz=>ho z ((EW lB l).mem_iff.1 hz))];exact zz fun z=>(EW lB l).mem_iff
theorem zC (l:List aQ):pG (i_ l):=IB (Kn l)
theorem Q9 {l s:List aQ} (hp:s.Perm l) (hs:List.Pairwise k5 s) (ho:∀ x∈l,ea x=true):rR s=i_ l:=by
 refine Aq (IB hs) (zC l) fun x=>?_;rw [IA hs (fun z hz=>ho z (hp.mem_iff.1 hz)),xo ho];exact zz fun z=>hp.mem_iff
theorem Q5 {l o:List aQ} (ho:∀ x∈l,ea x=true) (h:pG o) (hm:∀ x,x∈o↔isLeft l x):o=i_ l :=
 Aq h (zC l) fun x=>by rw [hm,xo ho]
theorem Q2 {l l' :List aQ} (ho:∀ x∈l,ea x=true) (h:∀ x,x∈l↔x∈l'):i_ l=i_ l' :=
 Aq (zC l) (zC l') fun x=>by rw [xo ho,xo fun z hz=>ho z ((h z).2 hz)];exact zz h
end Go.Sp
end
