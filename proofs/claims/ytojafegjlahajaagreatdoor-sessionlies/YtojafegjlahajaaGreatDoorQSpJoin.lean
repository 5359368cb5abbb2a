/- Texts of this proof, one behind the other. -/
import Derived.Shelf.SortM.Plain
import Derived.Shelf.SortM.SortNone
import Derived.Shelf.SlSortCmp.NoneTotal
import Derived.Test.YtojafegjlahajaaGreatDoorQSpLaid
set_option linter.unusedSectionVars false
section
/- Texts of this proof, one behind the other. -/
section
/- Texts of this proof. -/
namespace Go.Sp
open Go.Proofs
variable {P:Program} {g:bk} {U ζ:List az}
def K7 (l:List (List UInt8)):List (List UInt8):=l.mergeSort fun x y=>decide (x≤y)
theorem Wu (l:List (List UInt8)):(K7 l).Perm l:=List.mergeSort_perm _ _
@[simp] theorem aat (l:List (List UInt8)):(K7 l).length=l.length:=(Wu l).length_eq
theorem Holds.grow {w:World} (h:Holds w g U) (os:Array Obj):Holds (Sort.grow w os) g U:=by
 obtain ⟨l⟩:=os
 induction l generalizing w with
 |nil=>simpa using h
 |cons o l ih =>
  have h1:Holds (w.alloc o) g U:=(h.alloc o).imp fun _ x=>Sat.tail x;have h2:=ih h1;have e:Sort.grow (w.alloc o) ⟨l⟩=Sort.grow w ⟨o::l⟩:=by rw [Sort.alloc_eq_grow,Sort.grow_grow];congr 1;apply Array.ext';simp
  rwa [e] at h2
end Go.Sp
end
section
/- Texts of this proof. -/
namespace Go.Sp
open Go.Proofs
variable {P:Program} {g:bk} {U ζ:List az}
theorem Holds.grown {w w' :World} (h:Holds w' w.rP []):∃ q os,w' =Sort.grow (w.drewN q) os:=by
 have hb:=h.below;obtain ⟨a,b,⟨c,d⟩,_⟩:=h;obtain ⟨_,_,_,hsz,hpre⟩:=hb;obtain ⟨heap',tape',drawn',os',out'⟩:=w';obtain ⟨heap,tape,drawn,os,out⟩:=w;simp only [World.rP] at a b c d;subst a b c;refine ⟨drawn' - drawn,heap'.extract heap.size heap'.size,?_⟩;have e1:drawn+(drawn' - drawn)=drawn' :=by have d' :drawn≤drawn' :=d;omega
 have e2:heap++heap'.extract heap.size heap'.size=heap' :=by
  apply Array.ext_getElem?
  intro i
  rw [Array.getElem?_append]
  split
  ·rename_i hi;exact (hpre i hi).symm
  ·rename_i hi
   rw [Array.getElem?_extract]
   split
   ·congr 1;omega
   ·rename_i h2;rw [Array.getElem?_eq_none (by omega)]
 simp only [Sort.grow,World.drewN,e1,e2]
def A_ {α:Type} (cf:α→α→Int) (l:List α):List α:=l.mergeSort fun x y=>!(ltOf cf) y x
theorem FG {α:Type} (cf:α→α→Int) (l:List α):(A_ cf l).Perm l:=List.mergeSort_perm _ _
@[simp] theorem Wq {α:Type} (cf:α→α→Int) (l:List α):(A_ cf l).length=l.length:=(FG cf l).length_eq
section
variable {α:Type} [Inhabited α] {enc:α→List Value} {k:Nat}
theorem s8 (hk:∀ x,(enc x).length=k) (h0:0<k):∀ (l:List α) (t:Nat),t<l.length*k→(l.map enc).flatten[t]! =(enc l[t / k]!)[t % k]!
 |[],t,h=>by simp at h
 |x::l,t,h=>by
  rw [List.map_cons,List.flatten_cons];have hx:=hk x
  by_cases ht:t<k
  ·rw [Nat.div_eq_of_lt ht,Nat.mod_eq_of_lt ht]
   rw [List.getElem!_eq_getElem?_getD,List.getElem?_append_left (by omega),List.getElem!_eq_getElem?_getD]
   rfl
  ·have h1:t / k=(t - k) / k+1:=by rw [← Nat.add_div_right _ h0];congr 1;omega
   have h2:t % k=(t - k) % k:=by
    have:t=(t - k)+k:=by omega
    rw [this,Nat.add_mod_right];congr 1;omega
   have h3:(x::l)[t / k]! =l[(t - k) / k]! :=by rw [h1];rfl
   rw [h2,h3,← s8 hk h0 l (t - k) (by rw [List.length_cons,Nat.add_mul,Nat.one_mul] at h;omega)];rw [List.getElem!_eq_getElem?_getD,List.getElem?_append_right (by omega),hx,List.getElem!_eq_getElem?_getD]
omit [Inhabited α] in
theorem CA (hk:∀ x,(enc x).length=k):∀ (l:List α),(l.map enc).flatten.length=l.length*k
 |[]=>by simp
 |x::l=>by rw [List.map_cons,List.flatten_cons,List.length_append,CA hk l,hk,List.length_cons,Nat.add_mul,Nat.one_mul,Nat.add_comm]
theorem HF (hk:∀ x,(enc x).length=k) (h0:0<k) (l:List α):(Sort.flatK enc k l.toArray).toList=(l.map enc).flatten:=by
 apply List.ext_getElem
 ·rw [CA hk];simp
 ·intro t h1 h2
  have ht:t<l.length*k:=by simpa using h1
  have h3:=s8 hk h0 l t ht;have h4:=Sort.get_flatK enc k l.toArray t (by simpa using ht);have e1:(Sort.flatK enc k l.toArray).toList[t]=(Sort.flatK enc k l.toArray)[t]! :=by rw [getElem!_pos _ t (by simpa using ht)];simp
  have e2:(l.map enc).flatten[t]=(l.map enc).flatten[t]! :=by rw [getElem!_pos _ t h2]
  rw [e1,e2,h3,h4]
  simp
omit [Inhabited α] in
theorem GZ (hk:∀ x,(enc x).length=k) (h1:∀ x,∀ v∈enc x,v.oneCell' =true):∀ l:List α,bV ((ag.cells k).rel Fr.emp) (l.map enc) (l.map enc)
 |[]=>trivial
 |x::l=>⟨⟨rfl,hk x,h1 x⟩,GZ hk h1 l⟩
theorem Gu :∀ {ak ds:List (List Value)},bV ((ag.cells k).rel Fr.emp) ak ds→ak=ds
 |[],[],_=>rfl
 |[],_::_,h=>h.elim
 |_::_,[],h=>h.elim
 |_::_,_::_,h=>by rw [h.1.1,Gu h.2]
end
end Go.Sp
end
end
section
/- Texts of this proof. -/
namespace Go.Sp
open Go.Proofs
def lT (x y:aP):Int:=if dQ x y≠0 then dQ x y else Lib.compareBytes (b9 x) (b9 y)
theorem B9 {x y:aP}:lT x y<0↔x.2.1<y.2.1∨x.2.1=y.2.1∧(x.2.2.1<y.2.2.1∨x.2.2.1=y.2.2.1∧b9 x<b9 y):=by
 unfold lT
 split
 ·rename_i h
  rw [u6]
  constructor
  ·rintro (h1|⟨h1,h2⟩)
   ·exact .inl h1
   ·exact .inr ⟨h1,.inl h2⟩
  ·rintro (h1|⟨h1,h2|⟨h2,_⟩⟩)
   ·exact .inl h1
   ·exact .inr ⟨h1,h2⟩
   ·exact absurd (B_.2 (by unfold iJ;rw [h1,h2])) h
 ·rename_i h
  have h1:=B_.1 (Classical.not_not.1 h);obtain ⟨h2,h3⟩:=Prod.mk.inj h1;obtain ⟨h3,_⟩:=Prod.mk.inj h3;rw [Ce];exact ⟨fun q=>.inr ⟨h2,.inr ⟨h3,q⟩⟩,fun q=>by
   rcases q with q|⟨_,q|⟨_,q⟩⟩
   ·omega
   ·omega
   ·exact q⟩
def lF (x y:aP):Prop:=x.2.1<y.2.1∨x.2.1=y.2.1∧(x.2.2.1<y.2.2.1∨x.2.2.1=y.2.2.1∧b9 x≤b9 y)
theorem tW {x y:aP}:lF x y↔¬ lT y x<0:=by
 rw [B9]
 constructor
 ·rintro (h|⟨h,h2|⟨h2,h3⟩⟩) (q|⟨q,q2|⟨q2,cF⟩⟩)<;>first|omega|exact List.not_lt.2 h3 cF
 ·intro h
  by_cases h1:x.2.1<y.2.1
  ·exact .inl h1
  by_cases h2:y.2.1<x.2.1
  ·exact absurd (.inl h2) h
  have h3:x.2.1=y.2.1:=by omega
  refine .inr ⟨h3,?_⟩
  by_cases h4:x.2.2.1<y.2.2.1
  ·exact .inl h4
  by_cases h5:y.2.2.1<x.2.2.1
  ·exact absurd (.inr ⟨h3.symm,.inl h5⟩) h
  have h6:x.2.2.1=y.2.2.1:=by omega
  exact .inr ⟨h6,List.not_lt.1 fun q=>h (.inr ⟨h3.symm,.inr ⟨h6.symm,q⟩⟩)⟩
theorem Jw {x y z:aP} (h:lF x y) (q:lF y z):lF x z:=by
 rcases h with h|⟨h,h2|⟨h2,h3⟩⟩<;>rcases q with q|⟨q,q2|⟨q2,cF⟩⟩<;>first|exact .inl (by omega)|exact .inr ⟨by omega,.inl (by omega)⟩|exact .inr ⟨by omega,.inr ⟨by omega,List.le_trans h3 cF⟩⟩
theorem vJ (x y:aP):ltOf lT x y=decide (lT x y<0):=rfl
theorem WK:Sort.SWO (ltOf lT) where
 irrefl x:=by rw [vJ,decide_eq_false_iff_not,← tW];exact .inr ⟨rfl,.inr ⟨rfl,List.le_refl _⟩⟩
 trans x y z h1 h2:=by
  rw [vJ,decide_eq_true_iff,B9] at h1 h2 ⊢
  rcases h1 with h|⟨h,qI |⟨qI,h3⟩⟩<;>rcases h2 with q|⟨q,q2|⟨q2,cF⟩⟩<;>first|exact .inl (by omega)|exact .inr ⟨by omega,.inl (by omega)⟩|exact .inr ⟨by omega,.inr ⟨by omega,List.lt_trans h3 cF⟩⟩
 ntrans x y z h1 h2:=by
  rw [vJ,decide_eq_false_iff_not,← tW] at h1 h2 ⊢;exact Jw h2 h1
abbrev pZ (l:List aP):Prop:=List.Pairwise (fun x y=>dQ x y<0) l
theorem G5 (x:aP):¬ dQ x x<0:=by rw [u6];omega
theorem M4 {x y:aP} (h:dQ x y<0):¬ dQ y x<0:=by rw [u6] at h ⊢;omega
theorem G6 {x y z:aP} (h:dQ x y<0) (h' :dQ y z<0):dQ x z<0:=by rw [u6] at h h' ⊢;omega
theorem lg {x y:aP}:dQ x y=0↔x.2.1=y.2.1∧x.2.2.1=y.2.2.1:=by
 rw [B_];unfold iJ;exact ⟨fun q=>⟨(Prod.mk.inj q).1,(Prod.mk.inj (Prod.mk.inj q).2).1⟩,fun q=>by rw [q.1,q.2]⟩
theorem AW:∀ {l l' :List aP},pZ l→pZ l' →(∀ x,x∈l↔x∈l')→l=l'
 |[],[],_,_,_=>rfl
 |[],y::_,_,_,h=>by have:=(h y).2 List.mem_cons_self;cases this
 |x::_,[],_,_,h=>by have:=(h x).1 List.mem_cons_self;cases this
 |x::l,y::l',h1,h2,h=>by
  obtain ⟨a1,b1⟩:=List.pairwise_cons.1 h1;obtain ⟨a2,b2⟩:=List.pairwise_cons.1 h2;have hxy:x=y:=by
   rcases List.mem_cons.1 ((h x).1 List.mem_cons_self) with e|e
   ·exact e
   ·rcases List.mem_cons.1 ((h y).2 List.mem_cons_self) with e' |e'
    ·exact e'.symm
    ·exact absurd (a1 _ e') (M4 (a2 _ e))
  subst hxy
  congr 1
  refine AW b1 b2 fun z=>⟨fun hz=>?_,fun hz=>?_⟩
  ·rcases List.mem_cons.1 ((h z).1 (List.mem_cons_of_mem _ hz)) with e|e
   ·subst e;exact absurd (a1 _ hz) (G5 _)
   ·exact e
  ·rcases List.mem_cons.1 ((h z).2 (List.mem_cons_of_mem _ hz)) with e|e
   ·subst e;exact absurd (a2 _ hz) (G5 _)
   ·exact e
def eu {α:Type} (eq:α→α→Bool):Option α→List α→List α
 |_,[]=>[]
 |p,x::l=>if (p.any fun y=>eq x y) then eu eq (some x) l else x::eu eq (some x) l
theorem Hf {α:Type} (eq:α→α→Bool) (x:α):∀ (p:Option α) (l:List α),eu eq p (l++[x])=eu eq p l++if ((l.getLast?.or p).any fun y=>eq x y) then [] else [x]
 |p,[]=>by
  cases h:(p.any fun y=>eq x y)<;>simp [eu,h]
 |p,a::l=>by
  have h:=Hf eq x (some a) l;have e:((a::l).getLast?.or p)=l.getLast?.or (some a):=by
   cases l with
   |nil=>rfl
   |cons b l=>rw [List.getLast?_cons_cons];cases h:(b::l).getLast? with
    |none=>simp at h
    |some z=>rfl
  rw [List.cons_append,e];simp only [eu]
  split
  ·exact h
  ·rw [h,List.cons_append]
theorem G_ {α β:Type} (f:α→β) (eq:β→β→Bool):∀ (p:Option α) (l:List α),(eu (fun x y=>eq (f x) (f y)) p l).map f=eu eq (p.map f) (l.map f)
 |_,[]=>rfl
 |p,x::l=>by
  have h:=G_ f eq (some x) l;have e:(p.any fun y=>eq (f x) (f y))=((p.map f).any fun y=>eq (f x) y):=by cases p<;>rfl
  simp only [eu,List.map_cons,e]
  split
  ·exact h
  ·rw [List.map_cons,h];rfl
theorem Cb {α:Type} (eq:α→α→Bool):∀ (p:Option α) (l:List α),(eu eq p l).length≤l.length
 |_,[]=>Nat.le_refl _
 |p,x::l=>by
  have h:=Cb eq (some x) l;simp only [eu,List.length_cons]
  split
  ·omega
  ·rw [List.length_cons];omega
abbrev s6 (x y:aP):Bool:=decide (dQ x y=0)
def r5 (l:List aP) (x:aP):Prop:=x∈l∧∀ y∈l,dQ x y=0→¬ b9 y<b9 x
def isLeft (l:List aP) (x:aP):Prop:=r5 l x∧∀ y,r5 l y→dQ x y≠0→over y x=false
theorem Ac {l l' :List aP} (h:∀ x,x∈l↔x∈l') {x:aP}:r5 l x↔r5 l' x :=
 ⟨fun ⟨a,b⟩=>⟨(h x).1 a,fun y hy=>b y ((h y).2 hy)⟩,fun ⟨a,b⟩=>⟨(h x).2 a,fun y hy=>b y ((h y).1 hy)⟩⟩
theorem Ab {l l' :List aP} (h:∀ x,x∈l↔x∈l') {x:aP}:isLeft l x↔isLeft l' x :=
 ⟨fun ⟨a,b⟩=>⟨(Ac h).1 a,fun y hy=>b y ((Ac h).2 hy)⟩,fun ⟨a,b⟩=>⟨(Ac h).2 a,fun y hy=>b y ((Ac h).1 hy)⟩⟩
theorem Hg:∀ {l:List aP} {p:aP},List.Pairwise lF (p::l)→(∀ x∈l,ee x=true)→∀ {x:aP},x∈eu s6 (some p) l↔(x∈l∧dQ x p≠0∧∀ y∈l,dQ x y=0→¬ b9 y<b9 x)
 |[],_,_,_,_=>by simp [eu]
 |a::l,p,hs,ho,x=>by
  obtain ⟨hp,hs2⟩:=List.pairwise_cons.1 hs;obtain ⟨ha,_⟩:=List.pairwise_cons.1 hs2;have ih:=Hg hs2 (fun z hz=>ho z (List.mem_cons_of_mem _ hz)) (x:=x);have hpa:=hp a List.mem_cons_self;simp only [eu,Option.any_some]
  by_cases c:dQ a p=0
  ·rw [if_pos (by exact decide_eq_true c),ih]
   have c' :=lg.1 c
   constructor
   ·rintro ⟨h1,h2,h3⟩
    refine ⟨List.mem_cons_of_mem _ h1,fun q=>h2 ?_,fun y hy hq=>?_⟩
    ·have:=lg.1 q;exact lg.2 ⟨by omega,by omega⟩
    ·rcases List.mem_cons.1 hy with rfl|hy
     ·exact absurd hq h2
     ·exact h3 y hy hq
   ·rintro ⟨h1,h2,h3⟩
    have h4:dQ x a≠0:=fun q=>h2 (by have:=lg.1 q;exact lg.2 ⟨by omega,by omega⟩);refine ⟨?_,h4,fun y hy=>h3 y (List.mem_cons_of_mem _ hy)⟩
    rcases List.mem_cons.1 h1 with rfl|h1
    ·exact absurd c h2
    ·exact h1
  ·rw [if_neg (by simpa using c),List.mem_cons,ih]
   constructor
   ·rintro (rfl|⟨h1,h2,h3⟩)
    ·refine ⟨List.mem_cons_self,c,fun y hy hq=>?_⟩
     rcases List.mem_cons.1 hy with rfl|hy
     ·exact List.lt_irrefl _
     ·intro hb
      have:=ha y hy;have hz:=lg.1 hq
      rcases this with q|⟨q,q2|⟨q2,cF⟩⟩
      ·omega
      ·omega
      ·exact List.not_lt.2 cF hb
    ·refine ⟨List.mem_cons_of_mem _ h1,fun q=>?_,fun y hy hq=>?_⟩
     ·have q1:=lg.1 q
      have q2:¬ (a.2.1=p.2.1∧a.2.2.1=p.2.2.1):=fun q=>c (lg.2 q);have cF:=ha x h1;unfold lF at hpa cF
      omega
     ·rcases List.mem_cons.1 hy with rfl|hy
      ·exact absurd hq h2
      ·exact h3 y hy hq
   ·rintro ⟨h1,h2,h3⟩
    by_cases e:dQ x a=0
    ·left
     rcases List.mem_cons.1 h1 with h1|h1
     ·exact h1
     ·have h4:=h3 a List.mem_cons_self e
      have hz:=lg.1 e;refine Fp (ho x (List.mem_cons_of_mem _ h1)) (ho a List.mem_cons_self) ?_
      rcases ha x h1 with q|⟨q,q2|⟨q2,cF⟩⟩
      ·omega
      ·omega
      ·exact List.le_antisymm (List.not_lt.1 h4) cF
    ·right
     rcases List.mem_cons.1 h1 with rfl|h1
     ·exact absurd (lg.2 ⟨rfl,rfl⟩) e
     ·exact ⟨h1,e,fun y hy=>h3 y (List.mem_cons_of_mem _ hy)⟩
theorem Hh:∀ {l:List aP} {p:aP},List.Pairwise lF (p::l)→pZ (eu s6 (some p) l)∧∀ x∈eu s6 (some p) l,dQ p x<0
 |[],_,_=>⟨.nil,fun _ h=>(by cases h)⟩
 |a::l,p,hs=>by
  obtain ⟨hp,hs2⟩:=List.pairwise_cons.1 hs;obtain ⟨i1,i2⟩:=Hh hs2;have hpa:=hp a List.mem_cons_self;simp only [eu,Option.any_some]
  by_cases c:dQ a p=0
  ·rw [if_pos (by exact decide_eq_true c)]
   refine ⟨i1,fun x hx=>?_⟩;have:=i2 x hx;rw [u6] at this ⊢;have:=lg.1 c
   omega
  ·rw [if_neg (by simpa using c)]
   have c2:dQ p a<0:=by
    rw [u6];have q2:¬ (a.2.1=p.2.1∧a.2.2.1=p.2.2.1):=fun q=>c (lg.2 q);unfold lF at hpa
    omega
   refine ⟨List.pairwise_cons.2 ⟨i2,i1⟩,fun x hx=>?_⟩
   rcases List.mem_cons.1 hx with rfl|hx
   ·exact c2
   ·exact G6 c2 (i2 x hx)
def qD (s:List aP):List aP:=eu s6 none s
theorem Cc {s:List aP} (hs:List.Pairwise lF s) (ho:∀ x∈s,ee x=true) {x:aP}:x∈qD s↔r5 s x:=by
 cases s with
 |nil=>simp [qD,eu,r5]
 |cons a l =>
  have h:=Hg hs (fun z hz=>ho z (List.mem_cons_of_mem _ hz)) (x:=x);obtain ⟨ha,_⟩:=List.pairwise_cons.1 hs;unfold qD r5;simp only [eu,Option.any_none,Bool.false_eq_true,if_false];rw [List.mem_cons,h]
  constructor
  ·rintro (rfl|⟨h1,h2,h3⟩)
   ·refine ⟨List.mem_cons_self,fun y hy hq=>?_⟩
    rcases List.mem_cons.1 hy with rfl|hy
    ·exact List.lt_irrefl _
    ·intro hb
     have hz:=lg.1 hq
     rcases ha y hy with q|⟨q,q2|⟨q2,cF⟩⟩
     ·omega
     ·omega
     ·exact List.not_lt.2 cF hb
   ·refine ⟨List.mem_cons_of_mem _ h1,fun y hy hq=>?_⟩
    rcases List.mem_cons.1 hy with rfl|hy
    ·exact absurd hq h2
    ·exact h3 y hy hq
  ·rintro ⟨h1,h3⟩
   by_cases e:dQ x a=0
   ·left
    rcases List.mem_cons.1 h1 with h1|h1
    ·exact h1
    ·have h4:=h3 a List.mem_cons_self e
     have hz:=lg.1 e;refine Fp (ho x (List.mem_cons_of_mem _ h1)) (ho a List.mem_cons_self) ?_
     rcases ha x h1 with q|⟨q,q2|⟨q2,cF⟩⟩
     ·omega
     ·omega
     ·exact List.le_antisymm (List.not_lt.1 h4) cF
   ·right
    rcases List.mem_cons.1 h1 with rfl|h1
    ·exact absurd (lg.2 ⟨rfl,rfl⟩) e
    ·exact ⟨h1,e,fun y hy=>h3 y (List.mem_cons_of_mem _ hy)⟩
theorem M7 {s:List aP} (hs:List.Pairwise lF s):pZ (qD s):=by
 cases s with
 |nil=>exact .nil
 |cons a l =>
  obtain ⟨h1,h2⟩:=Hh hs;unfold qD;simp only [eu,Option.any_none,Bool.false_eq_true,if_false];exact List.pairwise_cons.2 ⟨h2,h1⟩
def r6 (s:List aP):List aP:=(qD s).filter fun x=>!iq (qD s) x
theorem Jm {s:List aP} (hs:List.Pairwise lF s) (ho:∀ x∈s,ee x=true) {x:aP}:x∈r6 s↔isLeft s x:=by
 unfold r6 isLeft iq;rw [List.mem_filter,Cc hs ho,Bool.not_eq_true',List.any_eq_false];refine and_congr_right fun _=>⟨fun h y hy hq=>?_,fun h y hy=>?_⟩
 ·have:=h y ((Cc hs ho).2 hy)
  rw [Bool.and_eq_true,decide_eq_true_iff] at this;exact Bool.eq_false_iff.2 fun q=>this ⟨hq,q⟩
 ·rw [Bool.and_eq_true,decide_eq_true_iff]
  rintro ⟨q1,q2⟩;rw [h y ((Cc hs ho).1 hy) q1] at q2
  cases q2
theorem Jn {s:List aP} (hs:List.Pairwise lF s):pZ (r6 s):=(M7 hs).filter _
def jo (l:List aP):List aP:=r6 (A_ lT l)
theorem K6 (l:List aP):List.Pairwise lF (A_ lT l):=by
 have h:=List.pairwise_mergeSort (le:=fun x y:aP=>!(ltOf lT) y x) (fun a b c h1 h2=>?_) (fun a b=>?_) l
 ·exact h.imp fun {a b} q=>tW.2 (by simpa [vJ] using q)
 ·simp only [Bool.not_eq_true',vJ,decide_eq_false_iff_not,← tW] at h1 h2 ⊢
  exact Jw h1 h2
 ·simp only [Bool.or_eq_true,Bool.not_eq_true',vJ,decide_eq_false_iff_not,← tW]
  by_cases c:lF a b
  ·exact .inl c
  ·right
   rw [tW,Classical.not_not,B9] at c
   rcases c with q|⟨q,q2|⟨q2,cF⟩⟩
   ·exact .inl q
   ·exact .inr ⟨q,.inl q2⟩
   ·exact .inr ⟨q,.inr ⟨q2,List.le_of_lt cF⟩⟩
theorem xV {l:List aP} (ho:∀ x∈l,ee x=true) {x:aP}:x∈jo l↔isLeft l x:=by
 unfold jo;rw [Jm (K6 l) (fun z hz=>ho z ((FG lT l).mem_iff.1 hz))];exact Ab fun z=>(FG lT l).mem_iff
theorem Ae (l:List aP):pZ (jo l):=Jn (K6 l)
theorem Sx {l s:List aP} (hp:s.Perm l) (hs:List.Pairwise lF s) (ho:∀ x∈l,ee x=true):r6 s=jo l:=by
 refine AW (Jn hs) (Ae l) fun x=>?_;rw [Jm hs (fun z hz=>ho z (hp.mem_iff.1 hz)),xV ho];exact Ab fun z=>hp.mem_iff
theorem St {l o:List aP} (ho:∀ x∈l,ee x=true) (h:pZ o) (hm:∀ x,x∈o↔isLeft l x):o=jo l :=
 AW h (Ae l) fun x=>by rw [hm,xV ho]
theorem Sq {l l' :List aP} (ho:∀ x∈l,ee x=true) (h:∀ x,x∈l↔x∈l'):jo l=jo l' :=
 AW (Ae l) (Ae l') fun x=>by rw [xV ho,xV fun z hz=>ho z ((h z).2 hz)];exact Ab h
end Go.Sp
end
