/- Texts of this proof, one behind the other. -/
import Derived.Shelf.SortM.Plain
import Derived.Shelf.SortM.SortNone
import Derived.Shelf.SlSortCmp.NoneTotal
import Derived.Test.YtojafegjlahajaaGreatDoorQSpLaid
set_option linter.unusedSectionVars false
section
/- Texts of this proof, one behind the other. -/
section
/- Texts of this proof. -/
namespace Go.Sp
open Go.Proofs
variable {P:Program} {g:Gr} {η ζ:List SProp}
def sortT (l:List (List UInt8)):List (List UInt8):=l.mergeSort fun x y=>decide (x≤y)
theorem sortT_perm (l:List (List UInt8)):(sortT l).Perm l:=List.mergeSort_perm _ _
@[simp] theorem sortT_length (l:List (List UInt8)):(sortT l).length=l.length:=(sortT_perm l).length_eq
theorem Holds.grow {w:World} (h:Holds w g η) (os:Array Obj):Holds (Sort.grow w os) g η:=by
 obtain ⟨l⟩:=os
 induction l generalizing w with
 |nil=>simpa using h
 |cons o l ih =>
  have h1:Holds (w.alloc o) g η:=(h.alloc o).imp fun _ x=>Sat.tail x;have h2:=ih h1;have e:Sort.grow (w.alloc o) ⟨l⟩=Sort.grow w ⟨o::l⟩:=by rw [Sort.alloc_eq_grow,Sort.grow_grow];congr 1;apply Array.ext';simp
  rwa [e] at h2
end Go.Sp
end
section
/- Texts of this proof. -/
namespace Go.Sp
open Go.Proofs
variable {P:Program} {g:Gr} {η ζ:List SProp}
theorem Holds.grown {w w' :World} (h:Holds w' w.gr []):∃ q os,w' =Sort.grow (w.drewN q) os:=by
 have hb:=h.below;obtain ⟨a,b,⟨c,d⟩,_⟩:=h;obtain ⟨_,_,_,hsz,hpre⟩:=hb;obtain ⟨heap',tape',drawn',os',out'⟩:=w';obtain ⟨heap,tape,drawn,os,out⟩:=w;simp only [World.gr] at a b c d;subst a b c;refine ⟨drawn' - drawn,heap'.extract heap.size heap'.size,?_⟩;have e1:drawn+(drawn' - drawn)=drawn' :=by have d' :drawn≤drawn' :=d;omega
 have e2:heap++heap'.extract heap.size heap'.size=heap' :=by
  apply Array.ext_getElem?
  intro i
  rw [Array.getElem?_append]
  split
  ·rename_i hi;exact (hpre i hi).symm
  ·rename_i hi
   rw [Array.getElem?_extract]
   split
   ·congr 1;omega
   ·rename_i h2;rw [Array.getElem?_eq_none (by omega)]
 simp only [Sort.grow,World.drewN,e1,e2]
def sortF {α:Type} (cf:α→α→Int) (l:List α):List α:=l.mergeSort fun x y=>!(ltOf cf) y x
theorem sortF_perm {α:Type} (cf:α→α→Int) (l:List α):(sortF cf l).Perm l:=List.mergeSort_perm _ _
@[simp] theorem sortF_length {α:Type} (cf:α→α→Int) (l:List α):(sortF cf l).length=l.length:=(sortF_perm cf l).length_eq
section
variable {α:Type} [Inhabited α] {enc:α→List Value} {k:Nat}
theorem flat_get (hk:∀ x,(enc x).length=k) (h0:0<k):∀ (l:List α) (t:Nat),t<l.length*k→(l.map enc).flatten[t]! =(enc l[t / k]!)[t % k]!
 |[],t,h=>by simp at h
 |x::l,t,h=>by
  rw [List.map_cons,List.flatten_cons];have hx:=hk x
  by_cases ht:t<k
  ·rw [Nat.div_eq_of_lt ht,Nat.mod_eq_of_lt ht]
   rw [List.getElem!_eq_getElem?_getD,List.getElem?_append_left (by omega),List.getElem!_eq_getElem?_getD]
   rfl
  ·have h1:t / k=(t - k) / k+1:=by rw [← Nat.add_div_right _ h0];congr 1;omega
   have h2:t % k=(t - k) % k:=by
    have:t=(t - k)+k:=by omega
    rw [this,Nat.add_mod_right];congr 1;omega
   have h3:(x::l)[t / k]! =l[(t - k) / k]! :=by rw [h1];rfl
   rw [h2,h3,← flat_get hk h0 l (t - k) (by rw [List.length_cons,Nat.add_mul,Nat.one_mul] at h;omega)];rw [List.getElem!_eq_getElem?_getD,List.getElem?_append_right (by omega),hx,List.getElem!_eq_getElem?_getD]
omit [Inhabited α] in
theorem flat_len (hk:∀ x,(enc x).length=k):∀ (l:List α),(l.map enc).flatten.length=l.length*k
 |[]=>by simp
 |x::l=>by rw [List.map_cons,List.flatten_cons,List.length_append,flat_len hk l,hk,List.length_cons,Nat.add_mul,Nat.one_mul,Nat.add_comm]
theorem flatK_list (hk:∀ x,(enc x).length=k) (h0:0<k) (l:List α):(Sort.flatK enc k l.toArray).toList=(l.map enc).flatten:=by
 apply List.ext_getElem
 ·rw [flat_len hk];simp
 ·intro t h1 h2
  have ht:t<l.length*k:=by simpa using h1
  have h3:=flat_get hk h0 l t ht;have h4:=Sort.get_flatK enc k l.toArray t (by simpa using ht);have e1:(Sort.flatK enc k l.toArray).toList[t]=(Sort.flatK enc k l.toArray)[t]! :=by rw [getElem!_pos _ t (by simpa using ht)];simp
  have e2:(l.map enc).flatten[t]=(l.map enc).flatten[t]! :=by rw [getElem!_pos _ t h2]
  rw [e1,e2,h3,h4]
  simp
omit [Inhabited α] in
theorem cells_all2 (hk:∀ x,(enc x).length=k) (h1:∀ x,∀ v∈enc x,v.oneCell' =true):∀ l:List α,All2 ((Rp.cells k).rel Fr.emp) (l.map enc) (l.map enc)
 |[]=>trivial
 |x::l=>⟨⟨rfl,hk x,h1 x⟩,cells_all2 hk h1 l⟩
theorem all2_cells' :∀ {css ds:List (List Value)},All2 ((Rp.cells k).rel Fr.emp) css ds→css=ds
 |[],[],_=>rfl
 |[],_::_,h=>h.elim
 |_::_,[],h=>h.elim
 |_::_,_::_,h=>by rw [h.1.1,all2_cells' h.2]
end
end Go.Sp
end
end
section
/- Texts of this proof. -/
namespace Go.Sp
open Go.Proofs
def cmpIt (x y:RecT):Int:=if cmpR x y≠0 then cmpR x y else Lib.compareBytes (recB x) (recB y)
theorem cmpIt_lt {x y:RecT}:cmpIt x y<0↔x.2.1<y.2.1∨x.2.1=y.2.1∧(x.2.2.1<y.2.2.1∨x.2.2.1=y.2.2.1∧recB x<recB y):=by
 unfold cmpIt
 split
 ·rename_i h
  rw [cmpR_lt]
  constructor
  ·rintro (h1|⟨h1,h2⟩)
   ·exact .inl h1
   ·exact .inr ⟨h1,.inl h2⟩
  ·rintro (h1|⟨h1,h2|⟨h2,_⟩⟩)
   ·exact .inl h1
   ·exact .inr ⟨h1,h2⟩
   ·exact absurd (cmpR_eq.2 (by unfold rDot;rw [h1,h2])) h
 ·rename_i h
  have h1:=cmpR_eq.1 (Classical.not_not.1 h);obtain ⟨h2,h3⟩:=Prod.mk.inj h1;obtain ⟨h3,_⟩:=Prod.mk.inj h3;rw [compareBytes_lt];exact ⟨fun q=>.inr ⟨h2,.inr ⟨h3,q⟩⟩,fun q=>by
   rcases q with q|⟨_,q|⟨_,q⟩⟩
   ·omega
   ·omega
   ·exact q⟩
def leIt (x y:RecT):Prop:=x.2.1<y.2.1∨x.2.1=y.2.1∧(x.2.2.1<y.2.2.1∨x.2.2.1=y.2.2.1∧recB x≤recB y)
theorem leIt_iff {x y:RecT}:leIt x y↔¬ cmpIt y x<0:=by
 rw [cmpIt_lt]
 constructor
 ·rintro (h|⟨h,h2|⟨h2,h3⟩⟩) (q|⟨q,q2|⟨q2,q3⟩⟩)<;>first|omega|exact List.not_lt.2 h3 q3
 ·intro h
  by_cases h1:x.2.1<y.2.1
  ·exact .inl h1
  by_cases h2:y.2.1<x.2.1
  ·exact absurd (.inl h2) h
  have h3:x.2.1=y.2.1:=by omega
  refine .inr ⟨h3,?_⟩
  by_cases h4:x.2.2.1<y.2.2.1
  ·exact .inl h4
  by_cases h5:y.2.2.1<x.2.2.1
  ·exact absurd (.inr ⟨h3.symm,.inl h5⟩) h
  have h6:x.2.2.1=y.2.2.1:=by omega
  exact .inr ⟨h6,List.not_lt.1 fun q=>h (.inr ⟨h3.symm,.inr ⟨h6.symm,q⟩⟩)⟩
theorem leIt_trans {x y z:RecT} (h:leIt x y) (q:leIt y z):leIt x z:=by
 rcases h with h|⟨h,h2|⟨h2,h3⟩⟩<;>rcases q with q|⟨q,q2|⟨q2,q3⟩⟩<;>first|exact .inl (by omega)|exact .inr ⟨by omega,.inl (by omega)⟩|exact .inr ⟨by omega,.inr ⟨by omega,List.le_trans h3 q3⟩⟩
theorem ltIt (x y:RecT):ltOf cmpIt x y=decide (cmpIt x y<0):=rfl
theorem swoIt:Sort.SWO (ltOf cmpIt) where
 irrefl x:=by rw [ltIt,decide_eq_false_iff_not,← leIt_iff];exact .inr ⟨rfl,.inr ⟨rfl,List.le_refl _⟩⟩
 trans x y z h1 h2:=by
  rw [ltIt,decide_eq_true_iff,cmpIt_lt] at h1 h2 ⊢
  rcases h1 with h|⟨h,h2' |⟨h2',h3⟩⟩<;>rcases h2 with q|⟨q,q2|⟨q2,q3⟩⟩<;>first|exact .inl (by omega)|exact .inr ⟨by omega,.inl (by omega)⟩|exact .inr ⟨by omega,.inr ⟨by omega,List.lt_trans h3 q3⟩⟩
 ntrans x y z h1 h2:=by
  rw [ltIt,decide_eq_false_iff_not,← leIt_iff] at h1 h2 ⊢;exact leIt_trans h2 h1
abbrev RisesR (l:List RecT):Prop:=List.Pairwise (fun x y=>cmpR x y<0) l
theorem cmpR_irr (x:RecT):¬ cmpR x x<0:=by rw [cmpR_lt];omega
theorem cmpR_asym {x y:RecT} (h:cmpR x y<0):¬ cmpR y x<0:=by rw [cmpR_lt] at h ⊢;omega
theorem cmpR_trans {x y z:RecT} (h:cmpR x y<0) (h' :cmpR y z<0):cmpR x z<0:=by rw [cmpR_lt] at h h' ⊢;omega
theorem cmpR_z {x y:RecT}:cmpR x y=0↔x.2.1=y.2.1∧x.2.2.1=y.2.2.1:=by
 rw [cmpR_eq];unfold rDot;exact ⟨fun q=>⟨(Prod.mk.inj q).1,(Prod.mk.inj (Prod.mk.inj q).2).1⟩,fun q=>by rw [q.1,q.2]⟩
theorem risesR_ext:∀ {l l' :List RecT},RisesR l→RisesR l' →(∀ x,x∈l↔x∈l')→l=l'
 |[],[],_,_,_=>rfl
 |[],y::_,_,_,h=>by have:=(h y).2 List.mem_cons_self;cases this
 |x::_,[],_,_,h=>by have:=(h x).1 List.mem_cons_self;cases this
 |x::l,y::l',h1,h2,h=>by
  obtain ⟨a1,b1⟩:=List.pairwise_cons.1 h1;obtain ⟨a2,b2⟩:=List.pairwise_cons.1 h2;have hxy:x=y:=by
   rcases List.mem_cons.1 ((h x).1 List.mem_cons_self) with e|e
   ·exact e
   ·rcases List.mem_cons.1 ((h y).2 List.mem_cons_self) with e' |e'
    ·exact e'.symm
    ·exact absurd (a1 _ e') (cmpR_asym (a2 _ e))
  subst hxy
  congr 1
  refine risesR_ext b1 b2 fun z=>⟨fun hz=>?_,fun hz=>?_⟩
  ·rcases List.mem_cons.1 ((h z).1 (List.mem_cons_of_mem _ hz)) with e|e
   ·subst e;exact absurd (a1 _ hz) (cmpR_irr _)
   ·exact e
  ·rcases List.mem_cons.1 ((h z).2 (List.mem_cons_of_mem _ hz)) with e|e
   ·subst e;exact absurd (a2 _ hz) (cmpR_irr _)
   ·exact e
def compF {α:Type} (eq:α→α→Bool):Option α→List α→List α
 |_,[]=>[]
 |p,x::l=>if (p.any fun y=>eq x y) then compF eq (some x) l else x::compF eq (some x) l
theorem compF_snoc {α:Type} (eq:α→α→Bool) (x:α):∀ (p:Option α) (l:List α),compF eq p (l++[x])=compF eq p l++if ((l.getLast?.or p).any fun y=>eq x y) then [] else [x]
 |p,[]=>by
  cases h:(p.any fun y=>eq x y)<;>simp [compF,h]
 |p,a::l=>by
  have h:=compF_snoc eq x (some a) l;have e:((a::l).getLast?.or p)=l.getLast?.or (some a):=by
   cases l with
   |nil=>rfl
   |cons b l=>rw [List.getLast?_cons_cons];cases h:(b::l).getLast? with
    |none=>simp at h
    |some z=>rfl
  rw [List.cons_append,e];simp only [compF]
  split
  ·exact h
  ·rw [h,List.cons_append]
theorem compF_map {α β:Type} (f:α→β) (eq:β→β→Bool):∀ (p:Option α) (l:List α),(compF (fun x y=>eq (f x) (f y)) p l).map f=compF eq (p.map f) (l.map f)
 |_,[]=>rfl
 |p,x::l=>by
  have h:=compF_map f eq (some x) l;have e:(p.any fun y=>eq (f x) (f y))=((p.map f).any fun y=>eq (f x) y):=by cases p<;>rfl
  simp only [compF,List.map_cons,e]
  split
  ·exact h
  ·rw [List.map_cons,h];rfl
theorem compF_sub {α:Type} (eq:α→α→Bool):∀ (p:Option α) (l:List α),(compF eq p l).length≤l.length
 |_,[]=>Nat.le_refl _
 |p,x::l=>by
  have h:=compF_sub eq (some x) l;simp only [compF,List.length_cons]
  split
  ·omega
  ·rw [List.length_cons];omega
abbrev eqDot (x y:RecT):Bool:=decide (cmpR x y=0)
def isMin (l:List RecT) (x:RecT):Prop:=x∈l∧∀ y∈l,cmpR x y=0→¬ recB y<recB x
def isLeft (l:List RecT) (x:RecT):Prop:=isMin l x∧∀ y,isMin l y→cmpR x y≠0→over y x=false
theorem isMin_congr {l l' :List RecT} (h:∀ x,x∈l↔x∈l') {x:RecT}:isMin l x↔isMin l' x :=
 ⟨fun ⟨a,b⟩=>⟨(h x).1 a,fun y hy=>b y ((h y).2 hy)⟩,fun ⟨a,b⟩=>⟨(h x).2 a,fun y hy=>b y ((h y).1 hy)⟩⟩
theorem isLeft_congr {l l' :List RecT} (h:∀ x,x∈l↔x∈l') {x:RecT}:isLeft l x↔isLeft l' x :=
 ⟨fun ⟨a,b⟩=>⟨(isMin_congr h).1 a,fun y hy=>b y ((isMin_congr h).2 hy)⟩,fun ⟨a,b⟩=>⟨(isMin_congr h).2 a,fun y hy=>b y ((isMin_congr h).1 hy)⟩⟩
theorem comp_mem:∀ {l:List RecT} {p:RecT},List.Pairwise leIt (p::l)→(∀ x∈l,recOk x=true)→∀ {x:RecT},x∈compF eqDot (some p) l↔(x∈l∧cmpR x p≠0∧∀ y∈l,cmpR x y=0→¬ recB y<recB x)
 |[],_,_,_,_=>by simp [compF]
 |a::l,p,hs,ho,x=>by
  obtain ⟨hp,hs2⟩:=List.pairwise_cons.1 hs;obtain ⟨ha,_⟩:=List.pairwise_cons.1 hs2;have ih:=comp_mem hs2 (fun z hz=>ho z (List.mem_cons_of_mem _ hz)) (x:=x);have hpa:=hp a List.mem_cons_self;simp only [compF,Option.any_some]
  by_cases c:cmpR a p=0
  ·rw [if_pos (by exact decide_eq_true c),ih]
   have c' :=cmpR_z.1 c
   constructor
   ·rintro ⟨h1,h2,h3⟩
    refine ⟨List.mem_cons_of_mem _ h1,fun q=>h2 ?_,fun y hy hq=>?_⟩
    ·have:=cmpR_z.1 q;exact cmpR_z.2 ⟨by omega,by omega⟩
    ·rcases List.mem_cons.1 hy with rfl|hy
     ·exact absurd hq h2
     ·exact h3 y hy hq
   ·rintro ⟨h1,h2,h3⟩
    have h4:cmpR x a≠0:=fun q=>h2 (by have:=cmpR_z.1 q;exact cmpR_z.2 ⟨by omega,by omega⟩);refine ⟨?_,h4,fun y hy=>h3 y (List.mem_cons_of_mem _ hy)⟩
    rcases List.mem_cons.1 h1 with rfl|h1
    ·exact absurd c h2
    ·exact h1
  ·rw [if_neg (by simpa using c),List.mem_cons,ih]
   constructor
   ·rintro (rfl|⟨h1,h2,h3⟩)
    ·refine ⟨List.mem_cons_self,c,fun y hy hq=>?_⟩
     rcases List.mem_cons.1 hy with rfl|hy
     ·exact List.lt_irrefl _
     ·intro hb
      have:=ha y hy;have hz:=cmpR_z.1 hq
      rcases this with q|⟨q,q2|⟨q2,q3⟩⟩
      ·omega
      ·omega
      ·exact List.not_lt.2 q3 hb
    ·refine ⟨List.mem_cons_of_mem _ h1,fun q=>?_,fun y hy hq=>?_⟩
     ·have q1:=cmpR_z.1 q
      have q2:¬ (a.2.1=p.2.1∧a.2.2.1=p.2.2.1):=fun q=>c (cmpR_z.2 q);have q3:=ha x h1;unfold leIt at hpa q3
      omega
     ·rcases List.mem_cons.1 hy with rfl|hy
      ·exact absurd hq h2
      ·exact h3 y hy hq
   ·rintro ⟨h1,h2,h3⟩
    by_cases e:cmpR x a=0
    ·left
     rcases List.mem_cons.1 h1 with h1|h1
     ·exact h1
     ·have h4:=h3 a List.mem_cons_self e
      have hz:=cmpR_z.1 e;refine recB_inj (ho x (List.mem_cons_of_mem _ h1)) (ho a List.mem_cons_self) ?_
      rcases ha x h1 with q|⟨q,q2|⟨q2,q3⟩⟩
      ·omega
      ·omega
      ·exact List.le_antisymm (List.not_lt.1 h4) q3
    ·right
     rcases List.mem_cons.1 h1 with rfl|h1
     ·exact absurd (cmpR_z.2 ⟨rfl,rfl⟩) e
     ·exact ⟨h1,e,fun y hy=>h3 y (List.mem_cons_of_mem _ hy)⟩
theorem comp_rises:∀ {l:List RecT} {p:RecT},List.Pairwise leIt (p::l)→RisesR (compF eqDot (some p) l)∧∀ x∈compF eqDot (some p) l,cmpR p x<0
 |[],_,_=>⟨.nil,fun _ h=>(by cases h)⟩
 |a::l,p,hs=>by
  obtain ⟨hp,hs2⟩:=List.pairwise_cons.1 hs;obtain ⟨i1,i2⟩:=comp_rises hs2;have hpa:=hp a List.mem_cons_self;simp only [compF,Option.any_some]
  by_cases c:cmpR a p=0
  ·rw [if_pos (by exact decide_eq_true c)]
   refine ⟨i1,fun x hx=>?_⟩;have:=i2 x hx;rw [cmpR_lt] at this ⊢;have:=cmpR_z.1 c
   omega
  ·rw [if_neg (by simpa using c)]
   have c2:cmpR p a<0:=by
    rw [cmpR_lt];have q2:¬ (a.2.1=p.2.1∧a.2.2.1=p.2.2.1):=fun q=>c (cmpR_z.2 q);unfold leIt at hpa
    omega
   refine ⟨List.pairwise_cons.2 ⟨i2,i1⟩,fun x hx=>?_⟩
   rcases List.mem_cons.1 hx with rfl|hx
   ·exact c2
   ·exact cmpR_trans c2 (i2 x hx)
def compR (s:List RecT):List RecT:=compF eqDot none s
theorem compR_mem {s:List RecT} (hs:List.Pairwise leIt s) (ho:∀ x∈s,recOk x=true) {x:RecT}:x∈compR s↔isMin s x:=by
 cases s with
 |nil=>simp [compR,compF,isMin]
 |cons a l =>
  have h:=comp_mem hs (fun z hz=>ho z (List.mem_cons_of_mem _ hz)) (x:=x);obtain ⟨ha,_⟩:=List.pairwise_cons.1 hs;unfold compR isMin;simp only [compF,Option.any_none,Bool.false_eq_true,if_false];rw [List.mem_cons,h]
  constructor
  ·rintro (rfl|⟨h1,h2,h3⟩)
   ·refine ⟨List.mem_cons_self,fun y hy hq=>?_⟩
    rcases List.mem_cons.1 hy with rfl|hy
    ·exact List.lt_irrefl _
    ·intro hb
     have hz:=cmpR_z.1 hq
     rcases ha y hy with q|⟨q,q2|⟨q2,q3⟩⟩
     ·omega
     ·omega
     ·exact List.not_lt.2 q3 hb
   ·refine ⟨List.mem_cons_of_mem _ h1,fun y hy hq=>?_⟩
    rcases List.mem_cons.1 hy with rfl|hy
    ·exact absurd hq h2
    ·exact h3 y hy hq
  ·rintro ⟨h1,h3⟩
   by_cases e:cmpR x a=0
   ·left
    rcases List.mem_cons.1 h1 with h1|h1
    ·exact h1
    ·have h4:=h3 a List.mem_cons_self e
     have hz:=cmpR_z.1 e;refine recB_inj (ho x (List.mem_cons_of_mem _ h1)) (ho a List.mem_cons_self) ?_
     rcases ha x h1 with q|⟨q,q2|⟨q2,q3⟩⟩
     ·omega
     ·omega
     ·exact List.le_antisymm (List.not_lt.1 h4) q3
   ·right
    rcases List.mem_cons.1 h1 with rfl|h1
    ·exact absurd (cmpR_z.2 ⟨rfl,rfl⟩) e
    ·exact ⟨h1,e,fun y hy=>h3 y (List.mem_cons_of_mem _ hy)⟩
theorem compR_rises {s:List RecT} (hs:List.Pairwise leIt s):RisesR (compR s):=by
 cases s with
 |nil=>exact .nil
 |cons a l =>
  obtain ⟨h1,h2⟩:=comp_rises hs;unfold compR;simp only [compF,Option.any_none,Bool.false_eq_true,if_false];exact List.pairwise_cons.2 ⟨h2,h1⟩
def joinS (s:List RecT):List RecT:=(compR s).filter fun x=>!underR (compR s) x
theorem joinS_mem {s:List RecT} (hs:List.Pairwise leIt s) (ho:∀ x∈s,recOk x=true) {x:RecT}:x∈joinS s↔isLeft s x:=by
 unfold joinS isLeft underR;rw [List.mem_filter,compR_mem hs ho,Bool.not_eq_true',List.any_eq_false];refine and_congr_right fun _=>⟨fun h y hy hq=>?_,fun h y hy=>?_⟩
 ·have:=h y ((compR_mem hs ho).2 hy)
  rw [Bool.and_eq_true,decide_eq_true_iff] at this;exact Bool.eq_false_iff.2 fun q=>this ⟨hq,q⟩
 ·rw [Bool.and_eq_true,decide_eq_true_iff]
  rintro ⟨q1,q2⟩;rw [h y ((compR_mem hs ho).1 hy) q1] at q2
  cases q2
theorem joinS_rises {s:List RecT} (hs:List.Pairwise leIt s):RisesR (joinS s):=(compR_rises hs).filter _
def joinL (l:List RecT):List RecT:=joinS (sortF cmpIt l)
theorem sortIt (l:List RecT):List.Pairwise leIt (sortF cmpIt l):=by
 have h:=List.pairwise_mergeSort (le:=fun x y:RecT=>!(ltOf cmpIt) y x) (fun a b c h1 h2=>?_) (fun a b=>?_) l
 ·exact h.imp fun {a b} q=>leIt_iff.2 (by simpa [ltIt] using q)
 ·simp only [Bool.not_eq_true',ltIt,decide_eq_false_iff_not,← leIt_iff] at h1 h2 ⊢
  exact leIt_trans h1 h2
 ·simp only [Bool.or_eq_true,Bool.not_eq_true',ltIt,decide_eq_false_iff_not,← leIt_iff]
  by_cases c:leIt a b
  ·exact .inl c
  ·right
   rw [leIt_iff,Classical.not_not,cmpIt_lt] at c
   rcases c with q|⟨q,q2|⟨q2,q3⟩⟩
   ·exact .inl q
   ·exact .inr ⟨q,.inl q2⟩
   ·exact .inr ⟨q,.inr ⟨q2,List.le_of_lt q3⟩⟩
theorem joinL_mem {l:List RecT} (ho:∀ x∈l,recOk x=true) {x:RecT}:x∈joinL l↔isLeft l x:=by
 unfold joinL;rw [joinS_mem (sortIt l) (fun z hz=>ho z ((sortF_perm cmpIt l).mem_iff.1 hz))];exact isLeft_congr fun z=>(sortF_perm cmpIt l).mem_iff
theorem joinL_rises (l:List RecT):RisesR (joinL l):=joinS_rises (sortIt l)
theorem joinS_eq {l s:List RecT} (hp:s.Perm l) (hs:List.Pairwise leIt s) (ho:∀ x∈l,recOk x=true):joinS s=joinL l:=by
 refine risesR_ext (joinS_rises hs) (joinL_rises l) fun x=>?_;rw [joinS_mem hs (fun z hz=>ho z (hp.mem_iff.1 hz)),joinL_mem ho];exact isLeft_congr fun z=>hp.mem_iff
theorem joinL_of {l o:List RecT} (ho:∀ x∈l,recOk x=true) (h:RisesR o) (hm:∀ x,x∈o↔isLeft l x):o=joinL l :=
 risesR_ext h (joinL_rises l) fun x=>by rw [hm,joinL_mem ho]
theorem joinL_congr {l l' :List RecT} (ho:∀ x∈l,recOk x=true) (h:∀ x,x∈l↔x∈l'):joinL l=joinL l' :=
 risesR_ext (joinL_rises l) (joinL_rises l') fun x=>by rw [joinL_mem ho,joinL_mem fun z hz=>ho z ((h z).2 hz)];exact isLeft_congr h
end Go.Sp
end
