/- Texts of this proof. -/
import Derived.Test.YtojafegjlahajaaGreatDoorQSpCmp
open Go
namespace Go.Sp
def LApart (l:List LeafT):Prop:=l.Pairwise fun a b=>a.1≠b.1
theorem LRise.apart {l:List LeafT} (h:LRise l):LApart l:=h.imp fun q e=>by rw [e] at q;exact List.lt_irrefl _ q
theorem LApart.rev {l:List LeafT} (h:LApart l):LApart l.reverse:=List.pairwise_reverse.2 (h.imp fun q e=>q e.symm)
theorem mem_putsL:∀ {l L:List LeafT} {y:LeafT},LApart l→(y∈putsL L l↔(y∈L∧∀ x∈l,x.1≠y.1)∨(y∈l∧y.2.1.length≠0))
 |[],L,y,_=>by simp [putsL]
 |x::l,L,y,h=>by
  obtain ⟨h1,h2⟩:=List.pairwise_cons.1 h;have ih:=mem_putsL (l:=l) (L:=putL L x) (y:=y) h2;have e:putsL L (x::l)=putsL (putL L x) l:=rfl;rw [e,ih,mem_putL]
  constructor
  ·rintro (⟨⟨q,k⟩|⟨rfl,k⟩,z⟩|⟨q,k⟩)
   ·exact .inl ⟨q,fun w hw=>by rcases List.mem_cons.1 hw with rfl|hw;exact fun e=>k e.symm;exact z w hw⟩
   ·exact .inr ⟨List.mem_cons_self ..,k⟩
   ·exact .inr ⟨List.mem_cons_of_mem _ q,k⟩
  ·rintro (⟨q,k⟩|⟨q,k⟩)
   ·exact .inl ⟨.inl ⟨q,fun e=>k x (List.mem_cons_self ..) e.symm⟩,fun w hw=>k w (List.mem_cons_of_mem _ hw)⟩
   ·rcases List.mem_cons.1 q with rfl|q
    ·exact .inl ⟨.inr ⟨rfl,k⟩,fun w hw e=>h1 w hw e.symm⟩
    ·exact .inr ⟨q,k⟩
theorem LRise.puts {L:List LeafT} (h:LRise L):∀ l:List LeafT,LRise (putsL L l)
 |[]=>h
 |x::l=>LRise.puts (L:=putL L x) (h.put x) l
theorem puts_own {s:Nat} {L l:List LeafT} (h:TreeOk s L) (hl:LApart l) (hm:∀ y,y∈l↔y∈L):putsL [] l=L:=by
 refine LRise.ext (LRise.puts (L:=[]) List.Pairwise.nil l) h.2 fun y=>?_;rw [mem_putsL hl]
 constructor
 ·rintro (⟨q,_⟩|⟨q,_⟩)
  ·cases q
  ·exact (hm y).1 q
 ·intro q
  have:=(h.1 y q).1.2.2.1;exact .inr ⟨(hm y).2 q,by omega⟩
def goneL (L:List LeafT):List LeafT:=L.map fun x=>(x.1,[],())
theorem gone_apart {L:List LeafT} (h:LRise L):LApart (goneL L):=List.pairwise_map.2 h.apart
theorem puts_gone {L:List LeafT} (h:LRise L):putsL L (goneL L)=[]:=by
 refine LRise.ext (LRise.puts h _) List.Pairwise.nil fun y=>?_;rw [mem_putsL (gone_apart h)]
 constructor
 ·rintro (⟨q,k⟩|⟨q,k⟩)
  ·exact absurd rfl (k (y.1,[],()) (List.mem_map.2 ⟨y,q,rfl⟩))
  ·obtain ⟨x,_,rfl⟩:=List.mem_map.1 q
   exact absurd rfl k
 ·intro q;cases q
theorem putsL_take {L l:List LeafT} {i:Nat} (hi:i<l.length):putsL L (l.take (i+1))=putL (putsL L (l.take i)) l[i]:=by
 rw [List.take_succ_eq_append_getElem hi,putsL,List.foldl_append];rfl
theorem TreeOk.mem_put {s:Nat} {L:List LeafT} (h:TreeOk s L) {x:LeafT} (hx:x∈L):putOk s x:=by
 obtain ⟨⟨h1,h2,h3,h4⟩,h5⟩:=h.1 x hx;exact ⟨⟨h1,h5⟩,h2,fun _=>h4⟩
theorem putE_mem {s:Nat} {L:List LeafT} (h:TreeOk s L) {x:LeafT} (hx:x∈L):putE s [x]=0:=putE_0.2 fun y hy=>by
 rw [List.mem_singleton.1 hy];exact h.mem_put hx
end Go.Sp
