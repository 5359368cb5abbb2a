/- Texts of this proof. -/
import Derived.Test.YtdjoggpacmpfnaaGreatDoorQSpGo
namespace Go.Sp
theorem Qe:∀ {aG:List (List Value)} {vs:List Value} {h:Fr},cG (ag.val.rel h) aG vs→aG=vs.map (fun v=>[v])∧cG ((ag.cells 1).rel h) aG aG
 |[],[],_,_=>⟨rfl,trivial⟩
 |c::aG,v::vs,h,⟨⟨h1,h2⟩,t⟩=>by
  obtain ⟨e1,e2⟩:=Qe t;subst h1;exact ⟨by rw [List.map_cons,← e1],⟨rfl,rfl,fun x hx=>by rw [List.mem_singleton.1 hx];exact h2⟩,e2⟩
 |[],_::_,_,h=>h.elim
 |_::_,[],_,h=>h.elim
theorem adJ {e:TypeId} {v:Value} {vs:List Value} {m:Fr} (h:ak ag.val e v vs m):ak (ag.cells 1) e v (vs.map fun v=>[v]) m:=by
 obtain ⟨aG,h1,h2⟩:=h;obtain ⟨e1,e2⟩:=Qe h1;rw [← e1];refine ⟨aG,e2,?_⟩;have:aG.length=vs.length:=h1.length;rw [this];exact h2
theorem acg {A B C A' B' KC :az} {m:Fr} (h1:∀ k,A k→A' k) (h2:∀ k,B k→B' k) (h3:∀ k,C k→KC k) (h:Sat [A,B,C] m):Sat [A',B',KC] m:=by
 obtain ⟨m1,k1,d1,s1,t1,x,m2,k2,d2,s2,t2,y,uZ,aI,d3,q6,t3,z,_⟩:=h;exact ⟨m1,k1,d1,s1,t1,h1 _ x,m2,k2,d2,s2,t2,h2 _ y,uZ,aI,d3,q6,t3,h3 _ z,trivial⟩
theorem map_id' {α:Type} (l:List α):l.map (fun x=>x)=l:=List.map_id'' (fun _=>rfl) l
theorem EX {R:Value→List UInt8→Prop}:∀ {aG:List (List Value)} {xs:List (List UInt8)},cG (fun cs x=>∃ v,cs=[v]∧R v x) aG xs→∃ vs:List Value,aG=vs.map (fun v=>[v])∧cG R vs xs
 |[],[],_=>⟨[],rfl,trivial⟩
 |c::aG,x::xs,⟨⟨v,h1,h2⟩,t⟩=>by
  obtain ⟨vs,e1,e2⟩:=EX t;exact ⟨v::vs,by rw [h1,e1];rfl,h2,e2⟩
 |[],_::_,h=>h.elim
 |_::_,[],h=>h.elim
theorem Q8 {h:Fr} {v:Value} {vs:List Value} (x:av (ag.cells 1) h v (vs.map fun v=>[v])):av ag.val h v vs:=by
 obtain ⟨aG,h1,h2⟩:=x;have e:=BX h1;subst e;refine ⟨_,?_,by rw [List.length_map] at h2;exact h2⟩;clear h2
 induction vs with
 |nil=>trivial
 |cons v vs ih=>exact ⟨⟨rfl,h1.1.2.2 v List.mem_cons_self⟩,ih h1.2⟩
end Go.Sp
