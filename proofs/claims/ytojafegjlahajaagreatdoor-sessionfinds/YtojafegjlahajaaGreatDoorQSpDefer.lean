/- Texts of this proof, one behind the other. -/
import Derived.Test.YtojafegjlahajaaGreatDoorQSpDraw
import Derived.WalkSpells
set_option linter.unusedSectionVars false
section
/- Texts of this proof, one behind the other. -/
section
/- Texts of this proof. -/
namespace Go.Sp
def b5 {α β:Type} (R:β→α→Prop):List β→List α→Prop
 |[],[]=>True
 |b::bs,a::as=>R b a∧b5 R bs as
 |_,_=>False
theorem b5.imp {α β:Type} {R S:β→α→Prop} (h:∀ b a,R b a→S b a):∀ {bs:List β} {as:List α},b5 R bs as→b5 S bs as
 |[],[],_=>trivial
 |_::_,_::_,⟨x,y⟩=>⟨h _ _ x,b5.imp h y⟩
theorem b5.length {α β:Type} {R:β→α→Prop}:∀ {bs:List β} {as:List α},b5 R bs as→bs.length=as.length
 |[],[],_=>rfl
 |_::_,_::_,⟨_,y⟩=>by simp [b5.length y]
theorem b5.get {α β:Type} {R:β→α→Prop}:∀ {bs:List β} {as:List α} (_:b5 R bs as) (i:Nat) (hb:i<bs.length) (ha:i<as.length),R bs[i] as[i]
 |_::_,_::_,⟨x,_⟩,0,_,_=>x
 |_::_,_::_,⟨_,y⟩,i+1,hb,ha=>b5.get y i (by simpa using hb) (by simpa using ha)
theorem b5.append {α β:Type} {R:β→α→Prop}:∀ {bs cs:List β} {as ds:List α},b5 R bs as→b5 R cs ds→b5 R (bs++cs) (as++ds)
 |[],_,[],_,_,h=>h
 |_::_,_,_::_,_,⟨x,y⟩,h=>⟨x,b5.append y h⟩
theorem b5.drop {α β:Type} {R:β→α→Prop}:∀ {bs:List β} {as:List α} (n:Nat),b5 R bs as→b5 R (bs.drop n) (as.drop n)
 |_,_,0,h=>h
 |[],[],_+1,_=>trivial
 |_::_,_::_,n+1,⟨_,y⟩=>b5.drop n y
theorem b5.take {α β:Type} {R:β→α→Prop}:∀ {bs:List β} {as:List α} (n:Nat),b5 R bs as→b5 R (bs.take n) (as.take n)
 |_,_,0,_=>trivial
 |[],[],_+1,_=>trivial
 |_::_,_::_,n+1,⟨x,y⟩=>⟨x,b5.take n y⟩
structure ag (α:Type) where
 k:Nat
 rel:Fr→List Value→α→Prop
 len:∀ {h:Fr} {cs:List Value} {a:α},rel h cs a→cs.length=k
 mono:∀ {h h' :Fr} {cs:List Value} {a:α},h.sub h' →rel h cs a→rel h' cs a
 one:∀ {h:Fr} {cs:List Value} {a:α},rel h cs a→∀ c∈cs,c.oneCell' =true
def aj {α:Type} (T:ag α) (h:Fr) (v:Value) (xs:List α):Prop:=∃ ak:List (List Value),b5 (T.rel h) ak xs∧qv h v T.k xs.length ak.flatten
section
variable {α:Type} {T:ag α} {h:Fr} {v:Value} {xs:List α}
theorem aj.mono {h' :Fr} (s:h.sub h'):aj T h v xs→aj T h' v xs
 |⟨ak,a,b⟩=>⟨ak,a.imp fun _ _=>T.mono s,b.mono s⟩
theorem aj.shape:aj T h v xs→∃ a c,v=.slice a xs.length c
 |⟨_,_,a,c,hv,_⟩=>⟨a,c,hv⟩
theorem aj.bound:aj T h v xs→xs.length≤9223372036854775807
 |⟨_,_,b⟩=>b.bound
theorem b5.tn {ak:List (List Value)} (ha:b5 (T.rel h) ak xs) (i:Nat):ak.flatten.take (i*T.k)=(ak.take i).flatten:=by
 induction i generalizing ak xs with
 |zero=>simp
 |succ i ih =>
  cases ak with
  |nil=>simp
  |cons c ak =>
   cases xs with
   |nil=>exact ha.elim
   |cons x xs =>
    have hc:c.length=T.k:=T.len ha.1;simp only [List.flatten_cons,List.take_succ_cons];rw [Nat.succ_mul,List.take_append,List.take_of_length_le (by omega),show i*T.k+T.k - c.length=i*T.k from by omega,ih ha.2]
theorem b5.zA {ak:List (List Value)} (ha:b5 (T.rel h) ak xs) (i:Nat):ak.flatten.drop (i*T.k)=(ak.drop i).flatten:=by
 induction i generalizing ak xs with
 |zero=>simp
 |succ i ih =>
  cases ak with
  |nil=>simp
  |cons c ak =>
   cases xs with
   |nil=>exact ha.elim
   |cons x xs =>
    have hc:c.length=T.k:=T.len ha.1;simp only [List.flatten_cons,List.drop_succ_cons];rw [Nat.succ_mul,List.drop_append,List.drop_eq_nil_of_le (by omega),List.nil_append,show i*T.k+T.k - c.length=i*T.k from by omega,ih ha.2]
theorem b5.tj {ak:List (List Value)} (ha:b5 (T.rel h) ak xs) (i:Nat) (hi:i<ak.length):(ak.flatten.drop (i*T.k)).take T.k=ak[i]:=by
 rw [ha.zA,List.drop_eq_getElem_cons hi,List.flatten_cons,List.take_append];have hc:ak[i].length=T.k:=T.len (ha.get i hi (by rw [← ha.length];exact hi));rw [List.take_of_length_le (by omega),hc];simp
end
section
variable {ro:Option Nat} {P:Program} {σ:List (Nat × Value)} {g:bn} {U ζ:List az} {fn:Func} {n:Nat} {R:Ending→World→Prop} {K:List Item} {D:List Deferred} {ops:Array Oper} {i d:Nat} {l:List Nat}
 {t e:TypeId} {x y:Operand} {v:Value} {kd:IntKind} {j:Nat}
theorem Jz {α:Type} {T:ag α} {xs:List α} (ht:P.underlying t=some (.slice e)) (he:(P.info? e).map (·.size)=some T.k) (hx:aA σ x=some v) {cq:Int} (hy:aA σ y=some (.int kd cq)) (dZ:cq=(j:Int))
  (hs:aj T g.h v xs) (gz:0<T.k) (hm:j<xs.length):∃ p cs,(∀ U,aG P (.indexAddr t x y) σ g U (.pointer (some p)) U)∧At g.h p cs∧T.rel g.h cs xs[j]:=by
 subst dZ;obtain ⟨ak,ha,fI⟩:=hs;obtain ⟨a,cap,rfl,h1,h2,h3,h4⟩:=fI
 cases a with
 |none =>
  have:0<ak.flatten.length:=by rw [h3];exact Nat.mul_pos (by omega) gz
  obtain ⟨p,hp,_⟩:=h4 0 this
  cases hp
 |some a =>
  have hj:j<ak.length:=by rw [ha.length];exact hm
  refine ⟨a.add (j*T.k),ak[j],fun U=>.run fun o ρ w ho hk=>?_,?_,ha.get j hj hm⟩
  ·have hij:(j:Int)<(xs.length:Int):=by omega
   simp [execOp,ho,hk x _ hx,hk y _ hy,Instr.indexAt,asIntOf,run_underlying ht,hm,run_sizeOf he]
  ·rw [← ha.tj j hj]
   intro q hq
   rw [Addr.add_add];have xF :j*T.k+q<ak.flatten.length:=by simp only [List.length_take,List.length_drop] at hq;omega
   obtain ⟨p,hp,hc⟩:=h4 _ xF
   cases hp
   rw [hc];simp
theorem O.idx' {α:Type} {T:ag α} {xs:List α} (ho:bJ ops i n σ d (.indexAddr t x y)) (ht:P.underlying t=some (.slice e)) (he:(P.info? e).map (·.size)=some T.k) (hx:aA σ x=some v)
  {cq:Int} (hy:aA σ y=some (.int kd cq)) (dZ:cq=(j:Int)) (hs:aj T g.h v xs) (gz:0<T.k) (hm:j<xs.length)
  (h:∀ p cs,At g.h p cs→T.rel g.h cs xs[j]→O ro P fn n R ops l K ((d,.pointer (some p))::σ) D g U):O ro P fn n R ops (i::l) K σ D g U:=by
 obtain ⟨p,cs,h1,h2,h3⟩:=Jz ht he hx hy dZ hs gz hm;exact O.op ho (h1 U) (h p cs h2 h3)
theorem af.idx' {α:Type} {T:ag α} {xs:List α} (ho:bJ ops i n σ d (.indexAddr t x y)) (ht:P.underlying t=some (.slice e)) (he:(P.info? e).map (·.size)=some T.k) (hx:aA σ x=some v)
  {cq:Int} (hy:aA σ y=some (.int kd cq)) (dZ:cq=(j:Int)) (hs:aj T g.h v xs) (gz:0<T.k) (hm:j<xs.length)
  (h:∀ p cs,At g.h p cs→T.rel g.h cs xs[j]→af P fn n R ops K D g l ((d,.pointer (some p))::σ) U):af P fn n R ops K D g (i::l) σ U:=by
 obtain ⟨p,cs,h1,h2,h3⟩:=Jz ht he hx hy dZ hs gz hm;exact .quiet ho rfl h1 (h p cs h2 h3)
theorem yC {α:Type} {T:ag α} {xs:List α} {r:Fr} {lo hi:Option Operand} {a b:Nat} {kl kh:IntKind} (ht:P.underlying t=some (.slice e)) (he:(P.info? e).map (·.size)=some T.k) (hx:aA σ x=some v)
  (hlo:∀ y,lo=some y→aA σ y=some (.int kl (a:Int))) (zY :lo=none→a=0) (hhi:∀ y,hi=some y→aA σ y=some (.int kh (b:Int))) (xu :hi=none→b=xs.length)
  (hs:aj T r v xs) (hab:a≤b) (hb:b≤xs.length):∃ u,(∀ U,aG P (.slice t x lo hi none) σ g U u U)∧aj T r u ((xs.take b).drop a):=by
 obtain ⟨ak,ha,fI⟩:=hs;obtain ⟨ad,cap,rfl,h1,h2,h3,h4⟩:=fI;refine ⟨.slice (if cap=a then ad else ad.map (·.add (a*T.k))) (b - a) (cap - a),fun U=>.run fun o ρ w ho hk=>?_,(ak.take b).drop a,(ha.take b).drop a,?_⟩
 ·have e1:(a:Int)≤(b:Int):=by omega
  have e2:(b:Int)≤(cap:Int):=by omega
  have hl0:lo=none→a=0:=zY
  cases lo with
  |none =>
   have:=zY rfl;subst this
   cases hi with
   |none=>have:=xu rfl;subst this;simp [execOp,ho,hk x _ hx,Instr.sliceAt,run_underlying ht,Instr.slice,Instr.sliceBounds,run_sizeOf he]
   |some y =>
    have hb' :b≤cap:=by omega
    simp [execOp,ho,hk x _ hx,hk y _ (hhi y rfl),Instr.sliceAt,run_underlying ht,Instr.slice,Instr.sliceBounds,Instr.sliceBound,asIntOf,hb',run_sizeOf he]
  |some z =>
   cases hi with
   |none=>have:=xu rfl;subst this;simp [execOp,ho,hk x _ hx,hk z _ (hlo z rfl),Instr.sliceAt,run_underlying ht,Instr.slice,Instr.sliceBounds,Instr.sliceBound,asIntOf,hab,run_sizeOf he]
   |some y =>
    have hb' :b≤cap:=by omega
    simp [execOp,ho,hk x _ hx,hk z _ (hlo z rfl),hk y _ (hhi y rfl),Instr.sliceAt,run_underlying ht,Instr.slice,Instr.sliceBounds,Instr.sliceBound,asIntOf,hab,hb',run_sizeOf he]
 ·have hlen:((xs.take b).drop a).length=b - a:=by simp;omega
  have hcs:((ak.take b).drop a).flatten=(ak.flatten.take (b*T.k)).drop (a*T.k):=by
   rw [ha.tn b,(ha.take b).zA a]
  refine ⟨_,cap - a,by rw [hlen],by omega,⟨by omega,fun h=>?_⟩,?_,?_⟩
  ·cases ad with
   |none=>have:=h2.2 rfl;omega
   |some ad=>simp only [Option.map_some] at h;split at h<;>cases h
  ·rw [hcs,hlen,List.length_drop,List.length_take,h3,Nat.sub_mul,Nat.min_eq_left (Nat.mul_le_mul_right _ hb)]
  ·intro q hq
   rw [hcs] at hq;have tV:a*T.k+q<ak.flatten.length:=by simp only [List.length_take,List.length_drop] at hq;omega
   obtain ⟨p,rfl,hc⟩:=h4 _ tV;have hne:cap≠a:=by
    rintro rfl;have:ak.flatten.length≤cap*T.k:=by rw [h3];exact Nat.mul_le_mul_right _ (by omega)
    omega
   refine ⟨p.add (a*T.k),by simp [hne],?_⟩;rw [Addr.add_add,hc]
   simp [hcs]
end
section
variable {ro:Option Nat} {P:Program} {σ:List (Nat × Value)} {g:bn} {U ζ:List az} {fn:Func} {n:Nat} {R:Ending→World→Prop} {K:List Item} {D:List Deferred} {ops:Array Oper} {i d:Nat} {l:List Nat}
 {t e:TypeId} {x y z:Operand} {v:Value} {ka kb:IntKind} {qu lM:Int} {a b:Nat} {α:Type} {T:ag α} {xs:List α} {r:Fr}
theorem O.sliceTo (ho:bJ ops i n σ d (.slice t x none (some y) none)) (ht:P.underlying t=some (.slice e)) (he:(P.info? e).map (·.size)=some T.k) (hx:aA σ x=some v) (hy:aA σ y=some (.int kb lM)) (hs:aj T r v xs) (hz:lM=(b:Int)) (hb:b≤xs.length)
  (h:∀ u,aj T r u (xs.take b)→O ro P fn n R ops l K ((d,u)::σ) D g U):O ro P fn n R ops (i::l) K σ D g U:=by
 subst hz;obtain ⟨u,h1,h2⟩:=yC (g:=g) (a:=0) (b:=b) (kl:=.i64) ht he hx (lo:=none) (hi:=some y) (fun _ h=>nomatch h) (fun _=>rfl) (fun _ h=>by cases h;exact hy) (fun h=>nomatch h) hs (Nat.zero_le _) hb;exact O.op ho (h1 U) (h u h2)
theorem O.sliceFrom (ho:bJ ops i n σ d (.slice t x (some y) none none)) (ht:P.underlying t=some (.slice e)) (he:(P.info? e).map (·.size)=some T.k) (hx:aA σ x=some v) (hy:aA σ y=some (.int ka qu)) (hs:aj T r v xs) (hz:qu=(a:Int)) (ha:a≤xs.length)
  (h:∀ u,aj T r u (xs.drop a)→O ro P fn n R ops l K ((d,u)::σ) D g U):O ro P fn n R ops (i::l) K σ D g U:=by
 subst hz;obtain ⟨u,h1,h2⟩:=yC (g:=g) (a:=a) (b:=xs.length) (kh:=.i64) ht he hx (lo:=some y) (hi:=none) (fun _ h=>by cases h;exact hy) (fun h=>nomatch h) (fun _ h=>nomatch h) (fun _=>rfl) hs ha (Nat.le_refl _);exact O.op ho (h1 U) (h u (by rw [List.take_length] at h2;exact h2))
theorem O.W4 (ho:bJ ops i n σ d (.slice t x (some y) (some z) none)) (ht:P.underlying t=some (.slice e)) (he:(P.info? e).map (·.size)=some T.k) (hx:aA σ x=some v) (hy:aA σ y=some (.int ka qu)) (hz:aA σ z=some (.int kb lM)) (hs:aj T r v xs) (h1:qu=(a:Int)) (h2:lM=(b:Int)) (hab:a≤b) (hb:b≤xs.length)
  (h:∀ u,aj T r u ((xs.take b).drop a)→O ro P fn n R ops l K ((d,u)::σ) D g U):O ro P fn n R ops (i::l) K σ D g U:=by
 subst h1;subst h2;obtain ⟨u,h1,h2⟩:=yC (g:=g) (a:=a) (b:=b) ht he hx (lo:=some y) (hi:=some z) (fun _ h=>by cases h;exact hy) (fun h=>nomatch h) (fun _ h=>by cases h;exact hz) (fun h=>nomatch h) hs hab hb;exact O.op ho (h1 U) (h u h2)
end
def bK (b:UInt8):Value:=.int .u8 b.toNat
def str (xs:List UInt8):ByteArray:=⟨xs.toArray⟩
@[simp] theorem LG (xs:List UInt8):(str xs).toList=xs:=by rw [ByteArray.toList_eq];rfl
@[simp] theorem sI (xs:List UInt8):(str xs).size=xs.length:=by simp [str,ByteArray.size]
def ag.u8:ag UInt8:={ k:=1,rel:=fun _ cs b=>cs=[bK b],len:=fun h=>by rw [h];rfl,mono:=fun _ h=>h,one:=fun h c hc=>by subst h;simp at hc;subst hc;rfl }
def cK (z:Int):Prop:= -9223372036854775808≤z∧z≤9223372036854775807
def ag.i64:ag Int:={ k:=1,rel:=fun _ cs z=>cs=[.int .i64 z]∧cK z,len:=fun h=>by rw [h.1];rfl,mono:=fun _ h=>h,one:=fun h c hc=>by rw [h.1] at hc;simp at hc;subst hc;rfl }
def ag.bool:ag Bool:={ k:=1,rel:=fun _ cs b=>cs=[.bool b],len:=fun h=>by rw [h];rfl,mono:=fun _ h=>h,one:=fun h c hc=>by subst h;simp at hc;subst hc;rfl }
def ag.str:ag (List UInt8):={ k:=1,rel:=fun _ cs s=>cs=[.string (Go.Sp.str s)]∧s.length≤9223372036854775807,len:=fun h=>by rw [h.1];rfl,mono:=fun _ h=>h,one:=fun h c hc=>by rw [h.1] at hc;simp at hc;subst hc;rfl }
def ag.slice {α:Type} (T:ag α):ag (List α):={ k:=1,rel:=fun h cs xs=>∃ v,cs=[v]∧aj T h v xs,len:=fun ⟨_,h,_⟩=>by rw [h];rfl,mono:=fun s ⟨v,h,a⟩=>⟨v,h,a.mono s⟩,one:=fun ⟨v,h,a⟩ c hc=>by subst h;simp at hc;subst hc;obtain ⟨_,_,rfl⟩:=a.shape;rfl }
def ag.val:ag Value:={ k:=1,rel:=fun _ cs v=>cs=[v]∧v.oneCell' =true,len:=fun h=>by rw [h.1];rfl,mono:=fun _ h=>h,one:=fun h c hc=>by rw [h.1] at hc;simp at hc;subst hc;exact h.2 }
def ag.cells (k:Nat):ag (List Value):={ k:=k,rel:=fun _ cs c=>cs=c∧c.length=k∧∀ v∈c,v.oneCell' =true,len:=fun h=>by rw [h.1];exact h.2.1,mono:=fun _ h=>h,one:=fun h c hc=>by rw [h.1] at hc;exact h.2.2 c hc }
theorem aj.rows {α:Type} {T:ag α} {h:Fr} {v:Value} {vs:List Value} {xss:List (List α)} (hv:aj ag.val h v vs) (ha:b5 (aj T h) vs xss):aj (ag.slice T) h v xss:=by
 obtain ⟨ak,h1,h2⟩:=hv;refine ⟨ak,?_,by rw [← ha.length];exact h2⟩;clear h2
 induction ak generalizing vs xss with
 |nil=>cases vs with
  |nil=>cases xss with
   |nil=>trivial
   |cons _ _=>exact ha.elim
  |cons _ _=>exact h1.elim
 |cons c ak ih=>cases vs with
  |nil=>exact h1.elim
  |cons v vs=>cases xss with
   |nil=>exact ha.elim
   |cons x xss=>exact ⟨⟨v,h1.1.1,ha.1⟩,ih ha.2 h1.2⟩
theorem aj.nil {α:Type} {T:ag α} {h:Fr}:aj T h (.slice none 0 0) ([]:List α):=⟨[],trivial,none,0,rfl,Nat.le_refl _,⟨by omega,fun _=>rfl⟩,by simp,fun j hj=>by simp at hj⟩
theorem aj.ya {α:Type} {T:ag α} {h:Fr} {m c:Nat} {xs:List α} (hk:0<T.k):aj T h (.slice none m c) xs→xs=[]∧m=0∧c=0
 |⟨ak,h1,a,c',h2,_,hc,h5,h6⟩=>by
  cases h2
  refine ⟨?_,?_,hc.2 rfl⟩
  rotate_left
  ·have:=hc.2 rfl;omega
  cases xs with
  |nil=>rfl
  |cons x xs =>
   have:0<ak.flatten.length:=by rw [h5];exact Nat.mul_pos (by simp) hk
   obtain ⟨p,hp,_⟩:=h6 0 this
   cases hp
end Go.Sp
end
section
/- Texts of this proof. -/
namespace Go.Sp
section
variable {ro:Option Nat} {P:Program} {σ σ' :List (Nat × Value)} {g:bn} {U ax ζ:List az} {fn:Func} {n:Nat} {R:Ending→World→Prop} {k K:List Item} {D:List Deferred} {ops:Array Oper} {i d:Nat} {l:List Nat} {t e:TypeId} {x y:Operand} {todo:List Item}
theorem aG.loadAt {p:Addr} {cs:List Value} {v:Value} (ht:dY P t=true) (hx:aA σ x=some (.pointer (some p))) (hp:At g.h p cs) (hv:cs[0]?=some v):aG P (.load t x) σ g U v U :=
 .load ht hx (by have:=hp.at hv;rwa [Addr.add_zero] at this)
theorem bF.imp {op:Op} {A B:Value→List az→Prop} (h:bF P op σ g U A) (hab:∀ v ax,A v ax →B v ax):bF P op σ g U B :=
 fun o ρ w h1 h2 h3=>let ⟨v,w',ax,a,b,c⟩:=h o ρ w h1 h2 h3;⟨v,w',ax,hab _ _ a,b,c⟩
theorem S.eM {ι:Type} {c:Code} (φ:ι→Prop) (σs:ι→List (Nat × Value)) (keep:List (Nat × Value)) (iK:ι→List az) (μ:ι→Nat) (iJ:ι) (h₀:φ iJ) (qY:Sub (σs iJ) σ) (hk:Sub keep σ) (j9:U=iK iJ)
  (round:∀ x,φ x→(∀ y,φ y→μ y<μ x→S ro P fn n R (.inLoop c::k) (σs y++keep) D g (iK y))→S ro P fn n R (.code c::.inLoop c::k) (σs x++keep) D g (iK x)) :
  S ro P fn n R (.code (.loop c)::k) σ D g U:=by
 refine S.loop φ (fun x=>σs x++keep) iK μ iJ h₀ ?_ j9 round
 intro t v hv
 have:∀ (l:List (Nat × Value)),look (l++keep) t=some v→look l t=some v∨look keep t=some v:=by
  intro l
  induction l with
  |nil=>exact .inr
  |cons p l ih =>
   intro h
   obtain ⟨s,u⟩:=p;simp only [List.cons_append,look] at h ⊢
   split at h
   ·exact .inl h
   ·exact ih h
 rcases this _ hv with h|h
 ·exact qY t v h
 ·exact hk t v h
theorem S.jO {ι dJ:Type} {c:Code} (φ:ι→dJ→Prop) (σs:ι→dJ→List (Nat × Value)) (keep:List (Nat × Value)) (iK:ι→dJ→List az) (μ:ι→dJ→Nat) (iJ:ι) (ng:dJ) (h₀:φ iJ ng) (qY:Sub (σs iJ ng) σ) (hk:Sub keep σ) (j9:U=iK iJ ng)
  (round:∀ x y,φ x y→(∀ x' y',φ x' y' →μ x' y' <μ x y→S ro P fn n R (.inLoop c::k) (σs x' y' ++keep) D g (iK x' y'))→S ro P fn n R (.code c::.inLoop c::k) (σs x y++keep) D g (iK x y)) :
  S ro P fn n R (.code (.loop c)::k) σ D g U :=
 S.eM (ι:=ι × dJ) (fun p=>φ p.1 p.2) (fun p=>σs p.1 p.2) keep (fun p=>iK p.1 p.2) (fun p=>μ p.1 p.2) (iJ,ng) h₀ qY hk j9 fun p hp ih=>round p.1 p.2 hp fun x' y' h1 h2=>ih (x',y') h1 h2
theorem S.Ax {ι dJ jC:Type} {c:Code} (φ:ι→dJ→jC→Prop) (σs:ι→dJ→jC→List (Nat × Value)) (keep:List (Nat × Value)) (iK:ι→dJ→jC→List az) (μ:ι→dJ→jC→Nat) (iJ:ι) (ng:dJ) (rA:jC) (h₀:φ iJ ng rA) (qY:Sub (σs iJ ng rA) σ) (hk:Sub keep σ) (j9:U=iK iJ ng rA)
  (round:∀ x y z,φ x y z→(∀ x' y' z',φ x' y' z' →μ x' y' z' <μ x y z→S ro P fn n R (.inLoop c::k) (σs x' y' z' ++keep) D g (iK x' y' z'))→S ro P fn n R (.code c::.inLoop c::k) (σs x y z++keep) D g (iK x y z)) :
  S ro P fn n R (.code (.loop c)::k) σ D g U :=
 S.eM (ι:=ι × dJ × jC) (fun p=>φ p.1 p.2.1 p.2.2) (fun p=>σs p.1 p.2.1 p.2.2) keep (fun p=>iK p.1 p.2.1 p.2.2) (fun p=>μ p.1 p.2.1 p.2.2) (iJ,ng,rA) h₀ qY hk j9 fun p hp ih=>round p.1 p.2.1 p.2.2 hp fun x' y' z' h1 h2=>ih (x',y',z') h1 h2
theorem S.Ay {ι dJ jC dF:Type} {c:Code} (φ:ι→dJ→jC→dF→Prop) (σs:ι→dJ→jC→dF→List (Nat × Value)) (keep:List (Nat × Value)) (iK:ι→dJ→jC→dF→List az) (μ:ι→dJ→jC→dF→Nat) (iJ:ι) (ng:dJ) (rA:jC) (Bq:dF) (h₀:φ iJ ng rA Bq) (qY:Sub (σs iJ ng rA Bq) σ) (hk:Sub keep σ) (j9:U=iK iJ ng rA Bq)
  (round:∀ x y z u,φ x y z u→(∀ x' y' z' u',φ x' y' z' u' →μ x' y' z' u' <μ x y z u→S ro P fn n R (.inLoop c::k) (σs x' y' z' u' ++keep) D g (iK x' y' z' u'))→S ro P fn n R (.code c::.inLoop c::k) (σs x y z u++keep) D g (iK x y z u)) :
  S ro P fn n R (.code (.loop c)::k) σ D g U :=
 S.eM (ι:=ι × dJ × jC × dF) (fun p=>φ p.1 p.2.1 p.2.2.1 p.2.2.2) (fun p=>σs p.1 p.2.1 p.2.2.1 p.2.2.2) keep (fun p=>iK p.1 p.2.1 p.2.2.1 p.2.2.2) (fun p=>μ p.1 p.2.1 p.2.2.1 p.2.2.2) (iJ,ng,rA,Bq) h₀ qY hk j9
  fun p hp ih=>round p.1 p.2.1 p.2.2.1 p.2.2.2 hp fun x' y' z' u' h1 h2=>ih (x',y',z',u') h1 h2
theorem Sub.Cz {v v' :Value} {s:Nat} {dF:List (Nat × Value)} (h:look σ s=some v) (e:v=v') (hs:Sub dF σ):Sub ((s,v')::dF) σ:=by subst e;exact Sub.cons h hs
theorem S.slot {v v' :Value} (s:Nat) (hl:look σ s=some v) (e:v=v') (h:S ro P fn n R todo ((s,v')::σ) D g U):S ro P fn n R todo σ D g U:=S.weaken (Sub.Cz hl e Sub.refl) h
theorem O.slot {v v' :Value} {L:List Nat} (s:Nat) (hl:look σ s=some v) (e:v=v') (h:O ro P fn n R ops L k ((s,v')::σ) D g U):O ro P fn n R ops L k σ D g U:=O.weaken (Sub.Cz hl e Sub.refl) h
theorem O.aC {f:FuncId} {xs:Array Operand} {ts:Array TypeId} {bH:List Value} {K' :Value→List az→Prop} {first cap:Array Value} (ho:bJ ops i n σ d (.call ⟨.value x,xs,ts⟩)) (hx:aA σ x=some (.func (.func f) first cap)) (hc:dG P f=true)
  (hv:dX σ xs.toList=some bH) {args:Array Value} (hargs:first++bH.toArray++cap=args) (con:ay P f args g.h [] (aL K'))
  (h:∀ v ax,K' v ax →O ro P fn n R ops l k ((d,v)::σ) D g (ax ++U)):O ro P fn n R ops (i::l) k σ D g U:=O.call (U:=[]) (ζ:=U) ho hx hc hv hargs con h
theorem cO.aC {f:FuncId} {xs:Array Operand} {ts:Array TypeId} {bH:List Value} {K' :Value→List az→Prop} {first cap:Array Value} (ho:bJ ops i n σ d (.call ⟨.value x,xs,ts⟩)) {fl:Bool} (hd:ei fl ops i l=true) (hx:aA σ x=some (.func (.func f) first cap)) (hc:dG P f=true)
  (hv:dX σ xs.toList=some bH) {args:Array Value} (hargs:first++bH.toArray++cap=args) (con:ay P f args g.h [] (aL K'))
  (h:∀ v ax,K' v ax →af P fn n R ops k D g l ((d,v)::σ) (ax ++U)):aJ P fn n R ops k D g fl (i::l) σ U:=cO.call (U:=[]) (ζ:=U) ho hd hx hc hv hargs con h
theorem af.aC {f:FuncId} {xs:Array Operand} {ts:Array TypeId} {bH:List Value} {K' :Value→List az→Prop} {first cap:Array Value} (ho:bJ ops i n σ d (.call ⟨.value x,xs,ts⟩)) (hd:eH ops [i] l=true) (hx:aA σ x=some (.func (.func f) first cap)) (hc:dG P f=true) (hv:dX σ xs.toList=some bH) {args:Array Value} (hargs:first++bH.toArray++cap=args) (con:ay P f args g.h [] (aL K')) (h:∀ v ax,K' v ax →af P fn n R ops k D g l ((d,v)::σ) (ax ++U)):af P fn n R ops k D g (i::l) σ U:=cO.aC (fl:=false) ho (by simpa [ei] using hd) hx hc hv hargs con h
theorem bT.aC {f:FuncId} {xs:Array Operand} {ts:Array TypeId} {bH:List Value} {K' :Value→List az→Prop} {first cap:Array Value} (ho:bJ ops i n σ d (.call ⟨.value x,xs,ts⟩)) (_:true=true) (hx:aA σ x=some (.func (.func f) first cap)) (hc:dG P f=true) (hv:dX σ xs.toList=some bH) {args:Array Value} (hargs:first++bH.toArray++cap=args) (con:ay P f args g.h [] (aL K')) (h:∀ v ax,K' v ax →af P fn n R ops k D g l ((d,v)::σ) (ax ++U)):aJ P fn n R ops k D g true (i::l) σ U:=cO.aC (fl:=true) ho rfl hx hc hv hargs con h
inductive jF:List az→List az→List az→Prop
 |nil {U:List az}:jF U [] U
 |cons {U ζ aO:List az} {A:az} {bs:List az}:bg U A ζ→jF ζ bs aO→jF U (A::bs) aO
theorem jF.perm {U bs aO:List az} (s:jF U bs aO):U.Perm (bs++aO):=by
 induction s with
 |nil=>exact .refl _
 |cons s _ ih=>exact s.perm.trans (.cons _ ih)
theorem ay.gY {f:FuncId} {args:Array Value} {h:Fr} {bs:List az} {Post:Ending→List az→Prop} (con:∀ m:Fr,Sat bs m→h.cU m→ay P f args (h.add m) [] Post) :
  ay P f args h bs fun e ax =>∃ cW,Post e cW∧ax =cW++bs:=fun g hg w hw=>by
 obtain ⟨m,hm,hd,hw'⟩:=Holds.zI (U:=[]) (ζ:=bs) hw;have l5 :h.cU m:=Fr.fK hd hg (Fr.bY _);refine (con m hm l5 (g.add m) (Fr.ia (Fr.aI hg (Fr.dh _ _)) (Fr.dB hd)) w hw').mono fun e w' ⟨ax,x,y⟩=>⟨ax ++bs,⟨ax,x,rfl⟩,y.Ga hm hd⟩
theorem O.c4 {f:FuncId} {xs:Array Operand} {ts:Array TypeId} {bH:List Value} {K' :Value→List az→Prop} {first cap:Array Value} (ho:bJ ops i n σ d (.call ⟨.value x,xs,ts⟩)) (hx:aA σ x=some (.func (.func f) first cap)) (hc:dG P f=true)
  (hv:dX σ xs.toList=some bH) {args:Array Value} (hargs:first++bH.toArray++cap=args) {bs:List az} (hb:jF U bs ζ) (con:∀ m:Fr,Sat bs m→g.h.cU m→ay P f args (g.h.add m) [] (aL K'))
  (h:∀ v ax,K' v ax →O ro P fn n R ops l k ((d,v)::σ) D g (ax ++(bs++ζ))):O ro P fn n R ops (i::l) k σ D g U:=by
 have DM:ay P f args g.h bs (aL fun v ax =>∃ cW,K' v cW∧ax =cW++bs):=(ay.gY con).mono fun e ax ⟨cW,a,b⟩=>by
  cases e with
  |returned v=>exact ⟨cW,a,b⟩
  |panicked _=>exact a.elim
  |outgrown=>exact a.elim
 have:=O.call (ζ:=ζ) ho hx hc hv hargs DM (R:=R) (l:=l) (k:=k) (D:=D) (fn:=fn) fun v ax ⟨cW,a,b⟩=>by
  subst b;rw [List.append_assoc];exact h v cW a
 exact fun a w hf hd hw=>this a w hf hd (hw.perm hb.perm)
theorem aJ.perm {fl:Bool} {L:List Nat} (p:U.Perm ax) (h:aJ P fn n R ops k D g fl L σ ax):aJ P fn n R ops k D g fl L σ U:=by
 induction h generalizing U with
 |nil h=>exact .nil (S.perm p h)
 |quiet ho hna dw h ih=>exact .quiet ho hna dw (ih p)
 |no ho hna hl r4 h ih=>exact .no ho hna hl r4 (ih p)
 |lazy ho hd hz h ih=>exact .lazy ho hd hz fun b=>ih b (p.cons _)
 |@lS i d l σ cW Gr f x xs ts bH K' X' first cap args ho hx hc hv hargs con hp h ih =>
  have NB :ay P f args g.h U (eN (fun v ax =>∃ kj,K' v kj∧ax =kj++Gr) (fun ch ax =>∃ kj,X' ch kj∧ax =kj++Gr)):=fun g' hg w hw=>((con.frame (ζ:=Gr)) g' hg w (hw.perm p)).mono fun e w' ⟨ax,a,b⟩=>⟨ax,by
   cases e with
   |returned v=>exact a
   |panicked _=>exact a
   |outgrown=>obtain ⟨_,h1,_⟩:=a;exact h1.elim,b⟩
  have:=aJ.lS (U:=U) (ζ:=[]) (l:=l) ho hx hc hv hargs NB (fun a ch ax w ⟨kj,h1,h2⟩ hw=>hp a ch kj w h1 (by subst h2;simpa using hw)) fun v ax ⟨kj,h1,h2⟩=>ih v kj h1 (U:=ax ++[]) (by subst h2;simp)
  simpa using this
 |@f_ i d op l σ ab7 K' ho hna dw h ih =>
  exact .f_ ho hna (K:=K') (fun ζ o ρ w h1 h2 h3=>dw ζ o ρ w h1 h2 (h3.perm (p.append_right _))) fun v ax a=>ih v ax a (.refl _)
 |mS ho hna dw h ih =>
  exact .mS ho hna (fun ζ o ρ w h1 h2 h3=>dw ζ o ρ w h1 h2 (h3.perm (p.append_right _))) (ih (.refl _))
 |q4 ho hna hl dw h=>exact .q4 ho hna hl (fun o ρ w h1 h2 h3=>dw o ρ w h1 h2 (h3.perm p)) h
 |one hd h ih=>exact .one hd (ih p)
 |swap l' hp h ih=>exact .swap l' hp (ih p)
 |alt jt hok h ih=>exact .alt jt hok fun i hi=>ih i hi p
theorem af.perm {L:List Nat} (p:U.Perm ax) (h:af P fn n R ops k D g L σ ax):af P fn n R ops k D g L σ U:=aJ.perm p h
theorem cO.c4 {f:FuncId} {xs:Array Operand} {ts:Array TypeId} {bH:List Value} {K' :Value→List az→Prop} {first cap:Array Value} (ho:bJ ops i n σ d (.call ⟨.value x,xs,ts⟩)) {fl:Bool} (hd:ei fl ops i l=true) (hx:aA σ x=some (.func (.func f) first cap)) (hc:dG P f=true)
  (hv:dX σ xs.toList=some bH) {args:Array Value} (hargs:first++bH.toArray++cap=args) {bs:List az} (hb:jF U bs ζ) (con:∀ m:Fr,Sat bs m→g.h.cU m→ay P f args (g.h.add m) [] (aL K'))
  (h:∀ v ax,K' v ax →af P fn n R ops k D g l ((d,v)::σ) (ax ++(bs++ζ))):aJ P fn n R ops k D g fl (i::l) σ U:=by
 have DM:ay P f args g.h bs (aL fun v ax =>∃ cW,K' v cW∧ax =cW++bs):=(ay.gY con).mono fun e ax ⟨cW,a,b⟩=>by
  cases e with
  |returned v=>exact ⟨cW,a,b⟩
  |panicked _=>exact a.elim
  |outgrown=>exact a.elim
 exact aJ.perm hb.perm (cO.call (ζ:=ζ) ho hd hx hc hv hargs DM fun v ax ⟨cW,a,b⟩=>by
  subst b;rw [List.append_assoc];exact h v cW a)
theorem af.c4 {f:FuncId} {xs:Array Operand} {ts:Array TypeId} {bH:List Value} {K' :Value→List az→Prop} {first cap:Array Value} (ho:bJ ops i n σ d (.call ⟨.value x,xs,ts⟩)) (hd:eH ops [i] l=true) (hx:aA σ x=some (.func (.func f) first cap)) (hc:dG P f=true) (hv:dX σ xs.toList=some bH) {args:Array Value} (hargs:first++bH.toArray++cap=args) {bs:List az} (hb:jF U bs ζ) (con:∀ m:Fr,Sat bs m→g.h.cU m→ay P f args (g.h.add m) [] (aL K')) (h:∀ v ax,K' v ax →af P fn n R ops k D g l ((d,v)::σ) (ax ++(bs++ζ))):af P fn n R ops k D g (i::l) σ U:=cO.c4 (fl:=false) ho (by simpa [ei] using hd) hx hc hv hargs hb con h
theorem bT.c4 {f:FuncId} {xs:Array Operand} {ts:Array TypeId} {bH:List Value} {K' :Value→List az→Prop} {first cap:Array Value} (ho:bJ ops i n σ d (.call ⟨.value x,xs,ts⟩)) (_:true=true) (hx:aA σ x=some (.func (.func f) first cap)) (hc:dG P f=true) (hv:dX σ xs.toList=some bH) {args:Array Value} (hargs:first++bH.toArray++cap=args) {bs:List az} (hb:jF U bs ζ) (con:∀ m:Fr,Sat bs m→g.h.cU m→ay P f args (g.h.add m) [] (aL K')) (h:∀ v ax,K' v ax →af P fn n R ops k D g l ((d,v)::σ) (ax ++(bs++ζ))):aJ P fn n R ops k D g true (i::l) σ U:=cO.c4 (fl:=true) ho rfl hx hc hv hargs hb con h
theorem O.bM {f:FuncId} {xs:Array Operand} {ts:Array TypeId} {bH:List Value} {K' :Value→List az→Prop} {first cap:Array Value} {A:az} (ho:bJ ops i n σ d (.call ⟨.value x,xs,ts⟩)) (hx:aA σ x=some (.func (.func f) first cap)) (hc:dG P f=true)
  (hv:dX σ xs.toList=some bH) {args:Array Value} (hargs:first++bH.toArray++cap=args) (hs:bg U A ζ) (con:ay P f args g.h [A] (aL K'))
  (h:∀ v ax,K' v ax →O ro P fn n R ops l k ((d,v)::σ) D g (ax ++ζ)):O ro P fn n R ops (i::l) k σ D g U :=
 fun a w hf hd hw=>O.call (U:=[A]) (ζ:=ζ) ho hx hc hv hargs con h a w hf hd (hw.cB hs)
theorem cO.bM {f:FuncId} {xs:Array Operand} {ts:Array TypeId} {bH:List Value} {K' :Value→List az→Prop} {first cap:Array Value} {A:az} (ho:bJ ops i n σ d (.call ⟨.value x,xs,ts⟩)) {fl:Bool} (hd:ei fl ops i l=true) (hx:aA σ x=some (.func (.func f) first cap)) (hc:dG P f=true)
  (hv:dX σ xs.toList=some bH) {args:Array Value} (hargs:first++bH.toArray++cap=args) (hs:bg U A ζ) (con:ay P f args g.h [A] (aL K'))
  (h:∀ v ax,K' v ax →af P fn n R ops k D g l ((d,v)::σ) (ax ++ζ)):aJ P fn n R ops k D g fl (i::l) σ U :=
 aJ.perm hs.perm (cO.call (U:=[A]) (ζ:=ζ) ho hd hx hc hv hargs con h)
theorem af.bM {f:FuncId} {xs:Array Operand} {ts:Array TypeId} {bH:List Value} {K' :Value→List az→Prop} {first cap:Array Value} {A:az} (ho:bJ ops i n σ d (.call ⟨.value x,xs,ts⟩)) (hd:eH ops [i] l=true) (hx:aA σ x=some (.func (.func f) first cap)) (hc:dG P f=true) (hv:dX σ xs.toList=some bH) {args:Array Value} (hargs:first++bH.toArray++cap=args) (hs:bg U A ζ) (con:ay P f args g.h [A] (aL K')) (h:∀ v ax,K' v ax →af P fn n R ops k D g l ((d,v)::σ) (ax ++ζ)):af P fn n R ops k D g (i::l) σ U:=cO.bM (fl:=false) ho (by simpa [ei] using hd) hx hc hv hargs hs con h
theorem bT.bM {f:FuncId} {xs:Array Operand} {ts:Array TypeId} {bH:List Value} {K' :Value→List az→Prop} {first cap:Array Value} {A:az} (ho:bJ ops i n σ d (.call ⟨.value x,xs,ts⟩)) (_:true=true) (hx:aA σ x=some (.func (.func f) first cap)) (hc:dG P f=true) (hv:dX σ xs.toList=some bH) {args:Array Value} (hargs:first++bH.toArray++cap=args) (hs:bg U A ζ) (con:ay P f args g.h [A] (aL K')) (h:∀ v ax,K' v ax →af P fn n R ops k D g l ((d,v)::σ) (ax ++ζ)):aJ P fn n R ops k D g true (i::l) σ U:=cO.bM (fl:=true) ho rfl hx hc hv hargs hs con h
theorem O.perm {L:List Nat} (p:U.Perm ζ) (h:O ro P fn n R ops L k σ D g ζ):O ro P fn n R ops L k σ D g U:=fun a w hf hd hw=>h a w hf hd (hw.perm p)
theorem O.cB {L:List Nat} {A:az} (s:bg U A ζ) (h:O ro P fn n R ops L k σ D g (A::ζ)):O ro P fn n R ops L k σ D g U:=fun a w hf hd hw=>h a w hf hd (hw.cB s)
theorem O.imp {L:List Nat} (hs:∀ m,Sat U m→Sat ax m) (h:O ro P fn n R ops L k σ D g ax):O ro P fn n R ops L k σ D g U:=fun a w hf hd hw=>h a w hf hd (hw.imp hs)
theorem O.freeze {L:List Nat} {A:az} (h:∀ m:Fr,A m→g.h.cU m→O ro P fn n R ops L k σ D (g.add m) U):O ro P fn n R ops L k σ D g (A::U) :=
 fun a w hf hd hw=>by
  obtain ⟨m,hm,hdj,hw'⟩:=hw.freeze;exact h m hm hdj a w hf hd hw'
theorem O.panic {L:List Nat} {v:Value} {aF:TypeId} (ho:kf ops i=some (.panic x)) (hx:aA σ x=some (.iface aF v)) (h:∀ w,Holds w g U→R (.panicked [{ v:=.iface aF v,recovered:=false }]) w):O ro P fn n R ops (i::L) k σ [] g U:=by
 intro a w hf hd hw
 obtain ⟨o,hi,eB,hop,hg⟩:=pM ho;have hrun:(execOp a.eval o).run P w=.halt (.panic (.iface aF v)) w:=by
  simp [execOp,hop,hf.eval hx,Instr.panic]
 refine O.mK hi (by simp [Region.wanted,hg]) (by rw [hop];intro c hc;cases hc) hrun ?_;rw [Oper.uponIn_panic];exact Post.panic hd (h w hw)
theorem run_equal_pointer_nil (ht:P.underlying t=some (.pointer e)) (a:Option Addr) (w:World):(Op.equal t (.pointer a) (.pointer none)).run P w=.ok a.isNone w:=by
 show (Op.equalIn (9999+1) t (.pointer a) (.pointer none)).run P w=_
 rw [Op.equalIn]
 cases a<;>simp [run_underlying ht]
theorem aG.rM {u:TypeId} {a:Option Addr} (ht:P.underlying t=some (.pointer e)) (hx:aA σ x=some (.pointer a)) (hy:aA σ y=some (.pointer none)):aG P (.binOp .eql t x y u) σ g U (.bool a.isNone) U :=
 .run fun o ρ w ho hk=>by simp [execOp,ho,hk x _ hx,hk y _ hy,eqGuard,Go.binOp,run_equal_pointer_nil ht]
theorem aG.x_ {u:TypeId} {a:Option Addr} (ht:P.underlying t=some (.pointer e)) (hx:aA σ x=some (.pointer a)) (hy:aA σ y=some (.pointer none)):aG P (.binOp .neq t x y u) σ g U (.bool (!a.isNone)) U :=
 .run fun o ρ w ho hk=>by simp [execOp,ho,hk x _ hx,hk y _ hy,eqGuard,Go.binOp,run_equal_pointer_nil ht]
theorem aG.nx {u:TypeId} {a:Option Addr} {m c:Nat} (ht:P.underlying t=some (.slice e)) (hx:aA σ x=some (.slice a m c)) (hy:aA σ y=some (.slice none 0 0)):aG P (.binOp .eql t x y u) σ g U (.bool a.isNone) U :=
 .run fun o ρ w ho hk=>by simp [execOp,ho,hk x _ hx,hk y _ hy,eqGuard,Go.binOp,run_equal_slice_nil w t e a m c ht]
def Kr:TypeDesc→Bool
 |.interface _=>false
 |_=>true
theorem aG.J7 {v:Value} {dd:TypeDesc} (ht:P.underlying t=some dd) (hx:aA σ x=some v) (hn:Kr dd=true:=by rfl):aG P (.makeInterface t x) σ g U (.iface t v) U :=
 .run fun o ρ w ho hk=>by
  simp only [execOp,ho,hk x _ hx,Instr.makeInterface,Sem.run_bind,run_underlying ht,Result.andThen_ok]
  cases dd<;>first|(simp;done)|exact Bool.noConfusion hn
def placesOf (P:Program):List Field→Option (List (Nat × Nat))
 |[]=>some []
 |f::fs=>match (P.info? f.type).map (·.size),placesOf P fs with|some m,some ps=>some ((f.offset,m)::ps)|_,_=>none
theorem run_places:∀ (fs:List Field) (ps:List (Nat × Nat)),placesOf P fs=some ps→∀ w,(fs.mapM fun (f:Field)=>(do pure (f.offset,← sizeOf f.type):Sem (Nat × Nat))).run P w=.ok ps w
 |[],ps,h,w=>by cases h;simp
 |f::fs,ps,h,w=>by
  simp only [placesOf] at h
  split at h
  ·rename_i m k7 hm hq
   cases h
   have ih:=run_places fs k7 hq w;simp only [List.mapM_cons,Sem.run_bind,run_sizeOf hm,Result.andThen_ok,Sem.run_pure,ih]
  ·cases h
def zw (σ:List (Nat × Value)):List (Nat × Operand)→Option (List (Nat × Value))
 |[]=>some []
 |(j,x)::r=>match aA σ x,zw σ r with|some v,some vs=>some ((j,v)::vs)|_,_=>none
theorem HU {ρ:Operand→Value} (hk:ni σ ρ):∀ {xs:List (Nat × Operand)} {vs:List (Nat × Value)},zw σ xs=some vs→xs.map (fun p=>(p.1,ρ p.2))=vs
 |[],_,h=>by cases h;rfl
 |(j,x)::xs,vs,h=>by
  simp only [zw] at h
  split at h
  ·rename_i v us hv qV;cases h;simp [hk x v hv,HU hk qV]
  ·cases h
def setAt:List Value→Nat→List Value→List Value
 |[],_,_=>[]
 |c::z,n+1,vs=>c::setAt z n vs
 |c::z,0,[]=>c::z
 |_::z,0,v::vs=>v::setAt z 0 vs
theorem FZ:∀ (z:List Value) (n:Nat) (vs:List Value),n+vs.length≤z.length→setAt z n vs=z.take n++vs++z.drop (n+vs.length)
 |[],n,vs,h=>by simp at h;obtain ⟨rfl,rfl⟩:=h;rfl
 |c::z,n+1,vs,h=>by
  have:=FZ z n vs (by simp at h;omega);simp only [setAt,this,List.take_succ_cons,List.cons_append];rw [show n+1+vs.length=(n+vs.length)+1 from by omega,List.drop_succ_cons]
 |c::z,0,[],h=>by simp [setAt]
 |c::z,0,v::vs,h=>by
  have:=FZ z 0 vs (by simp at h;omega);simp only [setAt,this]
  simp
def zx (ps:List (Nat × Nat)):List Value→List (Nat × List Value)→Option (List Value)
 |z,[]=>some z
 |z,(i,c)::r=>match ps[i]? with
  |some (off,m)=>match Nat.beq c.length m,Nat.ble (off+m) z.length with
   |true,true=>zx ps (setAt z off c) r
   |_,_=>none
  |none=>none
def ze:List (Nat × Value)→List (Nat × List Value)
 |[]=>[]
 |(i,v)::r=>(i,v.cells.toList)::ze r
theorem HY {ps:List (Nat × Nat)}:∀ (vs:List (Nat × Value)) (z cs:List Value),zx ps z (ze vs)=some cs→Instr.fill (ps[·]?) z.toArray vs=some cs.toArray
 |[],z,cs,h=>by cases h;rfl
 |(i,v)::vs,z,cs,h=>by
  simp only [ze,zx] at h
  split at h
  ·rename_i off m hp
   split at h
   ·rename_i hb hl
    have hb:=Nat.eq_of_beq_eq_true hb;have hl:=Nat.le_of_ble_eq_true hl;have hs:v.cells.size=m:=by simpa using hb
    simp only [Instr.fill,hp];have h2:(decide (v.cells.size≠m) ||decide (off+v.cells.size>z.toArray.size))=false:=by simp;omega
    have hf:(v.cells.zipIdx.foldl (fun cs (x:Value × Nat)=>cs.setIfInBounds (off+x.2) x.1) z.toArray)=(setAt z off v.cells.toList).toArray:=by
     rw [← Array.foldl_toList,Array.toList_zipIdx,FZ _ _ _ (by simpa [hs] using hl)];refine C0 v.cells.toList (z.take off) ((z.drop off).take m) (z.drop (off+v.cells.toList.length)) 0 off z.toArray ?_ ?_ ?_
     ·rw [hb,← List.drop_drop,List.append_assoc,List.take_append_drop,List.take_append_drop]
     ·simp [hs];omega
     ·simp;omega
    rw [if_neg (by rw [h2];exact Bool.false_ne_true)];refine (congrArg (fun c=>Instr.fill _ c _) hf).trans (HY vs _ cs h)
   ·cases h
  ·cases h
theorem aG.build {fs:Array Field} {z:Value} {zs:List Value} {ps:List (Nat × Nat)} {parts:Array (Nat × Operand)} {vs:List (Nat × Value)} {cs:List Value} (ht:P.underlying t=some (.struct fs)) (hz:zeroOf P t=some z) (hzs:z.cells.toList=zs) (hps:placesOf P fs.toList=some ps)
  (hp:zw σ parts.toList=some vs) (hf:zx ps zs (ze vs)=some cs):aG P (.build t parts) σ g U (.agg cs.toArray) U :=
 .run fun o ρ w ho hk=>by
  subst hzs;have hm:(parts.map fun (p:Nat × Operand)=>(p.1,ρ p.2)).toList=vs:=by rw [Array.toList_map];exact HU hk hp
  have nN:(fs.mapM fun (f:Field)=>(do pure (f.offset,← sizeOf f.type):Sem (Nat × Nat))).run P w=.ok ps.toArray w:=by
   rw [Array.mapM_eq_mapM_toList,Sem.run_map,run_places _ _ hps];rfl
  have hf' :Instr.fill (fun j=>ps.toArray[j]?) z.cells (parts.map fun (p:Nat × Operand)=>(p.1,ρ p.2)).toList=some cs.toArray:=by
   have:=HY vs _ _ hf;rw [hm];rw [Array.toArray_toList] at this;rw [← this];congr 1;funext j;simp
  have hb:(Instr.build t (parts.map fun (p:Nat × Operand)=>(p.1,ρ p.2))).run P w=.ok (.agg cs.toArray) w:=by
   simp only [Instr.build,Sem.run_bind,FU hz,Result.andThen_ok,run_underlying ht,nN,hf']
   rfl
  have e1:(parts.map fun x=>match x with|(i,x)=>(i,ρ x))=parts.map fun (p:Nat × Operand)=>(p.1,ρ p.2):=rfl;simp only [execOp,ho,Sem.run_bind];rw [e1,hb];rfl
end
theorem Yx {U:List az}:jF U [] U:=.nil
theorem Yw {U ζ aO:List az} {A:az} {bs:List az} (h:bg U A ζ) (k:jF ζ bs aO):jF U (A::bs) aO:=.cons h k
end Go.Sp
end
end
section
/- Texts of this proof, one behind the other. -/
section
/- Texts of this proof, one behind the other. -/
section
/- Texts of this proof. -/
namespace Go.Sp
def yo (σ:List (Nat × Value)):Op→Option Value
 |.move x=>aA σ x
 |.assign x=>aA σ x
 |.extract x j=>match aA σ x with|some (.tuple vs)=>vs[j]?|_=>none
 |.pick c x y=>match aA σ c with|some (.bool true)=>aA σ x|some (.bool false)=>aA σ y|_=>none
 |_=>none
theorem FG {P:Program} {σ:List (Nat × Value)} {op:Op} {v:Value} (h:yo σ op=some v):jk op=false∧∀ g U,aG P op σ g U v U:=by
 unfold yo at h
 split at h
 ·exact ⟨rfl,fun g U=>.TQ h⟩
 ·exact ⟨rfl,fun g U=>.as h⟩
 ·split at h
  ·rename_i e;exact ⟨rfl,fun g U=>.extract e h⟩
  ·cases h
 ·split at h
  ·rename_i e;exact ⟨rfl,fun g U=>.UP e h⟩
  ·rename_i e;exact ⟨rfl,fun g U=>.UO e h⟩
  ·cases h
 ·cases h
def FF (ops:Array Oper) (n i:Nat) (σ:List (Nat × Value)):Option (Nat × Value) :=
 match yf ops i n with
 |some (d,op)=>match yo σ op with|some v=>some (d,v)|none=>none
 |none=>match su ops i n with
  |some (d,op,t,b)=>match look σ t with
   |some u=>match q8 b u with
    |true=>(match jk op with|false=>some (d,undef)|true=>none)
    |false=>match yo σ op with|some v=>some (d,v)|none=>none
   |none=>none
  |none=>none
theorem KP {ops:Array Oper} {n i d:Nat} {σ:List (Nat × Value)} {v:Value} (h:FF ops n i σ=some (d,v)) :
  (∃ op,bJ ops i n σ d op∧yo σ op=some v)∨(∃ op t b u,su ops i n=some (d,op,t,b)∧look σ t=some u∧q8 b u=true∧jk op=false∧v=undef):=by
 unfold FF at h
 split at h
 ·rename_i e
  split at h
  ·rename_i e2;cases h;exact .inl ⟨_,.p e,e2⟩
  ·cases h
 ·split at h
  ·rename_i t b e
   split at h
   ·rename_i u e2
    split at h
    ·rename_i ck
     split at h
     ·rename_i nw;cases h;exact .inr ⟨_,_,_,_,e,e2,ck,nw,rfl⟩
     ·cases h
    ·rename_i ck
     split at h
     ·rename_i fm
      cases h
      have hu:u=.bool b:=by
       cases u<;>simp [q8] at ck
       rw [ck]
      subst hu;exact .inl ⟨_,.g e e2,fm⟩
     ·cases h
   ·cases h
  ·cases h
def ym (ops:Array Oper) (n:Nat):Nat→List Nat→List (Nat × Value)→Option (List Nat × List (Nat × Value))
 |0,l,σ=>some (l,σ)
 |k+1,i::l,σ=>match FF ops n i σ with|some (d,v)=>ym ops n k l ((d,v)::σ)|none=>none
 |_+1,[],_=>none
section
variable {ro:Option Nat} {P:Program} {fn:Func} {n:Nat} {R:Ending→World→Prop} {k:List Item} {D:List Deferred} {g:bn} {U:List az} {ops:Array Oper}
theorem O.q:∀ (m:Nat) {l l' :List Nat} {σ σ' :List (Nat × Value)},ym ops n m l σ=some (l',σ')→O ro P fn n R ops l' k σ' D g U→O ro P fn n R ops l k σ D g U
 |0,_,_,_,_,h,hn=>by cases h;exact hn
 |m+1,[],_,_,_,h,_=>by cases h
 |m+1,i::l,_,σ,_,h,hn=>by
  simp only [ym] at h
  split at h
  ·rename_i d v e
   have r:=O.q m h hn
   rcases KP e with ⟨op,h1,h2⟩|⟨op,t,b,u,h1,h2,h3,h4,rfl⟩
   ·exact O.op h1 ((FG h2).2 g U) r
   ·exact O.Ul h1 h2 h3 r
  ·cases h
theorem af.q:∀ (m:Nat) {l l' :List Nat} {σ σ' :List (Nat × Value)},ym ops n m l σ=some (l',σ')→af P fn n R ops k D g l' σ' U→af P fn n R ops k D g l σ U
 |0,_,_,_,_,h,hn=>by cases h;exact hn
 |m+1,[],_,_,_,h,_=>by cases h
 |m+1,i::l,_,σ,_,h,hn=>by
  simp only [ym] at h
  split at h
  ·rename_i d v e
   have r:=af.q m h hn
   rcases KP e with ⟨op,h1,h2⟩|⟨op,t,b,u,h1,h2,h3,h4,rfl⟩
   ·exact aJ.quiet h1 (FG (P:=P) h2).1 (fun U=>(FG h2).2 g U) r
   ·exact aJ.no h1 h4 h2 h3 r
  ·cases h
end
end Go.Sp
end
section
/- Texts of this proof. -/
namespace Go.Sp
def ag.Pure {α:Type} (T:ag α):Prop:=∀ (h:Fr) (cs:List Value) (a:α),T.rel h cs a→T.rel Fr.emp cs a
theorem AV:ag.u8.Pure:=fun _ _ _ h=>h
theorem AU:ag.str.Pure:=fun _ _ _ h=>h
theorem UZ (k:Nat):(ag.cells k).Pure:=fun _ _ _ h=>h
def av {α:Type} (T:ag α) (e:TypeId) (v:Value) (xs:List α):az:=fun h=>∃ ak:List (List Value),b5 (T.rel Fr.emp) ak xs∧Own v T.k e xs.length ak.flatten h
theorem av.arr {α:Type} {T:ag α} {e:TypeId} {v:Value} {xs:List α} {h:Fr}:av T e v xs h→aj T h v xs
 |⟨ak,a,b⟩=>⟨ak,a.imp fun _ _=>T.mono (Fr.c6 _),b.sl⟩
theorem av.shape {α:Type} {T:ag α} {e:TypeId} {v:Value} {xs:List α} {h:Fr} (x:av T e v xs h):∃ a c,v=.slice a xs.length c:=x.arr.shape
theorem av.of {α:Type} {T:ag α} {e:TypeId} {v:Value} {xs:List α} {ak:List (List Value)} {m:Nat} {cs:List Value} (ha:b5 (T.rel Fr.emp) ak xs) (hm:m=xs.length) (hc:cs=ak.flatten) {k:Nat} (hk:k=T.k) :
  ∀ h,Own v k e m cs h→av T e v xs h:=by subst hm hc hk;exact fun h x=>⟨ak,ha,x⟩
theorem GU {α:Type} {T:ag α} {f:α→List Value} (hf:∀ x,T.rel Fr.emp (f x) x):∀ xs:List α,b5 (T.rel Fr.emp) (xs.map f) xs
 |[]=>trivial
 |x::xs=>⟨hf x,GU hf xs⟩
theorem b5.one {α:Type} {T:ag α} {h:Fr}:∀ {ak:List (List Value)} {xs:List α},b5 (T.rel h) ak xs→∀ c∈ak.flatten,c.oneCell' =true
 |[],[],_,c,hc=>by cases hc
 |_::_,_::_,⟨x,y⟩,c,hc=>by
  simp only [List.flatten_cons,List.mem_append] at hc
  rcases hc with hc|hc
  ·exact T.one x c hc
  ·exact b5.one y c hc
section
variable {ro:Option Nat} {P:Program} {σ σ' :List (Nat × Value)} {g:bn} {U ax ζ aO:List az} {fn:Func} {n:Nat} {R:Ending→World→Prop} {k K:List Item} {D:List Deferred} {ops:Array Oper} {i d:Nat} {l:List Nat} {t e:TypeId} {x y:Operand} {todo:List Item}
theorem bF.cB {op:Op} {Q:Value→List az→Prop} {A:az} (s:bg U A ζ) (h:bF P op σ g (A::ζ) Q):bF P op σ g U Q:=fun o ρ w h1 h2 h3=>h o ρ w h1 h2 (h3.cB s)
theorem bF.borrow {op:Op} {Q:Value→List az→Prop} {A:az} (h:∀ m:Fr,A m→g.h.cU m→bF P op σ (g.add m) U Q):bF P op σ g (A::U) fun v ax =>∃ cW,Q v cW∧ax =A::cW :=
 fun o ρ w h1 h2 h3=>by
  obtain ⟨m,hm,hd,hw⟩:=h3.freeze;obtain ⟨v,w',cW,q,r,hw'⟩:=h m hm hd o ρ w h1 h2 hw;exact ⟨v,w',_,⟨cW,q,rfl⟩,r,hw'.oH hm hd⟩
theorem bF.mF {α:Type} {T:ag α} {cw:Nat} {z:List Value} {v u:Value} {xs ys:List α} (hT:T.Pure) (ht:P.underlying t=some (.slice e)) (he:dI P e T.k cw z) (hk:0<T.k) (hx:aA σ x=some v) (hy:aA σ y=some u)
  (hs:bg U (av T e v xs) ζ) (hu:aj T g.h u ys) (hb:(xs.length+ys.length)*cw≤140737488355328) (h63:xs.length+ys.length≤9223372036854775807) :
  bF P (.call ⟨.builtin .append,#[x,y],#[t,t]⟩) σ g U fun v' ax =>∃ a c,v' =.slice a (xs.length+ys.length) c∧ax =av T e v' (xs++ys)::ζ:=by
 intro o ρ w h1 h2 h3
 have hw:=h3.cB hs;obtain ⟨p1,p2,p3,K,hd,s1,s2,k1,k2,kd,t1,t2,⟨ak,ha,hown⟩,hr⟩:=hw;have hw' :Holds w g (Own v T.k e xs.length ak.flatten::ζ):=⟨p1,p2,p3,K,hd,s1,s2,k1,k2,kd,t1,t2,hown,hr⟩;obtain ⟨dW,hda,fI⟩:=hu;obtain ⟨v',w',ax,j9,hrun,hh⟩:=bF.append (g:=g) ht he hk hx hy .here fI (b5.one hda) hb h63 o ρ w h1 h2 hw';subst j9;have xq :Holds w' g (av T e v' (xs++ys)::ζ):=hh.imp fun _=>Sat.fk (av.of (ak:=ak++dW) (ha.append (hda.imp fun _ _ q=>hT _ _ _ q)) (by simp) (by simp) rfl) fun _ q=>q;obtain ⟨a,c,hv⟩:∃ a c,v' =.slice a (xs.length+ys.length) c:=by
  obtain ⟨_,_,_,_,_,_,_,k1,_,_,_,_,hA,_⟩:=xq;obtain ⟨a,c,h⟩:=hA.shape;exact ⟨a,c,by simpa using h⟩
 exact ⟨v',w',_,⟨a,c,hv,rfl⟩,hrun,xq⟩
theorem bF.MC {α:Type} {T:ag α} {cw m:Nat} {z cs:List Value} {v u:Value} {xs ys:List α} {dW:List (List Value)} (ht:P.underlying t=some (.slice e)) (he:dI P e T.k cw z) (hk:0<T.k) (hx:aA σ x=some v) (hy:aA σ y=some u)
  (hl:bg U (Own u T.k e m cs) aO) (hs:bg aO (av T e v xs) ζ) (hm:m=ys.length) (hc:cs=dW.flatten) (hd:b5 (T.rel Fr.emp) dW ys) (hb:(xs.length+ys.length)*cw≤140737488355328) (h63:xs.length+ys.length≤9223372036854775807) :
  bF P (.call ⟨.builtin .append,#[x,y],#[t,t]⟩) σ g U fun v' ax =>∃ a c,v' =.slice a (xs.length+ys.length) c∧ax =av T e v' (xs++ys)::ζ:=by
 subst hm hc
 intro o ρ w h1 h2 h3
 obtain ⟨m,hm,hdj,hw⟩:=(h3.cB hl).freeze;have hw:=hw.cB hs;obtain ⟨p1,p2,p3,K,oo,s1,s2,k1,k2,kd,t1,t2,⟨ak,ha,hown⟩,hr⟩:=hw;have hw' :Holds w (g.add m) (Own v T.k e xs.length ak.flatten::ζ):=⟨p1,p2,p3,K,oo,s1,s2,k1,k2,kd,t1,t2,hown,hr⟩;have fI:qv (g.add m).h u T.k ys.length dW.flatten:=hm.sl.mono (Fr.dB hdj);obtain ⟨v',w',ax,j9,hrun,hh⟩:=bF.append (g:=g.add m) ht he hk hx hy .here fI (b5.one hd) hb h63 o ρ w h1 h2 hw';subst j9;have xq :Holds w' (g.add m) (av T e v' (xs++ys)::ζ):=hh.imp fun _=>Sat.fk (av.of (ak:=ak++dW) (ha.append hd) (by simp) (by simp) rfl) fun _ q=>q;obtain ⟨a,c,hv⟩:∃ a c,v' =.slice a (xs.length+ys.length) c:=by
  obtain ⟨_,_,_,_,_,_,_,k1,_,_,_,_,hA,_⟩:=xq;obtain ⟨a,c,h⟩:=hA.shape;exact ⟨a,c,by simpa using h⟩
 exact ⟨v',w',_,⟨a,c,hv,rfl⟩,hrun,(xq.oH hm hdj).drop⟩
def pZ (v:Value) (k j:Nat) (p:Addr):Prop:=∃ b m c,v=.slice (some ⟨b,0,none⟩) m c∧p=⟨b,j*k,none⟩
theorem Holds.oD {α:Type} {T:ag α} {w:World} {v:Value} {xs:List α} (h:Holds w g (av T e v xs::ζ)) (hne:0<xs.length) :
  ∃ b cap cur ak,v=.slice (some ⟨b,0,none⟩) xs.length cap∧xs.length≤cap∧cap≤9223372036854775807∧cur.size=cap*T.k∧cur.toList.take (xs.length*T.k)=ak.flatten∧b5 (T.rel Fr.emp) ak xs∧∃ fz,rC fz (cap*T.k)∧Holds w g (blk b (.cells cur e fz)::ζ):=by
 obtain ⟨p1,p2,p3,K,oo,s1,s2,k1,k2,kd,t1,t2,⟨ak,ha,hl,hA⟩,hr⟩:=h
 rcases hA with ⟨_,h0⟩|⟨b,cap,cur,hv,⟨fz,hb,hz⟩,h1,h2,h3,h4⟩
 ·omega
 ·exact ⟨b,cap,cur,ak,hv,h1,h2,h3,h4,ha,fz,hz,p1,p2,p3,K,oo,s1,s2,k1,k2,kd,t1,t2,hb,hr⟩
theorem bF.ox {α:Type} {T:ag α} {v:Value} {xs:List α} {j:Nat} {kd:IntKind} (ht:P.underlying t=some (.slice e)) (he:(P.info? e).map (·.size)=some T.k) (hx:aA σ x=some v) {cq:Int} (hy:aA σ y=some (.int kd cq)) (dZ:cq=(j:Int))
  (hs:bg U (av T e v xs) ζ) (hj:j<xs.length):bF P (.indexAddr t x y) σ g U fun u ax =>∃ p,u=.pointer (some p)∧pZ v T.k j p∧ax =U :=
 fun o ρ w ho hk hw=>by
  subst dZ;obtain ⟨b,cap,cur,ak,rfl,_⟩:=(hw.cB hs).oD (by omega);refine ⟨.pointer (some ⟨b,j*T.k,none⟩),w,U,⟨_,rfl,⟨b,_,_,rfl,rfl⟩,rfl⟩,?_,hw⟩;have e1:(⟨b,0,none⟩:Addr).add (j*T.k)=⟨b,j*T.k,none⟩:=by rw [add_lit];simp
  simp [execOp,ho,hk x _ hx,hk y _ hy,Instr.indexAt,asIntOf,run_underlying ht,hj,run_sizeOf he,e1]
theorem Ls {α:Type} {T:ag α} {h:Fr} {ds:List Value} {a:α} (hd:T.rel h ds a):∀ {ak:List (List Value)} {xs:List α} (j:Nat),b5 (T.rel h) ak xs→j<xs.length →
  b5 (T.rel h) (ak.set j ds) (xs.set j a)∧(ak.set j ds).flatten=ak.flatten.take (j*T.k)++ds++ak.flatten.drop (j*T.k+T.k)
 |[],[],_,_,hj=>by simp at hj
 |c::ak,x::xs,0,⟨hc,hr⟩,_=>by
  have ec:=T.len hc;refine ⟨⟨hd,hr⟩,?_⟩
  simp [ec]
 |c::ak,x::xs,j+1,⟨hc,hr⟩,hj=>by
  have ec:=T.len hc;obtain ⟨h1,h2⟩:=Ls hd j hr (by simpa using hj);refine ⟨⟨hc,h1⟩,?_⟩;have e1:(c++ak.flatten).take ((j+1)*T.k)=c++ak.flatten.take (j*T.k):=by
   rw [Nat.succ_mul,List.take_append,List.take_of_length_le (l:=c) (by omega)]
   congr 2;omega
  have e2:(c++ak.flatten).drop ((j+1)*T.k+T.k)=ak.flatten.drop (j*T.k+T.k):=by
   rw [Nat.succ_mul,List.drop_append,List.drop_of_length_le (l:=c) (by omega),List.nil_append]
   congr 1;omega
  simp only [List.set_cons_succ,List.flatten_cons,h2];rw [e1,e2]
  simp
theorem kn.ru {α:Type} {T:ag α} {v u:Value} {xs:List α} {j:Nat} {p:Addr} {a:α} (hsz:(P.info? t).map (·.size)=some T.k) (hx:aA σ x=some (.pointer (some p))) (hp:pZ v T.k j p) (hy:aA σ y=some u)
  (hs:bg U (av T e v xs) ζ) (hj:j<xs.length) (hu:T.rel Fr.emp u.cells.toList a):kn P (.store t x y) σ g U (av T e v (xs.set j a)::ζ) :=
 fun o ρ w ho hk hw=>by
  obtain ⟨b,cap,cur,ak,rfl,h1,h2,h3,h4,ha,fz,hfz,jN⟩:=(hw.cB hs).oD (by omega);obtain ⟨b',m',c',he,rfl⟩:=hp
  cases he
  have ov:u.cells.toList.length=T.k:=T.len hu;have hjm:j*T.k+T.k≤xs.length*T.k:=by rw [← Nat.succ_mul];exact Nat.mul_le_mul_right _ hj
  have zZ:xs.length*T.k≤cur.size:=by rw [h3];exact Nat.mul_le_mul_right _ h1
  have hst:=sE P b (j*T.k) e hfz u.cells.toList 0 cur w jN.block (by omega) (by omega) (T.one hu);simp only [Nat.add_zero,ov] at hst;obtain ⟨q1,q2⟩:=Ls hu j ha hj;refine ⟨w.setRow b (cur.toList.take (j*T.k)++u.cells.toList++cur.toList.drop (j*T.k+T.k)).toArray,?_,?_⟩
  ·have hc:u.cells.size=T.k:=by rw [← ov];simp
   simp only [List.append_assoc] at hst ⊢
   simp [execOp,ho,hk x _ hx,hk y _ hy,Instr.storeAt,Instr.sureAddr,storeVar,run_sizeOf hsz,hc,hst]
  ·refine (jN.setRow.uo hfz (k:=T.k) (m:=xs.length) (cap:=cap) (cs:=(ak.set j u.cells.toList).flatten) h1 h2 ?_ ?_).imp fun _=>Sat.fk (av.of q1 (by simp) rfl rfl) fun _ q=>q
   ·simp only [List.size_toArray,List.length_append,List.length_take,List.length_drop,Array.length_toList,ov]
    omega
   ·rw [q2,← h4]
    have l1:(cur.toList.take (j*T.k)).length=j*T.k:=by simp;omega
    simp only [List.append_assoc];rw [List.take_append,l1,List.take_take,Nat.min_eq_right (by omega),List.take_append,ov,List.take_take,Nat.min_eq_left (by omega)];rw [List.take_of_length_le (l:=u.cells.toList) (by omega)]
    congr 2
    rw [List.drop_take]
    congr 1
    omega
theorem aG.J1 {α:Type} {T:ag α} {v:Value} {xs:List α} {j:Nat} {p:Addr} {u:Value} (ht:dY P t=true) (hx:aA σ x=some (.pointer (some p))) (hp:pZ v T.k j p) (ot:T.k=1)
  (hs:bg U (av T e v xs) ζ) (hj:j<xs.length) (hu:∀ cs,T.rel Fr.emp cs xs[j]→cs=[u]):aG P (.load t x) σ g U u U :=
 fun o ρ w ho hk hw=>⟨w,by
  obtain ⟨b,cap,cur,ak,rfl,h1,h2,h3,h4,ha,fz,hfz,jN⟩:=(hw.cB hs).oD (by omega);obtain ⟨b',m',c',he,rfl⟩:=hp
  cases he
  have zX:j<ak.length:=by rw [ha.length];exact hj
  have hg:=ha.tj j zX;rw [hu _ (ha.get j zX hj),← h4,ot] at hg;have hb0:=jN.block;have hc:w.cell? ⟨b,j*T.k,none⟩=some u:=by
   rw [ot];simp only [World.cell?,hb0];have:(List.take 1 (List.drop (j*1) (cur.toList.take (xs.length*1))))[0]?=some u:=by rw [hg];rfl
   rw [List.getElem?_take_of_lt (by omega),List.getElem?_drop,List.getElem?_take_of_lt (by omega)] at this
   simpa using this
  simp [execOp,ho,hk x _ hx,Instr.loadAt,Instr.sureAddr,loadVar,sD (rO ht),hc],hw⟩
theorem A5 {α:Type} {T:ag α} {z:List Value} {a:α} (hz:T.rel Fr.emp z a):∀ m:Nat,∃ ak,b5 (T.rel Fr.emp) ak (List.replicate m a)∧ak.flatten=fe z m
 |0=>⟨[],trivial,rfl⟩
 |m+1=>let ⟨ak,h1,h2⟩:=A5 hz m;⟨z::ak,⟨hz,h1⟩,by simp [fe,h2]⟩
theorem bF.Az {α:Type} {T:ag α} {cw:Nat} {z:List Value} (a:α) {m:Nat} {kx ky:IntKind} {yR yS:Int} (ht:P.underlying t=some (.slice e)) (he:dI P e T.k cw z) (hk:0<T.k) (hz:T.rel Fr.emp z a)
  (hx:aA σ x=some (.int kx yR)) (hy:aA σ y=some (.int ky yS)) (EU:yR=(m:Int)) (EV:yS=(m:Int)) (hb:cw*m≤281474976710656) (h63:m≤9223372036854775807) :
  bF P (.makeSlice t x y) σ g U fun v ax =>∃ a' c,v=.slice a' m c∧ax =av T e v (List.replicate m a)::U:=by
 subst EU EV
 intro o ρ w h1 h2 h3
 obtain ⟨v,w',ax,j9,hrun,hw⟩:=bF.make (g:=g) (U:=U) ht he hk hx hy hb h63 o ρ w h1 h2 h3;subst j9;obtain ⟨ak,q1,q2⟩:=A5 hz m;have hh:Holds w' g (av T e v (List.replicate m a)::U):=hw.imp fun _=>Sat.fk (av.of q1 (by simp) q2.symm rfl) fun _ q=>q;obtain ⟨a',c,hv⟩:∃ a' c,v=.slice a' m c:=by
  obtain ⟨_,_,_,_,_,_,_,k1,_,_,_,_,hA,_⟩:=hh;obtain ⟨a',c,h⟩:=hA.shape;exact ⟨a',c,by simpa using h⟩
 exact ⟨v,w',_,⟨a',c,hv,rfl⟩,hrun,hh⟩
theorem bF.J4 {α:Type} {T:ag α} {cw:Nat} {z:List Value} {c:Nat} {kx ky:IntKind} {yR yS:Int} (ht:P.underlying t=some (.slice e)) (he:dI P e T.k cw z)
  (hx:aA σ x=some (.int kx yR)) (hy:aA σ y=some (.int ky yS)) (EU:yR=0) (EV:yS=(c:Int)) (hb:cw*c≤281474976710656) (h63:c≤9223372036854775807) :
  bF P (.makeSlice t x y) σ g U fun v ax =>∃ a' c,v=.slice a' 0 c∧ax =av T e v []::U:=by
 subst EU EV
 intro o ρ w h1 h2 h3
 obtain ⟨v,w',ax,j9,hrun,hw⟩:=bF.TK (g:=g) (U:=U) ht he hx hy hb h63 o ρ w h1 h2 h3;subst j9;have hh:Holds w' g (av T e v []::U):=hw.imp fun _=>Sat.fk (av.of (T:=T) (xs:=[]) (ak:=[]) trivial (by simp) rfl rfl) fun _ q=>q;obtain ⟨a',c,hv⟩:∃ a' c,v=.slice a' 0 c:=by
  obtain ⟨_,_,_,_,_,_,_,k1,_,_,_,_,hA,_⟩:=hh;obtain ⟨a',c,h⟩:=hA.shape;exact ⟨a',c,by simpa using h⟩
 exact ⟨v,w',_,⟨a',c,hv,rfl⟩,hrun,hh⟩
theorem bF.cA {α:Type} {T:ag α} {cw len:Nat} {z:List Value} {parts:Array (Nat × Operand)} {vs:List Value} {ys:List α} (ht:P.underlying t=some (.slice e)) (he:dI P e T.k cw z) (hk:0<T.k)
  (hp:partsOf σ parts.toList 0=some vs) (hlen:parts.toList.length=len) (hvs:b5 (T.rel Fr.emp) (vs.map (·.cells.toList)) ys) (iW:len*T.k≤16777216) :
  bF P (.buildSlice t len parts) σ g U fun v ax =>∃ a c,v=.slice a len c∧ax =av T e v ys::U:=by
 intro o ρ w h1 h2 h3
 have hl:vs.length=len:=by rw [Fw _ _ _ hp,hlen]
 have mO:ys.length=len:=by rw [← hvs.length,List.length_map,hl]
 have hall:vs.all (fun v=>Nat.beq v.cells.size T.k)=true:=by
  rw [List.all_eq_true]
  intro v hv
  obtain ⟨i,hi,rfl⟩:=List.mem_iff_getElem.1 hv;have:=T.len (hvs.get i (by simpa using hi) (by omega));have hs:vs[i].cells.size=T.k:=by simpa using this
  rw [hs];exact Nat.beq_refl _
 obtain ⟨v,w',ax,j9,hrun,hw⟩:=bF.lit (g:=g) (U:=U) ht he hk hp hlen hall iW o ρ w h1 h2 h3;subst j9;have hh:Holds w' g (av T e v ys::U):=hw.imp fun _=>Sat.fk (av.of hvs mO.symm rfl rfl) fun _ q=>q;obtain ⟨a',c,hv⟩:∃ a' c,v=.slice a' len c:=by
  obtain ⟨_,_,_,_,_,_,_,k1,_,_,_,_,hA,_⟩:=hh;obtain ⟨a',c,h⟩:=hA.shape;exact ⟨a',c,by simpa [mO] using h⟩
 exact ⟨v,w',_,⟨a',c,hv,rfl⟩,hrun,hh⟩
theorem bF.gN {α:Type} {T:ag α} {cw:Nat} {z:List Value} {v u:Value} {xs ys:List α} (ht:P.underlying t=some (.slice e)) (he:dI P e T.k cw z) (hk:0<T.k) (hx:aA σ x=some v) (hy:aA σ y=some u)
  (hl:bg U (av T e u ys) aO) (hs:bg aO (av T e v xs) ζ) (hb:(xs.length+ys.length)*cw≤140737488355328) (h63:xs.length+ys.length≤9223372036854775807) :
  bF P (.call ⟨.builtin .append,#[x,y],#[t,t]⟩) σ g U fun v' ax =>∃ a c,v' =.slice a (xs.length+ys.length) c∧ax =av T e v' (xs++ys)::ζ:=by
 intro o ρ w h1 h2 h3
 obtain ⟨p1,p2,p3,K,oo,s1,s2,k1,k2,kd,t1,t2,⟨ak,ha,hown⟩,hr⟩:=h3.cB hl;have hw' :Holds w g (Own u T.k e ys.length ak.flatten::aO):=⟨p1,p2,p3,K,oo,s1,s2,k1,k2,kd,t1,t2,hown,hr⟩;exact bF.MC (g:=g) ht he hk hx hy .here hs rfl rfl ha hb h63 o ρ w h1 h2 hw'
theorem AL {α:Type} {T:ag α}:∀ h,av T e (.slice none 0 0) ([]:List α) h:=fun _=>⟨[],trivial,by simp,.inl ⟨rfl,rfl⟩⟩
theorem S.gd {α:Type} {T:ag α} (h:S ro P fn n R todo σ D g (av T e (.slice none 0 0) ([]:List α)::U)):S ro P fn n R todo σ D g U :=
 S.imp (ax :=av T e (.slice none 0 0) ([]:List α)::U) (fun m hm=>⟨Fr.emp,m,Fr.ea _,Fr.c6 _,Fr.bY _,AL _,hm⟩) h
end
end Go.Sp
end
end
section
/- Texts of this proof, one behind the other. -/
section
/- Texts of this proof. -/
namespace Go.Sp
section
variable {ro:Option Nat} {P:Program} {σ σ' :List (Nat × Value)} {g:bn} {U ax ζ aO:List az} {t e:TypeId} {x y:Operand}
theorem aG.W5 {k:Nat} {kh:IntKind} {m:Nat} (ht:P.underlying t=some (.slice e)) (he:(P.info? e).map (·.size)=some k) (hx:aA σ x=some (.slice none 0 0)) (hy:aA σ y=some (.int kh (m:Int))) (hm:m=0) :
  aG P (.slice t x none (some y) none) σ g U (.slice none 0 0) U:=by
 subst hm;exact .run fun o ρ w ho hk=>by simp [execOp,ho,hk x _ hx,hk y _ hy,Instr.sliceAt,run_underlying ht,Instr.slice,Instr.sliceBounds,Instr.sliceBound,asIntOf,run_sizeOf he]
theorem bF.ME {α:Type} {T:ag α} {cw:Nat} {z:List Value} {a:α} {m:Nat} {t2:TypeId} {xY qa:IntKind} (ht:P.underlying t=some (.slice e)) (ht2:P.underlying t2=some (.int xY)) (he:dI P e T.k cw z) (hk:0<T.k) (hz:T.rel Fr.emp z a)
  (hx:aA σ x=some (.slice none 0 0)) {cq:Int} (hy:aA σ y=some (.int qa cq)) (dZ:cq=(m:Int)) (hb:m*cw≤140737488355328) (h63:m≤9223372036854775807) (h0:0<m) :
  bF P (.call ⟨.builtin .append,#[x,y],#[t,t2]⟩) σ g U fun v' ax =>∃ a' c,v' =.slice a' m c∧ax =av T e v' (List.replicate m a)::U:=by
 subst dZ
 intro o ρ w ho hkn hw
 obtain ⟨i,cE,hi,r7,hsz,hby,kJ,hzl⟩:=he;subst hby kJ;have hzs:cE.cells.size=T.k:=by simpa using hzl
 have wl:IntKind.i64.wrap (m:Int)=m:=by rw [IntKind.wrap_i64];omega
 have n1:¬ ((m:Int)<0):=by omega
 have n2:¬ (281474976710656<(m:Int)*(i.bytes:Int)):=by
  have:((m*i.bytes:Nat):Int)≤140737488355328:=by omega
  rw [Int.natCast_mul] at this;omega
 have n3:m≠0:=by omega
 have pL:¬ (9223372036854775807<(m:Int)):=by omega
 have n5:¬ (281474976710656<Builtin.nextslicecap m 0*i.bytes):=by rw [nextslicecap_zero h0];omega
 have n6:m*i.size≠0:=by rw [hsz];exact Nat.ne_of_gt (Nat.mul_pos h0 hk)
 have hge:=grownCap_ge w m 0 e;have hcm:=grownCap_le_maxLen w m 0 e (by simpa [maxLen] using h63);have hrun:(Builtin.append_ #[t,t2] o.type #[.slice none 0 0,.int qa (m:Int)]).run P w=.ok (.slice (some ⟨w.heap.size,0,none⟩) m (grownCap w m 0 e)) (w.drew.alloc (.cells (Builtin.zeroCells cE.cells m++Builtin.zeroCells cE.cells (grownCap w m 0 e - m)) e)):=by
  simp [Builtin.append_,run_underlying ht,run_underlying ht2,sizeOf,typeInfo,zeroValue,hi,r7,asInt,asIntOf,wl,n1,n2,n3,pL,n5,n6,Question.forced,Builtin.firstCells,newRow,grownCap]
 obtain ⟨ak,q1,q2⟩:=A5 hz m;have p9:∀ q,(Builtin.zeroCells cE.cells q).toList=fe cE.cells.toList q:=fun q=>by
  have:=x8 cE.cells q (by omega);rw [← this];rfl
 refine ⟨_,_,_,⟨_,_,rfl,rfl⟩,qg ho (by rw [hkn x _ hx,hkn y _ hy];exact hrun),?_⟩;refine (((hw.drewN _ (Nat.le_add_right _ _)).alloc _).own (k:=T.k) (m:=m) (cap:=grownCap w m 0 e) (cs:=ak.flatten) hge (by simpa [maxLen] using hcm) ?_ ?_).imp fun _=>Sat.fk (av.of q1 (by simp) rfl rfl) fun _ q=>q
 ·simp only [Array.size_append,size_zeroCells,hzs,← Nat.add_mul]
  congr 1;omega
 ·rw [Array.toList_append,p9,q2,List.take_append]
  rw [List.take_of_length_le (by rw [sj];simp [hzs]),sj]
  simp [hzs]
theorem bF.NY {α:Type} {T:ag α} {v:Value} {xs:List α} {m:Nat} {kh:IntKind} {cq:Int} (ht:P.underlying t=some (.slice e)) (he:(P.info? e).map (·.size)=some T.k) (hx:aA σ x=some v) (hy:aA σ y=some (.int kh cq)) (dZ:cq=(m:Int))
  (hs:bg U (av T e v xs) ζ) (hm:m≤xs.length):bF P (.slice t x none (some y) none) σ g U fun v' ax =>∃ a c,v' =.slice a m c∧ax =av T e v' (xs.take m)::ζ:=by
 subst dZ
 intro o ρ w ho hk hw
 obtain ⟨p1,p2,p3,K,oo,s1,s2,k1,k2,kd,t1,t2,⟨ak,ha,hl,hA⟩,hr⟩:=hw.cB hs;have hml:m*T.k≤xs.length*T.k:=Nat.mul_le_mul_right _ hm;have hmin:min m xs.length=m:=Nat.min_eq_left hm
 rcases hA with ⟨rfl,h0⟩|⟨b,cap,cur,rfl,hb,h1,h2,h3,h4⟩
 ·have hm0:m=0:=by omega
  subst hm0;refine ⟨.slice none 0 0,w,_,⟨none,0,rfl,rfl⟩,?_,p1,p2,p3,K,oo,s1,s2,k1,k2,kd,t1,t2,⟨[],trivial,by simp,.inl ⟨rfl,by simp⟩⟩,hr⟩
  simp [execOp,ho,hk x _ hx,hk y _ hy,Instr.sliceAt,run_underlying ht,Instr.slice,Instr.sliceBounds,Instr.sliceBound,asIntOf,run_sizeOf he]
 ·have zZ:m≤cap:=by omega
  refine ⟨.slice (some ⟨b,0,none⟩) m cap,w,_,⟨_,_,rfl,rfl⟩,?_,p1,p2,p3,K,oo,s1,s2,k1,k2,kd,t1,t2,⟨ak.take m,ha.take m,?_,.inr ⟨b,cap,cur,?_,hb,?_,h2,h3,?_⟩⟩,hr⟩
  ·have e1:(⟨b,0,none⟩:Addr).add 0=⟨b,0,none⟩:=rfl
   simp [execOp,ho,hk x _ hx,hk y _ hy,Instr.sliceAt,run_underlying ht,Instr.slice,Instr.sliceBounds,Instr.sliceBound,asIntOf,run_sizeOf he,zZ,e1]
  ·rw [← ha.tn,List.length_take,hl,List.length_take,hmin];exact Nat.min_eq_left hml
  ·rw [List.length_take,hmin]
  ·rw [List.length_take,hmin];exact zZ
  ·rw [List.length_take,hmin,← ha.tn,← h4,List.take_take,Nat.min_eq_left hml]
end
theorem Sat.tail' {A:az} {U:List az} {m:Fr}:Sat (A::U) m→Sat U m:=fun ⟨_,_,_,_,s,_,y⟩=>Sat.mono s y
theorem ga {b:Nat} {T:TypeId} {cs:List Value} {m:Fr} (h:obj b T cs m):At m ⟨b,0,none⟩ cs:=fun j hj=>by
 rw [add_lit];have:m b=some (.cells cs.toArray T (0,0)):=h
 simp [Fr.cell,this,hj]
theorem AI {b:Nat} {T:TypeId} {cs:List Value} {h m:Fr} (x:obj b T cs m) (hd:h.cU m):At (h.add m) ⟨b,0,none⟩ cs:=(ga x).mono (Fr.dB hd)
theorem At.left {h m:Fr} {p:Addr} {cs:List Value} (x:At h p cs):At (h.add m) p cs:=x.mono (Fr.dh _ _)
theorem Holds.iA {w:World} {g:bn} {U:List az} {k:Fr} (h:Holds w (g.add k) U) (hd:g.h.cU k):Holds w g U:=(h.oH (A:=fun _=>True) trivial hd).drop
inductive jE:List az→List az→Prop
 |all {U:List az}:jE U U
 |nil {U:List az}:jE U []
 |cons {U ζ bs:List az} {A:az} (h:bg U A ζ) (h2:jE ζ bs):jE U (A::bs)
 |skip {U bs:List az} {A:az} (h:jE U bs):jE (A::U) bs
theorem Sat.jP {U bs:List az} (p:jE U bs):∀ {h:Fr},Sat U h→Sat bs h:=by
 induction p with
 |all=>exact fun x=>x
 |nil=>exact fun _=>trivial
 |cons s p ih=>exact fun x=>Sat.fk (fun _ y=>y) (fun _=>ih) (Sat.perm s.perm x)
 |skip p ih=>exact fun x=>ih x.tail'
theorem Holds.jP {w:World} {g:bn} {U bs:List az} (h:Holds w g U) (p:jE U bs):Holds w g bs:=h.imp fun _=>Sat.jP p
theorem Holds.end_ {w:World} {g:bn} {U:List az} {Post:Ending→List az→Prop} {R:Ending→World→Prop} {e:Ending} (hR:∀ e ax w',Post e ax →Holds w' g ax →R e w') (hw:Holds w g U) (h:∃ ax,Post e ax ∧jE U ax):R e w :=
 let ⟨_,p,q⟩:=h;hR _ _ w p (hw.jP q)
theorem Holds.fst {w:World} {g:bn} {A:az} {U:List az} (h:Holds w g (A::U)):Holds w g [A]:=h.imp fun _=>Sat.fk (fun _ x=>x) fun _ _=>trivial
theorem Holds.OG {w:World} {g:bn} {A B:az} {U:List az} (h:Holds w g (A::B::U)):Holds w g [A,B]:=h.imp fun _=>Sat.fk (fun _ x=>x) fun _=>Sat.fk (fun _ x=>x) fun _ _=>trivial
theorem Sat.arr {α:Type} {T:ag α} {e:TypeId} {v:Value} {xs:List α} {U:List az} {m:Fr}:Sat (av T e v xs::U) m→aj T m v xs
 |⟨_,_,_,s,_,x,_⟩=>(av.arr x).mono s
theorem Sat.tail {A:az} {U:List az} {m:Fr}:Sat (A::U) m→Sat U m
 |⟨_,_,_,_,s,_,y⟩=>y.mono s
theorem aj.left {α:Type} {T:ag α} {v:Value} {xs:List α} {h m:Fr} (x:aj T h v xs):aj T (h.add m) v xs:=x.mono (Fr.dh _ _)
theorem aj.right {α:Type} {T:ag α} {v:Value} {xs:List α} {h m:Fr} (x:aj T m v xs) (hd:h.cU m):aj T (h.add m) v xs:=x.mono (Fr.dB hd)
theorem bu {g g' :bn} {Post:Ending→List az→Prop} {R:Ending→World→Prop} (hR:∀ e ax w',Post e ax →Holds w' g ax →R e w') (hm:∀ w ζ,Holds w g' ζ→Holds w g ζ) :
  ∀ e ax w',Post e ax →Holds w' g' ax →R e w' :=fun e ax w' p h=>hR e ax w' p (hm w' ax h)
theorem dQ {g g' Ik :bn} (h1:∀ w ζ,Holds w g' ζ→Holds w g ζ) (h2:∀ w ζ,Holds w Ik ζ→Holds w g' ζ):∀ w ζ,Holds w Ik ζ→Holds w g ζ:=fun w ζ h=>h1 w ζ (h2 w ζ h)
theorem cH {g:bn}:∀ w ζ,Holds w g ζ→Holds w g ζ:=fun _ _ h=>h
section
variable {ro:Option Nat} {P:Program} {fn:Func} {n:Nat} {R:Ending→World→Prop} {k:List Item} {σ:List (Nat × Value)} {D:List Deferred} {g:bn} {U ζ:List az} {ops:Array Oper} {L:List Nat}
theorem S.iA {g' :bn} {todo:List Item} (hm:∀ w ζ,Holds w g' ζ→Holds w g ζ) (h:S ro P fn n R todo σ D g U):S ro P fn n R todo σ D g' U:=fun a w hf hd hw=>h a w hf hd (hm _ _ hw)
theorem S.pk {todo:List Item} (p:jE U ζ) (h:S ro P fn n R todo σ D g ζ):S ro P fn n R todo σ D g U:=fun a w hf hd hw=>h a w hf hd (hw.jP p)
theorem S.ep {todo:List Item} {A:az} (s:bg U A ζ) (h:∀ g' :bn,g.h.sub g'.h→(∀ w ζ,Holds w g' ζ→Holds w g ζ)→(∃ m:Fr,A m∧m.sub g'.h)→S ro P fn n R todo σ D g' ζ):S ro P fn n R todo σ D g U :=
 S.cB s (S.freeze fun m hm hd=>h (g.add m) (Fr.dh _ _) (fun _ _ x=>x.iA hd) ⟨m,hm,Fr.dB hd⟩)
theorem O.ep {A:az} (s:bg U A ζ) (h:∀ g' :bn,g.h.sub g'.h→(∀ w ζ,Holds w g' ζ→Holds w g ζ)→(∃ m:Fr,A m∧m.sub g'.h)→O ro P fn n R ops L k σ D g' ζ):O ro P fn n R ops L k σ D g U :=
 O.cB s (O.freeze fun m hm hd=>h (g.add m) (Fr.dh _ _) (fun _ _ x=>x.iA hd) ⟨m,hm,Fr.dB hd⟩)
theorem S.fo {todo:List Item} {α:Type} {T:ag α} {e:TypeId} {v:Value} {xs:List α} (s:bg U (av T e v xs) ζ) (h:∀ g' :bn,g.h.sub g'.h→(∀ w ζ,Holds w g' ζ→Holds w g ζ)→aj T g'.h v xs→S ro P fn n R todo σ D g' ζ):S ro P fn n R todo σ D g U :=
 S.ep s fun g' h1 h2 ⟨_,h3,h4⟩=>h g' h1 h2 (h3.arr.mono h4)
theorem O.fo {α:Type} {T:ag α} {e:TypeId} {v:Value} {xs:List α} (s:bg U (av T e v xs) ζ) (h:∀ g' :bn,g.h.sub g'.h→(∀ w ζ,Holds w g' ζ→Holds w g ζ)→aj T g'.h v xs→O ro P fn n R ops L k σ D g' ζ):O ro P fn n R ops L k σ D g U :=
 O.ep s fun g' h1 h2 ⟨_,h3,h4⟩=>h g' h1 h2 (h3.arr.mono h4)
theorem O.OF {α:Type} {T:ag α} {v:Value} {xs:List α} (s:bg U (fun m=>aj T m v xs) ζ) (h:∀ g' :bn,g.h.sub g'.h→(∀ w ζ,Holds w g' ζ→Holds w g ζ)→aj T g'.h v xs→O ro P fn n R ops L k σ D g' ζ):O ro P fn n R ops L k σ D g U :=
 O.ep s fun g' h1 h2 ⟨_,h3,h4⟩=>h g' h1 h2 (h3.mono h4)
theorem S.de {todo:List Item} {b:Nat} {T:TypeId} {cs:List Value} (s:bg U (obj b T cs) ζ) (h:∀ g' :bn,g.h.sub g'.h→(∀ w ζ,Holds w g' ζ→Holds w g ζ)→At g'.h ⟨b,0,none⟩ cs→S ro P fn n R todo σ D g' ζ):S ro P fn n R todo σ D g U :=
 S.ep s fun g' h1 h2 ⟨_,h3,h4⟩=>h g' h1 h2 ((ga h3).mono h4)
theorem O.de {b:Nat} {T:TypeId} {cs:List Value} (s:bg U (obj b T cs) ζ) (h:∀ g' :bn,g.h.sub g'.h→(∀ w ζ,Holds w g' ζ→Holds w g ζ)→At g'.h ⟨b,0,none⟩ cs→O ro P fn n R ops L k σ D g' ζ):O ro P fn n R ops L k σ D g U :=
 O.ep s fun g' h1 h2 ⟨_,h3,h4⟩=>h g' h1 h2 ((ga h3).mono h4)
end
theorem aS {U:List az}:jE U U:=.all
theorem aU {U:List az}:jE U []:=.nil
theorem aT {U ζ aO:List az} {A:az} (h:bg U A ζ) (k:jE ζ aO):jE U (A::aO):=.cons h k
theorem aV {A:az} {U aO:List az} (k:jE U aO):jE (A::U) aO:=.skip k
end Go.Sp
end
section
/- Texts of this proof. -/
namespace Go.Sp
theorem E3 {P:Program} {fn:Func} {tmps:Array Value} {R:Ending→World→Prop}:∀ (ds:List Deferred) (u:FrameMode) (w:World) (fr:Frame)
  (cs:List Frame),fr.mode=u→fr.defers=ds→fr.tmps=tmps→P.funcs[fr.fn]?=some fn→fr.kind=.deferred→eS P fn tmps R ds u w →
  ∃ e w' fr',R e w' ∧Comes P (lone fr cs w) (lone fr' cs w') e∧fr'.kind=.deferred∧fr'.going P w' e:=by
 intro ds
 induction ds with
 |nil =>
  intro u w fr cs hu hd ht hf hk h
  cases u with
  |run=>exact h.elim
  |returning =>
   obtain ⟨v,hr,hR⟩:=h;exact ⟨.returned v,w,fr,hR,Steps.refl P _,hk,hu,hd,fn,hf,ht ▸ hr⟩
  |panicking chain=>exact ⟨.panicked chain,w,fr,h,Steps.refl P _,hk,hu,hd,fn,hf⟩
 |cons d ds ih =>
  intro u w fr cs hu hd ht hf hk h
  obtain ⟨hrun,h⟩:=h
  rcases h with ⟨r,w',t_,EL,EH⟩|⟨fv,cap,f,args,t_,hinv,tH⟩
  ·have h1:=step_collected (cs:=cs) (hu ▸ hrun) hd t_ EL
   obtain ⟨e',w'',fr',o_,hs',oq,hl'⟩:=ih u w' { fr with defers:=[]++ds } cs hu rfl ht hf hk EH;exact ⟨e',w'',fr',o_,Comes.of_steps (.one h1) hs',oq,hl'⟩
  have h1:=step_defer (cs:=cs) (hu ▸ hrun) hd t_ hinv;obtain ⟨e,u',w',OC,hR,qU,DT,tK⟩:=tH { fr with defers:=ds } cs hu
  cases e with
  |returned v =>
   have h2:=step_going_returned (c:={ { fr with defers:=ds } with mode:=u' }) (cs:=cs) DT tK;obtain ⟨e',w'',fr',o_,hs',oq,hl'⟩:=ih (settle u') w' { { { fr with defers:=ds } with mode:=u' } with mode:=settle u' } cs rfl rfl ht hf hk hR;exact ⟨e',w'',fr',o_,Comes.of_steps (.head h1 (Steps.trans qU (.one h2))) hs',oq,hl'⟩
  |panicked chain =>
   have h2:=step_going_panicked (c:={ { fr with defers:=ds } with mode:=u' }) (cs:=cs) tK;obtain ⟨e',w'',fr',o_,hs',oq,hl'⟩:=ih (raised u' chain) w' { { { fr with defers:=ds } with mode:=u' } with mode:=raised u' chain } cs rfl rfl ht hf hk hR;exact ⟨e',w'',fr',o_,Comes.of_steps (.head h1 (Steps.trans qU (.one h2))) hs',oq,hl'⟩
  |outgrown=>exact ⟨.outgrown,w',fr,hR,Outgrown.of_steps (.one h1) qU,hk,trivial⟩
def mV:FrameMode→Value
 |.panicking ({ v,recovered:=false,goexit:=false }::_)=>v
 |_=>.nilIface
def lJ:FrameMode→FrameMode
 |.panicking ({ v,recovered:=false,goexit:=false }::older)=>.panicking ({ v,recovered:=true }::older)
 |u=>u
def K0 (ops:Array Oper) (n:Nat):Option (Nat × Nat) :=
 match (ops[0]?:Option Oper),(ops[1]?:Option Oper),(ops[2]?:Option Oper) with
 |some ⟨some d,.call ⟨.builtin .recover,_,_⟩,_,_,_,none⟩,some ⟨some e,.assign (.tmp d'),_,_,_,none⟩,none =>
  match Nat.beq d d',Nat.blt d n,Nat.blt e n with|true,true,true=>some (d,e)|_,_,_=>none
 |_,_,_=>none
theorem VT (c:Frame) (cs:List Frame):recoverD (c::cs)=none∧mV c.mode=.nilIface∧lJ c.mode=c.mode∨recoverD (c::cs)=some (mV c.mode,{ c with mode:=lJ c.mode }::cs):=by
 obtain ⟨fn,tmps,todo,defers,mode,kind,ro⟩:=c;unfold recoverD mV lJ
 cases mode with
 |run=>left;simp
 |returning=>left;simp
 |panicking ch =>
  cases ch with
  |nil=>left;simp
  |cons p older =>
   obtain ⟨v,r,ge⟩:=p
   cases r<;>cases ge<;>simp
theorem oc {P:Program} {f:FuncId} {fn:Func} {id:Nat} {ops:Array Oper} {rest:Code} {args:Array Value} {u:FrameMode} {w:World} {R:Ending→World→Prop} {n d e:Nat} (vs:List Value) (ha:args=vs.toArray)
  (hf:P.funcs[f]?=some fn) (hb:fn.body=some (.seq (.region id ops false) rest)) (hn:fn.ntmps=n) (hle:Nat.ble vs.length n=true) (pz:K0 ops n=some (d,e))
  {g:bn} {U:List az} (hw:Holds w g U)
  (h:S none P fn n R [.code rest] ((e,mV u)::(d,mV u)::slots vs 0) [] g U) :
  CallsD P f args u w fun e' u' w' =>u' =lJ u∧R e' w' :=by
 intro c cs PL
 let b:Frame:={ (default:Frame) with fn:=f,kind:=.deferred }
 subst ha hn
 let a₀:Act:={ tmps:=vs.toArray++Array.replicate (fn.ntmps - vs.toArray.size) undef,defers:=[] }
 have xl:Frame.enter P f vs.toArray .deferred=b.at a₀ [.code (.seq (.region id ops false) rest)]:=by
  simp [Frame.enter,Frame.at,hf,hb,b,a₀]
 have hfit:Fits a₀ fn.ntmps (slots vs 0):=by
  refine ⟨?_,?_⟩
  ·have:vs.length≤fn.ntmps:=Nat.le_of_ble_eq_true hle
   simp [a₀];omega
  ·intro t v hl
   obtain ⟨_,h2⟩:=E7 vs 0 t v hl;simp only [Nat.sub_zero] at h2;have:t<vs.length:=by
    rcases Nat.lt_or_ge t vs.length with q|q
    ·exact q
    ·rw [List.getElem?_eq_none q] at h2;cases h2
   simp only [a₀];rw [Array.getElem?_append_left (by simpa using this)]
   simpa using h2
 unfold K0 at pz
 split at pz
 case h_2=>cases pz
 rename_i d1 Yp XW abn pos1 YH e1 d1' abo pos2 YI D1 z_ tN
 split at pz
 case h_2=>cases pz
 rename_i hq1 tV QW
 cases pz
 have:=Nat.eq_of_beq_eq_true hq1;subst this;have hsz:ops.size=2:=by
  have h1:=(Array.getElem?_eq_some_iff.1 z_).1;have h2:=Array.getElem?_eq_none_iff.1 tN
  omega
 let a₁:Act:=a₀.put (some d) (mV u)
 let a₂:Act:=a₁.put (some e) (mV u)
 have p7:Fits a₁ fn.ntmps ((d,mV u)::slots vs 0):=hfit.put tV;have vz:Fits a₂ fn.ntmps ((e,mV u)::(d,mV u)::slots vs 0):=p7.put QW;have D6:wpOpsS P ops (fun x a' cs' w' =>x=.normal∧a' =a₂∧cs' ={ c with mode:=lJ u }::cs∧w' =w) [0,1] a₀ (c::cs) w:=by
  have IW:a₁.eval (.tmp d)=mV u:=p7.eval (x:=.tmp d) (by simp [aA,look]);have hcm:{ c with mode:=lJ u }=c∨True:=.inr trivial;simp only [wpOpsS,D1,z_,Region.wanted,if_true];have Rg:∀ o:Oper,o.op=.call ⟨.builtin .recover,Yp,XW⟩→(execOp a₀.eval o).run P w=.ok .recover w:=fun o ho=>by
   simp [execOp,ho,resolve,invoke,builtin]
  rw [Rg _ rfl];subst PL
  rcases VT c cs with ⟨q1,q2,cM⟩|q1
  ·simp only [q1]
   have EJ:∀ o:Oper,o.op=.assign (.tmp d)→(execOp (a₀.put (some d) .nilIface).eval o).run P w=.ok (.value (mV c.mode)) w:=fun o ho=>by
    rw [← q2];simp [execOp,ho];exact IW
   rw [EJ _ rfl];simp only [Oper.upon_value];refine ⟨trivial,?_,?_,trivial⟩
   ·simp only [a₂,a₁,q2]
   ·rw [cM]
  ·simp only [q1]
   have EJ:∀ o:Oper,o.op=.assign (.tmp d)→(execOp (a₀.put (some d) (mV c.mode)).eval o).run P w=.ok (.value (mV c.mode)) w:=fun o ho=>by
    simp [execOp,ho];exact IW
   rw [EJ _ rfl];simp only [Oper.upon_value];exact ⟨trivial,rfl,trivial,trivial⟩
 obtain ⟨x,a',cs',w',⟨rfl,rfl,rfl,rfl⟩,gx⟩:=wp_opsS (P:=P) (Q:=fun x a' cs' w' =>x=.normal∧a' =a₂∧cs' ={ c with mode:=lJ u }::cs∧w' =w) [0,1] a₀ (c::cs) w D6 b [.code rest] rfl rfl;have hstart:Steps P (lone (Frame.enter P f vs.toArray .deferred) (c::cs) w') (lone (b.at a₂ [.code rest]) ({ c with mode:=lJ u }::cs) w'):=by
  rw [xl];have hr:List.range ops.size=[0,1]:=by rw [hsz];rfl
  exact .head step_seq (.head step_region (by rw [hr];exact gx))
 obtain ⟨x,a',w'',hq,tF⟩:=h a₂ w' vz rfl hw b ({ c with mode:=lJ u }::cs) rfl ⟨fn,hf⟩;have tF:=(arrivesIn_iff (I:=Machine.fenced P Fence.wide) (fun _ _=>stepsIn_wide) rfl).1 tF;rw [Frame.atR_of_none rfl] at tF
 cases x with
 |normal =>
  obtain ⟨e',w3,fr',hR,hs,hk,hg⟩:=E3 a'.defers .returning w'' { b.at a' [] with mode:=.returning } ({ c with mode:=lJ u }::cs) rfl rfl rfl hf rfl hq;exact ⟨e',lJ u,w3,fr',⟨rfl,hR⟩,Comes.of_steps (hstart.trans (Steps.trans tF (.one step_end))) hs,hk,hg⟩
 |ret =>
  obtain ⟨todo,tZ⟩:=tF;obtain ⟨e',w3,fr',hR,hs,hk,hg⟩:=E3 a'.defers .returning w'' { b.at a' todo with mode:=.returning } ({ c with mode:=lJ u }::cs) rfl rfl rfl hf rfl hq;exact ⟨e',lJ u,w3,fr',⟨rfl,hR⟩,Comes.of_steps (hstart.trans tZ) hs,hk,hg⟩
 |panic chain =>
  obtain ⟨todo,tZ⟩:=tF;obtain ⟨e',w3,fr',hR,hs,hk,hg⟩:=E3 a'.defers (.panicking chain) w'' { b.at a' todo with mode:=.panicking chain } ({ c with mode:=lJ u }::cs) rfl rfl rfl hf rfl hq;exact ⟨e',lJ u,w3,fr',⟨rfl,hR⟩,Comes.of_steps (hstart.trans tZ) hs,hk,hg⟩
 |exit _=>exact hq.elim
 |goto _=>exact hq.elim
 |outgrown=>exact ⟨.outgrown,lJ u,w'',b,⟨rfl,hq⟩,Outgrown.of_steps hstart (tF.resolve_left (by simp [b])),rfl,trivial⟩
section
variable {ro:Option Nat} {P:Program} {fn:Func} {n:Nat} {R:Ending→World→Prop} {k:List Item} {σ:List (Nat × Value)} {D:List Deferred} {g:bn} {U ζ:List az}
 {ops:Array Oper} {i d:Nat} {l:List Nat} {f:FuncId} {x y:Operand} {xs:Array Operand} {ts:Array TypeId} {bH:List Value} {K:Value→List az→Prop} {t:TypeId}
theorem O.defer {first cap:Array Value} (ho:kf ops i=some (.defer ⟨.value x,xs,ts⟩)) (hx:aA σ x=some (.func (.func f) first cap)) (hv:dX σ xs.toList=some bH) {args:Array Value} (hargs:first++bH.toArray=args)
  (h:O none P fn n R ops l k σ (⟨.fn (.func f) cap,args⟩::D) g U):O none P fn n R ops (i::l) k σ D g U:=by
 intro a w hf hd hw
 obtain ⟨o,hi,eB,hop,hg⟩:=pM ho;simp only [wpOpsIn,hi,Region.wanted,hg,if_true];refine ⟨fun _ _=>trivial,?_⟩;have hm:xs.map a.eval=bH.toArray:=by rw [← qF hf.j_ hv,← Array.toList_map]
 have hrun:(execOp a.eval o).run P w=.ok (.defer ⟨.fn (.func f) cap,args⟩) w:=by
  simp [execOp,hop,resolve,hf.eval hx,Deferred.ofValue,hm,hargs]
 show o.uponIn (nq none) 0 P a _ _ ((o.semAt none a.eval).run P w)
 rw [Oper.semAt_none,hrun,Oper.uponIn_defer,eB];exact h _ w ⟨hf.1,hf.2⟩ (by simp [Act.put,hd]) hw
def sU (g:bn) (b:Nat) (R:Ending→World→Prop) (e:Ending) (u:FrameMode) (w:World):Prop :=
 (∃ v,e=.returned v)∧settle u=.returning∧∃ T v U,Holds w g (obj b T [v]::U)∧R (.returned v) w
theorem vH {a:Act} {w:World} {u:FrameMode} {aF b:Nat} {ty:TypeId} {cap args:Array Value} (hr:fn.results=#[.cell aF ty]) (xQ:dY P ty=true) (hf:Fits a n σ) (hl:look σ aF=some (.pointer (some ⟨b,0,none⟩)))
  (hu:u≠.run) (hc:dG P f=true) (tH:CallsD P f (args++cap) u w (sU g b R)):eS P fn a.tmps R [⟨.fn (.func f) cap,args⟩] u w:=by
 refine eS.of (leaves_cons hu (by simp [invoke,A_ hc]) (tH.mono ?_));rintro e u' w' ⟨⟨v,rfl⟩,hs,T,v',ax,hw,hR⟩
 show Leaves P fn a.tmps R [] (settle u') w'
 rw [hs];refine ⟨v',?_,hR⟩;have hc0:w'.cell? ⟨b,0,none⟩=some v' :=hw.uk (by rfl);have hl' :=hf.2 aF _ hl
 simp [results,hr,Array.getD_eq_getD_getElem?,hl',asAddr,loadVar,sD (rO xQ),hc0]
theorem S.q_ (h:∀ a w,Fits a n σ→a.defers=D→Holds w g U→eS P fn a.tmps R D .returning w):S none P fn n R (.code .ret::k) σ D g U:=by
 intro a w hf hd hw
 refine .ret ?_
 show eS P fn a.tmps R a.defers .returning w
 rw [hd];exact h a w hf hd hw
theorem S.FQ {aF b:Nat} {ty T:TypeId} {v:Value} (hr:fn.results=#[.cell aF ty]) (xQ:dY P ty=true) (hl:look σ aF=some (.pointer (some ⟨b,0,none⟩))) (hs:bg U (obj b T [v]) ζ)
  (h:∀ w,Holds w g (obj b T [v]::ζ)→R (.returned v) w):S none P fn n R (.code .ret::k) σ [] g U:=by
 refine S.q_ fun a w hf hd hw=>?_;have hw' :=hw.cB hs;refine ⟨v,?_,h w hw'⟩;have hc0:w.cell? ⟨b,0,none⟩=some v:=hw'.uk (by rfl);have hl' :=hf.2 aF _ hl
 simp [results,hr,Array.getD_eq_getD_getElem?,hl',asAddr,loadVar,sD (rO xQ),hc0]
theorem O.Hr {first cap:Array Value} {X:List PanicEntry→List az→Prop} (ho:bJ ops i n σ d (.call ⟨.value x,xs,ts⟩)) (hx:aA σ x=some (.func (.func f) first cap)) (hc:dG P f=true)
  (hv:dX σ xs.toList=some bH) {args:Array Value} (hargs:first++bH.toArray++cap=args) (con:ay P f args g.h U (eN K X))
  (hp:∀ a ch ax w,Fits a n σ→X ch ax →Holds w g (ax ++ζ)→eS P fn a.tmps R D (.panicking ch) w)
  (h:∀ v ax,K v ax →O none P fn n R ops l k ((d,v)::σ) D g (ax ++ζ)):O none P fn n R ops (i::l) k σ D g (U++ζ):=by
 intro a w hf hd hw
 obtain ⟨o,hi,eB,hop,hg,hb⟩:=ho.spec;have hm:xs.map a.eval=bH.toArray:=by rw [← qF hf.j_ hv,← Array.toList_map]
 refine O.mK hi (hg a hf) (by rw [hop];intro c hc;cases hc) (A9 hop (hf.j_ x _ hx) hc w) ?_;rw [Oper.uponIn_enter,hm,hargs];refine Co ?_;refine (con.frame (ζ:=ζ) g (Fr.bY _) w hw).mono fun e w' hh=>?_;obtain ⟨ax,⟨cW,hq,rfl⟩,hw'⟩:=hh
 cases e with
 |returned v =>
  show wpOpsIn (nq none) 0 P ops _ l (a.put o.dst v) w'
  rw [eB];exact h v cW hq _ _ (hf.put hb) hd hw'
 |panicked ch =>
  show eS P fn a.tmps R a.defers (.panicking ch) w'
  rw [hd];exact hp a ch cW w' hf hq hw'
 |outgrown=>exact hq.elim
theorem O.qz {first cap:Array Value} {X:List PanicEntry→List az→Prop} {A:az} (ho:bJ ops i n σ d (.call ⟨.value x,xs,ts⟩)) (hx:aA σ x=some (.func (.func f) first cap)) (hc:dG P f=true)
  (hv:dX σ xs.toList=some bH) {args:Array Value} (hargs:first++bH.toArray++cap=args) (hs:bg U A ζ) (con:ay P f args g.h [A] (eN K X))
  (hp:∀ ch ax w,X ch ax →Holds w g (ax ++ζ)→R (.panicked ch) w)
  (h:∀ v ax,K v ax →O ro P fn n R ops l k ((d,v)::σ) [] g (ax ++ζ)):O ro P fn n R ops (i::l) k σ [] g U :=
 fun a w hf hd hw=>O.Hq (U:=[A]) (ζ:=ζ) ho hx hc hv hargs con hp h a w hf hd (hw.cB hs)
theorem O.kQ {first cap:Array Value} {X:List PanicEntry→List az→Prop} (ho:bJ ops i n σ d (.call ⟨.value x,xs,ts⟩)) (hx:aA σ x=some (.func (.func f) first cap)) (hc:dG P f=true)
  (hv:dX σ xs.toList=some bH) {args:Array Value} (hargs:first++bH.toArray++cap=args) (con:ay P f args g.h [] (eN K X))
  (hp:∀ ch ax w,X ch ax →Holds w g (ax ++U)→R (.panicked ch) w)
  (h:∀ v ax,K v ax →O ro P fn n R ops l k ((d,v)::σ) [] g (ax ++U)):O ro P fn n R ops (i::l) k σ [] g U :=
 O.Hq (U:=[]) (ζ:=U) ho hx hc hv hargs con hp h
theorem O.Cn {first cap:Array Value} {X:List PanicEntry→List az→Prop} {A:az} (ho:bJ ops i n σ d (.call ⟨.value x,xs,ts⟩)) (hx:aA σ x=some (.func (.func f) first cap)) (hc:dG P f=true)
  (hv:dX σ xs.toList=some bH) {args:Array Value} (hargs:first++bH.toArray++cap=args) (hs:bg U A ζ) (con:ay P f args g.h [A] (eN K X))
  (hp:∀ a ch ax w,Fits a n σ→X ch ax →Holds w g (ax ++ζ)→eS P fn a.tmps R D (.panicking ch) w)
  (h:∀ v ax,K v ax →O none P fn n R ops l k ((d,v)::σ) D g (ax ++ζ)):O none P fn n R ops (i::l) k σ D g U :=
 fun a w hf hd hw=>O.Hr (U:=[A]) (ζ:=ζ) ho hx hc hv hargs con hp h a w hf hd (hw.cB hs)
theorem O.Cm {first cap:Array Value} {X:List PanicEntry→List az→Prop} (ho:bJ ops i n σ d (.call ⟨.value x,xs,ts⟩)) (hx:aA σ x=some (.func (.func f) first cap)) (hc:dG P f=true)
  (hv:dX σ xs.toList=some bH) {args:Array Value} (hargs:first++bH.toArray++cap=args) (con:ay P f args g.h [] (eN K X))
  (hp:∀ a ch ax w,Fits a n σ→X ch ax →Holds w g (ax ++U)→eS P fn a.tmps R D (.panicking ch) w)
  (h:∀ v ax,K v ax →O none P fn n R ops l k ((d,v)::σ) D g (ax ++U)):O none P fn n R ops (i::l) k σ D g U :=
 O.Hr (U:=[]) (ζ:=U) ho hx hc hv hargs con hp h
theorem af.qz {first cap:Array Value} {X:List PanicEntry→List az→Prop} {A:az} (ho:bJ ops i n σ d (.call ⟨.value x,xs,ts⟩)) (hd:eH ops [i] l=true) (hx:aA σ x=some (.func (.func f) first cap)) (hc:dG P f=true)
  (hv:dX σ xs.toList=some bH) {args:Array Value} (hargs:first++bH.toArray++cap=args) (hs:bg U A ζ) (con:ay P f args g.h [A] (eN K X))
  (hp:∀ ch ax w,X ch ax →Holds w g (ax ++ζ)→R (.panicked ch) w)
  (h:∀ v ax,K v ax →af P fn n R ops k [] g l ((d,v)::σ) (ax ++ζ)):af P fn n R ops k [] g (i::l) σ U :=
 af.perm hs.perm (af.lS (U:=[A]) (ζ:=ζ) ho hd hx hc hv hargs con (fun _ ch ax w hX hW=>hp ch ax w hX hW) h)
theorem af.kQ {first cap:Array Value} {X:List PanicEntry→List az→Prop} (ho:bJ ops i n σ d (.call ⟨.value x,xs,ts⟩)) (hd:eH ops [i] l=true) (hx:aA σ x=some (.func (.func f) first cap)) (hc:dG P f=true)
  (hv:dX σ xs.toList=some bH) {args:Array Value} (hargs:first++bH.toArray++cap=args) (con:ay P f args g.h [] (eN K X))
  (hp:∀ ch ax w,X ch ax →Holds w g (ax ++U)→R (.panicked ch) w)
  (h:∀ v ax,K v ax →af P fn n R ops k [] g l ((d,v)::σ) (ax ++U)):af P fn n R ops k [] g (i::l) σ U :=
 af.lS (U:=[]) (ζ:=U) ho hd hx hc hv hargs con (fun _ ch ax w hX hW=>hp ch ax w hX hW) h
theorem Wj {ms:Array (String × TypeId)} {u:TypeId} {v:Value} (ht:P.underlying t=some (.interface ms)) (w:World):(Op.equal t (.iface u v) .nilIface).run P w=.ok false w:=by
 show (Op.equalIn (9999+1) t (.iface u v) .nilIface).run P w=_
 rw [Op.equalIn];simp [run_underlying ht]
theorem Wl {ms:Array (String × TypeId)} (ht:P.underlying t=some (.interface ms)) (w:World):(Op.equal t .nilIface .nilIface).run P w=.ok true w:=by
 show (Op.equalIn (9999+1) t .nilIface .nilIface).run P w=_
 rw [Op.equalIn];simp [run_underlying ht]
theorem aG.vM {u:TypeId} {ms:Array (String × TypeId)} {v:Value} {XX:TypeId} (ht:P.underlying t=some (.interface ms)) (hx:aA σ x=some (.iface XX v)):aG P (.binOp .neq t x (.const .nilIface) u) σ g U (.bool true) U :=
 .run fun o ρ w ho hk=>by simp [execOp,ho,hk x _ hx,hk (.const .nilIface) _ rfl,eqGuard,Go.binOp,Wj ht]
theorem aG.vL {u:TypeId} {ms:Array (String × TypeId)} (ht:P.underlying t=some (.interface ms)) (hx:aA σ x=some .nilIface):aG P (.binOp .neq t x (.const .nilIface) u) σ g U (.bool false) U :=
 .run fun o ρ w ho hk=>by simp [execOp,ho,hk x _ hx,hk (.const .nilIface) _ rfl,eqGuard,Go.binOp,Wl ht]
theorem aG.u0 {ti ta:TypeId} {v:Value} {dd:TypeDesc} (ht:P.underlying ta=some dd) (hx:aA σ x=some (.iface ta v)) (hn:Kr dd=true:=by rfl):aG P (.typeAssert x ti ta true) σ g U (.tuple #[v,.bool true]) U :=
 .run fun o ρ w ho hk=>by
  simp only [execOp,ho,hk x _ hx,Instr.typeAssert,Sem.run_bind,run_underlying ht,Result.andThen_ok]
  cases dd<;>first|(simp;done)|exact Bool.noConfusion hn
end
end Go.Sp
end
end
end
