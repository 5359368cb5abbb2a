/- Texts of this proof, one behind the other. -/
import Derived.Test.YtojafegjlahajaaGreatDoorQSpDraw
import Derived.WalkSpells
set_option linter.unusedSectionVars false
section
/- Texts of this proof, one behind the other. -/
section
/- Texts of this proof. -/
namespace Go.Sp
def bV {α β:Type} (R:β→α→Prop):List β→List α→Prop
 |[],[]=>True
 |b::bs,a::as=>R b a∧bV R bs as
 |_,_=>False
theorem bV.imp {α β:Type} {R S:β→α→Prop} (h:∀ b a,R b a→S b a):∀ {bs:List β} {as:List α},bV R bs as→bV S bs as
 |[],[],_=>trivial
 |_::_,_::_,⟨x,y⟩=>⟨h _ _ x,bV.imp h y⟩
theorem bV.length {α β:Type} {R:β→α→Prop}:∀ {bs:List β} {as:List α},bV R bs as→bs.length=as.length
 |[],[],_=>rfl
 |_::_,_::_,⟨_,y⟩=>by simp [bV.length y]
theorem bV.get {α β:Type} {R:β→α→Prop}:∀ {bs:List β} {as:List α} (_:bV R bs as) (i:Nat) (hb:i<bs.length) (ha:i<as.length),R bs[i] as[i]
 |_::_,_::_,⟨x,_⟩,0,_,_=>x
 |_::_,_::_,⟨_,y⟩,i+1,hb,ha=>bV.get y i (by simpa using hb) (by simpa using ha)
theorem bV.append {α β:Type} {R:β→α→Prop}:∀ {bs cs:List β} {as ds:List α},bV R bs as→bV R cs ds→bV R (bs++cs) (as++ds)
 |[],_,[],_,_,h=>h
 |_::_,_,_::_,_,⟨x,y⟩,h=>⟨x,bV.append y h⟩
theorem bV.drop {α β:Type} {R:β→α→Prop}:∀ {bs:List β} {as:List α} (n:Nat),bV R bs as→bV R (bs.drop n) (as.drop n)
 |_,_,0,h=>h
 |[],[],_+1,_=>trivial
 |_::_,_::_,n+1,⟨_,y⟩=>bV.drop n y
theorem bV.take {α β:Type} {R:β→α→Prop}:∀ {bs:List β} {as:List α} (n:Nat),bV R bs as→bV R (bs.take n) (as.take n)
 |_,_,0,_=>trivial
 |[],[],_+1,_=>trivial
 |_::_,_::_,n+1,⟨x,y⟩=>⟨x,bV.take n y⟩
structure ag (α:Type) where
 k:Nat
 rel:Fr→List Value→α→Prop
 len:∀ {h:Fr} {cs:List Value} {a:α},rel h cs a→cs.length=k
 mono:∀ {h h' :Fr} {cs:List Value} {a:α},h.sub h' →rel h cs a→rel h' cs a
 one:∀ {h:Fr} {cs:List Value} {a:α},rel h cs a→∀ c∈cs,c.oneCell' =true
def aj {α:Type} (T:ag α) (h:Fr) (v:Value) (xs:List α):Prop:=∃ ak:List (List Value),bV (T.rel h) ak xs∧qv h v T.k xs.length ak.flatten
section
variable {α:Type} {T:ag α} {h:Fr} {v:Value} {xs:List α}
theorem aj.mono {h' :Fr} (s:h.sub h'):aj T h v xs→aj T h' v xs
 |⟨ak,a,b⟩=>⟨ak,a.imp fun _ _=>T.mono s,b.mono s⟩
theorem aj.shape:aj T h v xs→∃ a c,v=.slice a xs.length c
 |⟨_,_,a,c,hv,_⟩=>⟨a,c,hv⟩
theorem aj.bound:aj T h v xs→xs.length≤9223372036854775807
 |⟨_,_,b⟩=>b.bound
theorem bV.s9 {ak:List (List Value)} (ha:bV (T.rel h) ak xs) (i:Nat):ak.flatten.take (i*T.k)=(ak.take i).flatten:=by
 induction i generalizing ak xs with
 |zero=>simp
 |succ i ih =>
  cases ak with
  |nil=>simp
  |cons c ak =>
   cases xs with
   |nil=>exact ha.elim
   |cons x xs =>
    have hc:c.length=T.k:=T.len ha.1;simp only [List.flatten_cons,List.take_succ_cons];rw [Nat.succ_mul,List.take_append,List.take_of_length_le (by omega),show i*T.k+T.k - c.length=i*T.k from by omega,ih ha.2]
theorem bV.zq {ak:List (List Value)} (ha:bV (T.rel h) ak xs) (i:Nat):ak.flatten.drop (i*T.k)=(ak.drop i).flatten:=by
 induction i generalizing ak xs with
 |zero=>simp
 |succ i ih =>
  cases ak with
  |nil=>simp
  |cons c ak =>
   cases xs with
   |nil=>exact ha.elim
   |cons x xs =>
    have hc:c.length=T.k:=T.len ha.1;simp only [List.flatten_cons,List.drop_succ_cons];rw [Nat.succ_mul,List.drop_append,List.drop_eq_nil_of_le (by omega),List.nil_append,show i*T.k+T.k - c.length=i*T.k from by omega,ih ha.2]
theorem bV.s8 {ak:List (List Value)} (ha:bV (T.rel h) ak xs) (i:Nat) (hi:i<ak.length):(ak.flatten.drop (i*T.k)).take T.k=ak[i]:=by
 rw [ha.zq,List.drop_eq_getElem_cons hi,List.flatten_cons,List.take_append];have hc:ak[i].length=T.k:=T.len (ha.get i hi (by rw [← ha.length];exact hi));rw [List.take_of_length_le (by omega),hc];simp
end
section
variable {ro:Option Nat} {P:Program} {σ:List (Nat × Value)} {g:bk} {U ζ:List az} {fn:Func} {n:Nat} {R:Ending→World→Prop} {K:List Item} {D:List Deferred} {ops:Array Oper} {i d:Nat} {l:List Nat}
 {t e:TypeId} {x y:Operand} {v:Value} {kd:IntKind} {j:Nat}
theorem Je {α:Type} {T:ag α} {xs:List α} (ht:P.underlying t=some (.slice e)) (he:(P.info? e).map (·.size)=some T.k) (hx:aA σ x=some v) {b_:Int} (hy:aA σ y=some (.int kd b_)) (dV:b_=(j:Int))
  (hs:aj T g.h v xs) (gD:0<T.k) (hm:j<xs.length):∃ p cs,(∀ U,aF P (.indexAddr t x y) σ g U (.pointer (some p)) U)∧At g.h p cs∧T.rel g.h cs xs[j]:=by
 subst dV;obtain ⟨ak,ha,fI⟩:=hs;obtain ⟨a,cap,rfl,h1,h2,h3,h4⟩:=fI
 cases a with
 |none =>
  have:0<ak.flatten.length:=by rw [h3];exact Nat.mul_pos (by omega) gD
  obtain ⟨p,hp,_⟩:=h4 0 this
  cases hp
 |some a =>
  have hj:j<ak.length:=by rw [ha.length];exact hm
  refine ⟨a.add (j*T.k),ak[j],fun U=>.run fun o ρ w ho hk=>?_,?_,ha.get j hj hm⟩
  ·have hij:(j:Int)<(xs.length:Int):=by omega
   simp [execOp,ho,hk x _ hx,hk y _ hy,Instr.indexAt,asIntOf,run_underlying ht,hm,run_sizeOf he]
  ·rw [← ha.s8 j hj]
   intro q hq
   rw [Addr.add_add];have xG :j*T.k+q<ak.flatten.length:=by simp only [List.length_take,List.length_drop] at hq;omega
   obtain ⟨p,hp,hc⟩:=h4 _ xG
   cases hp
   rw [hc];simp
theorem O.idx' {α:Type} {T:ag α} {xs:List α} (ho:bG ops i n σ d (.indexAddr t x y)) (ht:P.underlying t=some (.slice e)) (he:(P.info? e).map (·.size)=some T.k) (hx:aA σ x=some v)
  {b_:Int} (hy:aA σ y=some (.int kd b_)) (dV:b_=(j:Int)) (hs:aj T g.h v xs) (gD:0<T.k) (hm:j<xs.length)
  (h:∀ p cs,At g.h p cs→T.rel g.h cs xs[j]→O ro P fn n R ops l K ((d,.pointer (some p))::σ) D g U):O ro P fn n R ops (i::l) K σ D g U:=by
 obtain ⟨p,cs,h1,h2,h3⟩:=Je ht he hx hy dV hs gD hm;exact O.op ho (h1 U) (h p cs h2 h3)
theorem af.idx' {α:Type} {T:ag α} {xs:List α} (ho:bG ops i n σ d (.indexAddr t x y)) (ht:P.underlying t=some (.slice e)) (he:(P.info? e).map (·.size)=some T.k) (hx:aA σ x=some v)
  {b_:Int} (hy:aA σ y=some (.int kd b_)) (dV:b_=(j:Int)) (hs:aj T g.h v xs) (gD:0<T.k) (hm:j<xs.length)
  (h:∀ p cs,At g.h p cs→T.rel g.h cs xs[j]→af P fn n R ops K D g l ((d,.pointer (some p))::σ) U):af P fn n R ops K D g (i::l) σ U:=by
 obtain ⟨p,cs,h1,h2,h3⟩:=Je ht he hx hy dV hs gD hm;exact .quiet ho rfl h1 (h p cs h2 h3)
theorem yA {α:Type} {T:ag α} {xs:List α} {r:Fr} {lo hi:Option Operand} {a b:Nat} {kl kh:IntKind} (ht:P.underlying t=some (.slice e)) (he:(P.info? e).map (·.size)=some T.k) (hx:aA σ x=some v)
  (hlo:∀ y,lo=some y→aA σ y=some (.int kl (a:Int))) (zS :lo=none→a=0) (hhi:∀ y,hi=some y→aA σ y=some (.int kh (b:Int))) (xx :hi=none→b=xs.length)
  (hs:aj T r v xs) (hab:a≤b) (hb:b≤xs.length):∃ u,(∀ U,aF P (.slice t x lo hi none) σ g U u U)∧aj T r u ((xs.take b).drop a):=by
 obtain ⟨ak,ha,fI⟩:=hs;obtain ⟨ad,cap,rfl,h1,h2,h3,h4⟩:=fI;refine ⟨.slice (if cap=a then ad else ad.map (·.add (a*T.k))) (b - a) (cap - a),fun U=>.run fun o ρ w ho hk=>?_,(ak.take b).drop a,(ha.take b).drop a,?_⟩
 ·have e1:(a:Int)≤(b:Int):=by omega
  have e2:(b:Int)≤(cap:Int):=by omega
  have hl0:lo=none→a=0:=zS
  cases lo with
  |none =>
   have:=zS rfl;subst this
   cases hi with
   |none=>have:=xx rfl;subst this;simp [execOp,ho,hk x _ hx,Instr.sliceAt,run_underlying ht,Instr.slice,Instr.sliceBounds,run_sizeOf he]
   |some y =>
    have hb' :b≤cap:=by omega
    simp [execOp,ho,hk x _ hx,hk y _ (hhi y rfl),Instr.sliceAt,run_underlying ht,Instr.slice,Instr.sliceBounds,Instr.sliceBound,asIntOf,hb',run_sizeOf he]
  |some z =>
   cases hi with
   |none=>have:=xx rfl;subst this;simp [execOp,ho,hk x _ hx,hk z _ (hlo z rfl),Instr.sliceAt,run_underlying ht,Instr.slice,Instr.sliceBounds,Instr.sliceBound,asIntOf,hab,run_sizeOf he]
   |some y =>
    have hb' :b≤cap:=by omega
    simp [execOp,ho,hk x _ hx,hk z _ (hlo z rfl),hk y _ (hhi y rfl),Instr.sliceAt,run_underlying ht,Instr.slice,Instr.sliceBounds,Instr.sliceBound,asIntOf,hab,hb',run_sizeOf he]
 ·have hlen:((xs.take b).drop a).length=b - a:=by simp;omega
  have hcs:((ak.take b).drop a).flatten=(ak.flatten.take (b*T.k)).drop (a*T.k):=by
   rw [ha.s9 b,(ha.take b).zq a]
  refine ⟨_,cap - a,by rw [hlen],by omega,⟨by omega,fun h=>?_⟩,?_,?_⟩
  ·cases ad with
   |none=>have:=h2.2 rfl;omega
   |some ad=>simp only [Option.map_some] at h;split at h<;>cases h
  ·rw [hcs,hlen,List.length_drop,List.length_take,h3,Nat.sub_mul,Nat.min_eq_left (Nat.mul_le_mul_right _ hb)]
  ·intro q hq
   rw [hcs] at hq;have tM:a*T.k+q<ak.flatten.length:=by simp only [List.length_take,List.length_drop] at hq;omega
   obtain ⟨p,rfl,hc⟩:=h4 _ tM;have hne:cap≠a:=by
    rintro rfl;have:ak.flatten.length≤cap*T.k:=by rw [h3];exact Nat.mul_le_mul_right _ (by omega)
    omega
   refine ⟨p.add (a*T.k),by simp [hne],?_⟩;rw [Addr.add_add,hc]
   simp [hcs]
end
section
variable {ro:Option Nat} {P:Program} {σ:List (Nat × Value)} {g:bk} {U ζ:List az} {fn:Func} {n:Nat} {R:Ending→World→Prop} {K:List Item} {D:List Deferred} {ops:Array Oper} {i d:Nat} {l:List Nat}
 {t e:TypeId} {x y z:Operand} {v:Value} {ka kb:IntKind} {qu nT:Int} {a b:Nat} {α:Type} {T:ag α} {xs:List α} {r:Fr}
theorem O.sliceTo (ho:bG ops i n σ d (.slice t x none (some y) none)) (ht:P.underlying t=some (.slice e)) (he:(P.info? e).map (·.size)=some T.k) (hx:aA σ x=some v) (hy:aA σ y=some (.int kb nT)) (hs:aj T r v xs) (hz:nT=(b:Int)) (hb:b≤xs.length)
  (h:∀ u,aj T r u (xs.take b)→O ro P fn n R ops l K ((d,u)::σ) D g U):O ro P fn n R ops (i::l) K σ D g U:=by
 subst hz;obtain ⟨u,h1,h2⟩:=yA (g:=g) (a:=0) (b:=b) (kl:=.i64) ht he hx (lo:=none) (hi:=some y) (fun _ h=>nomatch h) (fun _=>rfl) (fun _ h=>by cases h;exact hy) (fun h=>nomatch h) hs (Nat.zero_le _) hb;exact O.op ho (h1 U) (h u h2)
theorem O.sliceFrom (ho:bG ops i n σ d (.slice t x (some y) none none)) (ht:P.underlying t=some (.slice e)) (he:(P.info? e).map (·.size)=some T.k) (hx:aA σ x=some v) (hy:aA σ y=some (.int ka qu)) (hs:aj T r v xs) (hz:qu=(a:Int)) (ha:a≤xs.length)
  (h:∀ u,aj T r u (xs.drop a)→O ro P fn n R ops l K ((d,u)::σ) D g U):O ro P fn n R ops (i::l) K σ D g U:=by
 subst hz;obtain ⟨u,h1,h2⟩:=yA (g:=g) (a:=a) (b:=xs.length) (kh:=.i64) ht he hx (lo:=some y) (hi:=none) (fun _ h=>by cases h;exact hy) (fun h=>nomatch h) (fun _ h=>nomatch h) (fun _=>rfl) hs ha (Nat.le_refl _);exact O.op ho (h1 U) (h u (by rw [List.take_length] at h2;exact h2))
theorem O.Wn (ho:bG ops i n σ d (.slice t x (some y) (some z) none)) (ht:P.underlying t=some (.slice e)) (he:(P.info? e).map (·.size)=some T.k) (hx:aA σ x=some v) (hy:aA σ y=some (.int ka qu)) (hz:aA σ z=some (.int kb nT)) (hs:aj T r v xs) (h1:qu=(a:Int)) (h2:nT=(b:Int)) (hab:a≤b) (hb:b≤xs.length)
  (h:∀ u,aj T r u ((xs.take b).drop a)→O ro P fn n R ops l K ((d,u)::σ) D g U):O ro P fn n R ops (i::l) K σ D g U:=by
 subst h1;subst h2;obtain ⟨u,h1,h2⟩:=yA (g:=g) (a:=a) (b:=b) ht he hx (lo:=some y) (hi:=some z) (fun _ h=>by cases h;exact hy) (fun h=>nomatch h) (fun _ h=>by cases h;exact hz) (fun h=>nomatch h) hs hab hb;exact O.op ho (h1 U) (h u h2)
end
def bD (b:UInt8):Value:=.int .u8 b.toNat
def str (xs:List UInt8):ByteArray:=⟨xs.toArray⟩
@[simp] theorem K_ (xs:List UInt8):(str xs).toList=xs:=by rw [ByteArray.toList_eq];rfl
@[simp] theorem sB (xs:List UInt8):(str xs).size=xs.length:=by simp [str,ByteArray.size]
def ag.u8:ag UInt8:={ k:=1,rel:=fun _ cs b=>cs=[bD b],len:=fun h=>by rw [h];rfl,mono:=fun _ h=>h,one:=fun h c hc=>by subst h;simp at hc;subst hc;rfl }
def cG (z:Int):Prop:= -9223372036854775808≤z∧z≤9223372036854775807
def ag.i64:ag Int:={ k:=1,rel:=fun _ cs z=>cs=[.int .i64 z]∧cG z,len:=fun h=>by rw [h.1];rfl,mono:=fun _ h=>h,one:=fun h c hc=>by rw [h.1] at hc;simp at hc;subst hc;rfl }
def ag.bool:ag Bool:={ k:=1,rel:=fun _ cs b=>cs=[.bool b],len:=fun h=>by rw [h];rfl,mono:=fun _ h=>h,one:=fun h c hc=>by subst h;simp at hc;subst hc;rfl }
def ag.str:ag (List UInt8):={ k:=1,rel:=fun _ cs s=>cs=[.string (Go.Sp.str s)]∧s.length≤9223372036854775807,len:=fun h=>by rw [h.1];rfl,mono:=fun _ h=>h,one:=fun h c hc=>by rw [h.1] at hc;simp at hc;subst hc;rfl }
def ag.slice {α:Type} (T:ag α):ag (List α):={ k:=1,rel:=fun h cs xs=>∃ v,cs=[v]∧aj T h v xs,len:=fun ⟨_,h,_⟩=>by rw [h];rfl,mono:=fun s ⟨v,h,a⟩=>⟨v,h,a.mono s⟩,one:=fun ⟨v,h,a⟩ c hc=>by subst h;simp at hc;subst hc;obtain ⟨_,_,rfl⟩:=a.shape;rfl }
def ag.val:ag Value:={ k:=1,rel:=fun _ cs v=>cs=[v]∧v.oneCell' =true,len:=fun h=>by rw [h.1];rfl,mono:=fun _ h=>h,one:=fun h c hc=>by rw [h.1] at hc;simp at hc;subst hc;exact h.2 }
def ag.cells (k:Nat):ag (List Value):={ k:=k,rel:=fun _ cs c=>cs=c∧c.length=k∧∀ v∈c,v.oneCell' =true,len:=fun h=>by rw [h.1];exact h.2.1,mono:=fun _ h=>h,one:=fun h c hc=>by rw [h.1] at hc;exact h.2.2 c hc }
theorem aj.rows {α:Type} {T:ag α} {h:Fr} {v:Value} {vs:List Value} {xss:List (List α)} (hv:aj ag.val h v vs) (ha:bV (aj T h) vs xss):aj (ag.slice T) h v xss:=by
 obtain ⟨ak,h1,h2⟩:=hv;refine ⟨ak,?_,by rw [← ha.length];exact h2⟩;clear h2
 induction ak generalizing vs xss with
 |nil=>cases vs with
  |nil=>cases xss with
   |nil=>trivial
   |cons _ _=>exact ha.elim
  |cons _ _=>exact h1.elim
 |cons c ak ih=>cases vs with
  |nil=>exact h1.elim
  |cons v vs=>cases xss with
   |nil=>exact ha.elim
   |cons x xss=>exact ⟨⟨v,h1.1.1,ha.1⟩,ih ha.2 h1.2⟩
theorem aj.nil {α:Type} {T:ag α} {h:Fr}:aj T h (.slice none 0 0) ([]:List α):=⟨[],trivial,none,0,rfl,Nat.le_refl _,⟨by omega,fun _=>rfl⟩,by simp,fun j hj=>by simp at hj⟩
theorem aj.x_ {α:Type} {T:ag α} {h:Fr} {m c:Nat} {xs:List α} (hk:0<T.k):aj T h (.slice none m c) xs→xs=[]∧m=0∧c=0
 |⟨ak,h1,a,c',h2,_,hc,h5,h6⟩=>by
  cases h2
  refine ⟨?_,?_,hc.2 rfl⟩
  rotate_left
  ·have:=hc.2 rfl;omega
  cases xs with
  |nil=>rfl
  |cons x xs =>
   have:0<ak.flatten.length:=by rw [h5];exact Nat.mul_pos (by simp) hk
   obtain ⟨p,hp,_⟩:=h6 0 this
   cases hp
end Go.Sp
end
section
/- Texts of this proof. -/
namespace Go.Sp
section
variable {ro:Option Nat} {P:Program} {σ σ' :List (Nat × Value)} {g:bk} {U ax ζ:List az} {fn:Func} {n:Nat} {R:Ending→World→Prop} {k K:List Item} {D:List Deferred} {ops:Array Oper} {i d:Nat} {l:List Nat} {t e:TypeId} {x y:Operand} {todo:List Item}
theorem aF.loadAt {p:Addr} {cs:List Value} {v:Value} (ht:dU P t=true) (hx:aA σ x=some (.pointer (some p))) (hp:At g.h p cs) (hv:cs[0]?=some v):aF P (.load t x) σ g U v U :=
 .load ht hx (by have:=hp.at hv;rwa [Addr.add_zero] at this)
theorem bC.imp {op:Op} {A B:Value→List az→Prop} (h:bC P op σ g U A) (hab:∀ v ax,A v ax →B v ax):bC P op σ g U B :=
 fun o ρ w h1 h2 h3=>let ⟨v,w',ax,a,b,c⟩:=h o ρ w h1 h2 h3;⟨v,w',ax,hab _ _ a,b,c⟩
theorem S.e6 {ι:Type} {c:Code} (φ:ι→Prop) (σs:ι→List (Nat × Value)) (keep:List (Nat × Value)) (iM:ι→List az) (μ:ι→Nat) (iL:ι) (h₀:φ iL) (qY:Sub (σs iL) σ) (hk:Sub keep σ) (kj:U=iM iL)
  (round:∀ x,φ x→(∀ y,φ y→μ y<μ x→S ro P fn n R (.inLoop c::k) (σs y++keep) D g (iM y))→S ro P fn n R (.code c::.inLoop c::k) (σs x++keep) D g (iM x)) :
  S ro P fn n R (.code (.loop c)::k) σ D g U:=by
 refine S.loop φ (fun x=>σs x++keep) iM μ iL h₀ ?_ kj round
 intro t v hv
 have:∀ (l:List (Nat × Value)),look (l++keep) t=some v→look l t=some v∨look keep t=some v:=by
  intro l
  induction l with
  |nil=>exact .inr
  |cons p l ih =>
   intro h
   obtain ⟨s,u⟩:=p;simp only [List.cons_append,look] at h ⊢
   split at h
   ·exact .inl h
   ·exact ih h
 rcases this _ hv with h|h
 ·exact qY t v h
 ·exact hk t v h
theorem S.jT {ι dI:Type} {c:Code} (φ:ι→dI→Prop) (σs:ι→dI→List (Nat × Value)) (keep:List (Nat × Value)) (iM:ι→dI→List az) (μ:ι→dI→Nat) (iL:ι) (nc:dI) (h₀:φ iL nc) (qY:Sub (σs iL nc) σ) (hk:Sub keep σ) (kj:U=iM iL nc)
  (round:∀ x y,φ x y→(∀ x' y',φ x' y' →μ x' y' <μ x y→S ro P fn n R (.inLoop c::k) (σs x' y' ++keep) D g (iM x' y'))→S ro P fn n R (.code c::.inLoop c::k) (σs x y++keep) D g (iM x y)) :
  S ro P fn n R (.code (.loop c)::k) σ D g U :=
 S.e6 (ι:=ι × dI) (fun p=>φ p.1 p.2) (fun p=>σs p.1 p.2) keep (fun p=>iM p.1 p.2) (fun p=>μ p.1 p.2) (iL,nc) h₀ qY hk kj fun p hp ih=>round p.1 p.2 hp fun x' y' h1 h2=>ih (x',y') h1 h2
theorem S.x6 {ι dI jI:Type} {c:Code} (φ:ι→dI→jI→Prop) (σs:ι→dI→jI→List (Nat × Value)) (keep:List (Nat × Value)) (iM:ι→dI→jI→List az) (μ:ι→dI→jI→Nat) (iL:ι) (nc:dI) (rq:jI) (h₀:φ iL nc rq) (qY:Sub (σs iL nc rq) σ) (hk:Sub keep σ) (kj:U=iM iL nc rq)
  (round:∀ x y z,φ x y z→(∀ x' y' z',φ x' y' z' →μ x' y' z' <μ x y z→S ro P fn n R (.inLoop c::k) (σs x' y' z' ++keep) D g (iM x' y' z'))→S ro P fn n R (.code c::.inLoop c::k) (σs x y z++keep) D g (iM x y z)) :
  S ro P fn n R (.code (.loop c)::k) σ D g U :=
 S.e6 (ι:=ι × dI × jI) (fun p=>φ p.1 p.2.1 p.2.2) (fun p=>σs p.1 p.2.1 p.2.2) keep (fun p=>iM p.1 p.2.1 p.2.2) (fun p=>μ p.1 p.2.1 p.2.2) (iL,nc,rq) h₀ qY hk kj fun p hp ih=>round p.1 p.2.1 p.2.2 hp fun x' y' z' h1 h2=>ih (x',y',z') h1 h2
theorem S.EK {ι dI jI dB:Type} {c:Code} (φ:ι→dI→jI→dB→Prop) (σs:ι→dI→jI→dB→List (Nat × Value)) (keep:List (Nat × Value)) (iM:ι→dI→jI→dB→List az) (μ:ι→dI→jI→dB→Nat) (iL:ι) (nc:dI) (rq:jI) (Bg:dB) (h₀:φ iL nc rq Bg) (qY:Sub (σs iL nc rq Bg) σ) (hk:Sub keep σ) (kj:U=iM iL nc rq Bg)
  (round:∀ x y z u,φ x y z u→(∀ x' y' z' u',φ x' y' z' u' →μ x' y' z' u' <μ x y z u→S ro P fn n R (.inLoop c::k) (σs x' y' z' u' ++keep) D g (iM x' y' z' u'))→S ro P fn n R (.code c::.inLoop c::k) (σs x y z u++keep) D g (iM x y z u)) :
  S ro P fn n R (.code (.loop c)::k) σ D g U :=
 S.e6 (ι:=ι × dI × jI × dB) (fun p=>φ p.1 p.2.1 p.2.2.1 p.2.2.2) (fun p=>σs p.1 p.2.1 p.2.2.1 p.2.2.2) keep (fun p=>iM p.1 p.2.1 p.2.2.1 p.2.2.2) (fun p=>μ p.1 p.2.1 p.2.2.1 p.2.2.2) (iL,nc,rq,Bg) h₀ qY hk kj
  fun p hp ih=>round p.1 p.2.1 p.2.2.1 p.2.2.2 hp fun x' y' z' u' h1 h2=>ih (x',y',z',u') h1 h2
theorem Sub.Cg {v v' :Value} {s:Nat} {dB:List (Nat × Value)} (h:look σ s=some v) (e:v=v') (hs:Sub dB σ):Sub ((s,v')::dB) σ:=by subst e;exact Sub.cons h hs
theorem S.slot {v v' :Value} (s:Nat) (hl:look σ s=some v) (e:v=v') (h:S ro P fn n R todo ((s,v')::σ) D g U):S ro P fn n R todo σ D g U:=S.weaken (Sub.Cg hl e Sub.refl) h
theorem O.slot {v v' :Value} {L:List Nat} (s:Nat) (hl:look σ s=some v) (e:v=v') (h:O ro P fn n R ops L k ((s,v')::σ) D g U):O ro P fn n R ops L k σ D g U:=O.weaken (Sub.Cg hl e Sub.refl) h
theorem O.aB {f:FuncId} {xs:Array Operand} {ts:Array TypeId} {bF:List Value} {K' :Value→List az→Prop} {first cap:Array Value} (ho:bG ops i n σ d (.call ⟨.value x,xs,ts⟩)) (hx:aA σ x=some (.func (.func f) first cap)) (hc:dA P f=true)
  (hv:dS σ xs.toList=some bF) {args:Array Value} (hargs:first++bF.toArray++cap=args) (con:ay P f args g.h [] (aL K'))
  (h:∀ v ax,K' v ax →O ro P fn n R ops l k ((d,v)::σ) D g (ax ++U)):O ro P fn n R ops (i::l) k σ D g U:=O.call (U:=[]) (ζ:=U) ho hx hc hv hargs con h
theorem cK.aB {f:FuncId} {xs:Array Operand} {ts:Array TypeId} {bF:List Value} {K' :Value→List az→Prop} {first cap:Array Value} (ho:bG ops i n σ d (.call ⟨.value x,xs,ts⟩)) {fl:Bool} (hd:ed fl ops i l=true) (hx:aA σ x=some (.func (.func f) first cap)) (hc:dA P f=true)
  (hv:dS σ xs.toList=some bF) {args:Array Value} (hargs:first++bF.toArray++cap=args) (con:ay P f args g.h [] (aL K'))
  (h:∀ v ax,K' v ax →af P fn n R ops k D g l ((d,v)::σ) (ax ++U)):aI P fn n R ops k D g fl (i::l) σ U:=cK.call (U:=[]) (ζ:=U) ho hd hx hc hv hargs con h
theorem af.aB {f:FuncId} {xs:Array Operand} {ts:Array TypeId} {bF:List Value} {K' :Value→List az→Prop} {first cap:Array Value} (ho:bG ops i n σ d (.call ⟨.value x,xs,ts⟩)) (hd:eF ops [i] l=true) (hx:aA σ x=some (.func (.func f) first cap)) (hc:dA P f=true) (hv:dS σ xs.toList=some bF) {args:Array Value} (hargs:first++bF.toArray++cap=args) (con:ay P f args g.h [] (aL K')) (h:∀ v ax,K' v ax →af P fn n R ops k D g l ((d,v)::σ) (ax ++U)):af P fn n R ops k D g (i::l) σ U:=cK.aB (fl:=false) ho (by simpa [ed] using hd) hx hc hv hargs con h
theorem bO.aB {f:FuncId} {xs:Array Operand} {ts:Array TypeId} {bF:List Value} {K' :Value→List az→Prop} {first cap:Array Value} (ho:bG ops i n σ d (.call ⟨.value x,xs,ts⟩)) (_:true=true) (hx:aA σ x=some (.func (.func f) first cap)) (hc:dA P f=true) (hv:dS σ xs.toList=some bF) {args:Array Value} (hargs:first++bF.toArray++cap=args) (con:ay P f args g.h [] (aL K')) (h:∀ v ax,K' v ax →af P fn n R ops k D g l ((d,v)::σ) (ax ++U)):aI P fn n R ops k D g true (i::l) σ U:=cK.aB (fl:=true) ho rfl hx hc hv hargs con h
inductive jM:List az→List az→List az→Prop
 |nil {U:List az}:jM U [] U
 |cons {U ζ aO:List az} {A:az} {bs:List az}:a_ U A ζ→jM ζ bs aO→jM U (A::bs) aO
theorem jM.perm {U bs aO:List az} (s:jM U bs aO):U.Perm (bs++aO):=by
 induction s with
 |nil=>exact .refl _
 |cons s _ ih=>exact s.perm.trans (.cons _ ih)
theorem ay.jG {f:FuncId} {args:Array Value} {h:Fr} {bs:List az} {Post:Ending→List az→Prop} (con:∀ m:Fr,Sat bs m→h.cR m→ay P f args (h.add m) [] Post) :
  ay P f args h bs fun e ax =>∃ cT,Post e cT∧ax =cT++bs:=fun g hg w hw=>by
 obtain ⟨m,hm,hd,hw'⟩:=Holds.zz (U:=[]) (ζ:=bs) hw;have l7 :h.cR m:=Fr.fK hd hg (Fr.bU _);refine (con m hm l7 (g.add m) (Fr.iw (Fr.aH hg (Fr.de _ _)) (Fr.dL hd)) w hw').mono fun e w' ⟨ax,x,y⟩=>⟨ax ++bs,⟨ax,x,rfl⟩,y.FO hm hd⟩
theorem O.dw {f:FuncId} {xs:Array Operand} {ts:Array TypeId} {bF:List Value} {K' :Value→List az→Prop} {first cap:Array Value} (ho:bG ops i n σ d (.call ⟨.value x,xs,ts⟩)) (hx:aA σ x=some (.func (.func f) first cap)) (hc:dA P f=true)
  (hv:dS σ xs.toList=some bF) {args:Array Value} (hargs:first++bF.toArray++cap=args) {bs:List az} (hb:jM U bs ζ) (con:∀ m:Fr,Sat bs m→g.h.cR m→ay P f args (g.h.add m) [] (aL K'))
  (h:∀ v ax,K' v ax →O ro P fn n R ops l k ((d,v)::σ) D g (ax ++(bs++ζ))):O ro P fn n R ops (i::l) k σ D g U:=by
 have Dv:ay P f args g.h bs (aL fun v ax =>∃ cT,K' v cT∧ax =cT++bs):=(ay.jG con).mono fun e ax ⟨cT,a,b⟩=>by
  cases e with
  |returned v=>exact ⟨cT,a,b⟩
  |panicked _=>exact a.elim
  |outgrown=>exact a.elim
 have:=O.call (ζ:=ζ) ho hx hc hv hargs Dv (R:=R) (l:=l) (k:=k) (D:=D) (fn:=fn) fun v ax ⟨cT,a,b⟩=>by
  subst b;rw [List.append_assoc];exact h v cT a
 exact fun a w hf hd hw=>this a w hf hd (hw.perm hb.perm)
theorem aI.perm {fl:Bool} {L:List Nat} (p:U.Perm ax) (h:aI P fn n R ops k D g fl L σ ax):aI P fn n R ops k D g fl L σ U:=by
 induction h generalizing U with
 |nil h=>exact .nil (S.perm p h)
 |quiet ho hna dc h ih=>exact .quiet ho hna dc (ih p)
 |no ho hna hl rX h ih=>exact .no ho hna hl rX (ih p)
 |lazy ho hd hz h ih=>exact .lazy ho hd hz fun b=>ih b (p.cons _)
 |@lS i d l σ cT F6 f x xs ts bF K' X' first cap args ho hx hc hv hargs con hp h ih =>
  have Nd :ay P f args g.h U (eL (fun v ax =>∃ kr,K' v kr∧ax =kr++F6) (fun ch ax =>∃ kr,X' ch kr∧ax =kr++F6)):=fun g' hg w hw=>((con.frame (ζ:=F6)) g' hg w (hw.perm p)).mono fun e w' ⟨ax,a,b⟩=>⟨ax,by
   cases e with
   |returned v=>exact a
   |panicked _=>exact a
   |outgrown=>obtain ⟨_,h1,_⟩:=a;exact h1.elim,b⟩
  have:=aI.lS (U:=U) (ζ:=[]) (l:=l) ho hx hc hv hargs Nd (fun a ch ax w ⟨kr,h1,h2⟩ hw=>hp a ch kr w h1 (by subst h2;simpa using hw)) fun v ax ⟨kr,h1,h2⟩=>ih v kr h1 (U:=ax ++[]) (by subst h2;simp)
  simpa using this
 |@gd i d op l σ aa' K' ho hna dc h ih =>
  exact .gd ho hna (K:=K') (fun ζ o ρ w h1 h2 h3=>dc ζ o ρ w h1 h2 (h3.perm (p.append_right _))) fun v ax a=>ih v ax a (.refl _)
 |mS ho hna dc h ih =>
  exact .mS ho hna (fun ζ o ρ w h1 h2 h3=>dc ζ o ρ w h1 h2 (h3.perm (p.append_right _))) (ih (.refl _))
 |q3 ho hna hl dc h=>exact .q3 ho hna hl (fun o ρ w h1 h2 h3=>dc o ρ w h1 h2 (h3.perm p)) h
 |one hd h ih=>exact .one hd (ih p)
 |swap l' hp h ih=>exact .swap l' hp (ih p)
 |alt jC hok h ih=>exact .alt jC hok fun i hi=>ih i hi p
theorem af.perm {L:List Nat} (p:U.Perm ax) (h:af P fn n R ops k D g L σ ax):af P fn n R ops k D g L σ U:=aI.perm p h
theorem cK.dw {f:FuncId} {xs:Array Operand} {ts:Array TypeId} {bF:List Value} {K' :Value→List az→Prop} {first cap:Array Value} (ho:bG ops i n σ d (.call ⟨.value x,xs,ts⟩)) {fl:Bool} (hd:ed fl ops i l=true) (hx:aA σ x=some (.func (.func f) first cap)) (hc:dA P f=true)
  (hv:dS σ xs.toList=some bF) {args:Array Value} (hargs:first++bF.toArray++cap=args) {bs:List az} (hb:jM U bs ζ) (con:∀ m:Fr,Sat bs m→g.h.cR m→ay P f args (g.h.add m) [] (aL K'))
  (h:∀ v ax,K' v ax →af P fn n R ops k D g l ((d,v)::σ) (ax ++(bs++ζ))):aI P fn n R ops k D g fl (i::l) σ U:=by
 have Dv:ay P f args g.h bs (aL fun v ax =>∃ cT,K' v cT∧ax =cT++bs):=(ay.jG con).mono fun e ax ⟨cT,a,b⟩=>by
  cases e with
  |returned v=>exact ⟨cT,a,b⟩
  |panicked _=>exact a.elim
  |outgrown=>exact a.elim
 exact aI.perm hb.perm (cK.call (ζ:=ζ) ho hd hx hc hv hargs Dv fun v ax ⟨cT,a,b⟩=>by
  subst b;rw [List.append_assoc];exact h v cT a)
theorem af.dw {f:FuncId} {xs:Array Operand} {ts:Array TypeId} {bF:List Value} {K' :Value→List az→Prop} {first cap:Array Value} (ho:bG ops i n σ d (.call ⟨.value x,xs,ts⟩)) (hd:eF ops [i] l=true) (hx:aA σ x=some (.func (.func f) first cap)) (hc:dA P f=true) (hv:dS σ xs.toList=some bF) {args:Array Value} (hargs:first++bF.toArray++cap=args) {bs:List az} (hb:jM U bs ζ) (con:∀ m:Fr,Sat bs m→g.h.cR m→ay P f args (g.h.add m) [] (aL K')) (h:∀ v ax,K' v ax →af P fn n R ops k D g l ((d,v)::σ) (ax ++(bs++ζ))):af P fn n R ops k D g (i::l) σ U:=cK.dw (fl:=false) ho (by simpa [ed] using hd) hx hc hv hargs hb con h
theorem bO.dw {f:FuncId} {xs:Array Operand} {ts:Array TypeId} {bF:List Value} {K' :Value→List az→Prop} {first cap:Array Value} (ho:bG ops i n σ d (.call ⟨.value x,xs,ts⟩)) (_:true=true) (hx:aA σ x=some (.func (.func f) first cap)) (hc:dA P f=true) (hv:dS σ xs.toList=some bF) {args:Array Value} (hargs:first++bF.toArray++cap=args) {bs:List az} (hb:jM U bs ζ) (con:∀ m:Fr,Sat bs m→g.h.cR m→ay P f args (g.h.add m) [] (aL K')) (h:∀ v ax,K' v ax →af P fn n R ops k D g l ((d,v)::σ) (ax ++(bs++ζ))):aI P fn n R ops k D g true (i::l) σ U:=cK.dw (fl:=true) ho rfl hx hc hv hargs hb con h
theorem O.bM {f:FuncId} {xs:Array Operand} {ts:Array TypeId} {bF:List Value} {K' :Value→List az→Prop} {first cap:Array Value} {A:az} (ho:bG ops i n σ d (.call ⟨.value x,xs,ts⟩)) (hx:aA σ x=some (.func (.func f) first cap)) (hc:dA P f=true)
  (hv:dS σ xs.toList=some bF) {args:Array Value} (hargs:first++bF.toArray++cap=args) (hs:a_ U A ζ) (con:ay P f args g.h [A] (aL K'))
  (h:∀ v ax,K' v ax →O ro P fn n R ops l k ((d,v)::σ) D g (ax ++ζ)):O ro P fn n R ops (i::l) k σ D g U :=
 fun a w hf hd hw=>O.call (U:=[A]) (ζ:=ζ) ho hx hc hv hargs con h a w hf hd (hw.cr hs)
theorem cK.bM {f:FuncId} {xs:Array Operand} {ts:Array TypeId} {bF:List Value} {K' :Value→List az→Prop} {first cap:Array Value} {A:az} (ho:bG ops i n σ d (.call ⟨.value x,xs,ts⟩)) {fl:Bool} (hd:ed fl ops i l=true) (hx:aA σ x=some (.func (.func f) first cap)) (hc:dA P f=true)
  (hv:dS σ xs.toList=some bF) {args:Array Value} (hargs:first++bF.toArray++cap=args) (hs:a_ U A ζ) (con:ay P f args g.h [A] (aL K'))
  (h:∀ v ax,K' v ax →af P fn n R ops k D g l ((d,v)::σ) (ax ++ζ)):aI P fn n R ops k D g fl (i::l) σ U :=
 aI.perm hs.perm (cK.call (U:=[A]) (ζ:=ζ) ho hd hx hc hv hargs con h)
theorem af.bM {f:FuncId} {xs:Array Operand} {ts:Array TypeId} {bF:List Value} {K' :Value→List az→Prop} {first cap:Array Value} {A:az} (ho:bG ops i n σ d (.call ⟨.value x,xs,ts⟩)) (hd:eF ops [i] l=true) (hx:aA σ x=some (.func (.func f) first cap)) (hc:dA P f=true) (hv:dS σ xs.toList=some bF) {args:Array Value} (hargs:first++bF.toArray++cap=args) (hs:a_ U A ζ) (con:ay P f args g.h [A] (aL K')) (h:∀ v ax,K' v ax →af P fn n R ops k D g l ((d,v)::σ) (ax ++ζ)):af P fn n R ops k D g (i::l) σ U:=cK.bM (fl:=false) ho (by simpa [ed] using hd) hx hc hv hargs hs con h
theorem bO.bM {f:FuncId} {xs:Array Operand} {ts:Array TypeId} {bF:List Value} {K' :Value→List az→Prop} {first cap:Array Value} {A:az} (ho:bG ops i n σ d (.call ⟨.value x,xs,ts⟩)) (_:true=true) (hx:aA σ x=some (.func (.func f) first cap)) (hc:dA P f=true) (hv:dS σ xs.toList=some bF) {args:Array Value} (hargs:first++bF.toArray++cap=args) (hs:a_ U A ζ) (con:ay P f args g.h [A] (aL K')) (h:∀ v ax,K' v ax →af P fn n R ops k D g l ((d,v)::σ) (ax ++ζ)):aI P fn n R ops k D g true (i::l) σ U:=cK.bM (fl:=true) ho rfl hx hc hv hargs hs con h
theorem O.perm {L:List Nat} (p:U.Perm ζ) (h:O ro P fn n R ops L k σ D g ζ):O ro P fn n R ops L k σ D g U:=fun a w hf hd hw=>h a w hf hd (hw.perm p)
theorem O.cr {L:List Nat} {A:az} (s:a_ U A ζ) (h:O ro P fn n R ops L k σ D g (A::ζ)):O ro P fn n R ops L k σ D g U:=fun a w hf hd hw=>h a w hf hd (hw.cr s)
theorem O.imp {L:List Nat} (hs:∀ m,Sat U m→Sat ax m) (h:O ro P fn n R ops L k σ D g ax):O ro P fn n R ops L k σ D g U:=fun a w hf hd hw=>h a w hf hd (hw.imp hs)
theorem O.freeze {L:List Nat} {A:az} (h:∀ m:Fr,A m→g.h.cR m→O ro P fn n R ops L k σ D (g.add m) U):O ro P fn n R ops L k σ D g (A::U) :=
 fun a w hf hd hw=>by
  obtain ⟨m,hm,hdj,hw'⟩:=hw.freeze;exact h m hm hdj a w hf hd hw'
theorem O.panic {L:List Nat} {v:Value} {aJ:TypeId} (ho:ko ops i=some (.panic x)) (hx:aA σ x=some (.iface aJ v)) (h:∀ w,Holds w g U→R (.panicked [{ v:=.iface aJ v,recovered:=false }]) w):O ro P fn n R ops (i::L) k σ [] g U:=by
 intro a w hf hd hw
 obtain ⟨o,hi,eB,hop,hg⟩:=pM ho;have hrun:(execOp a.eval o).run P w=.halt (.panic (.iface aJ v)) w:=by
  simp [execOp,hop,hf.eval hx,Instr.panic]
 refine O.mJ hi (by simp [Region.wanted,hg]) (by rw [hop];intro c hc;cases hc) hrun ?_;rw [Oper.uponIn_panic];exact Post.panic hd (h w hw)
theorem run_equal_pointer_nil (ht:P.underlying t=some (.pointer e)) (a:Option Addr) (w:World):(Op.equal t (.pointer a) (.pointer none)).run P w=.ok a.isNone w:=by
 show (Op.equalIn (9999+1) t (.pointer a) (.pointer none)).run P w=_
 rw [Op.equalIn]
 cases a<;>simp [run_underlying ht]
theorem aF.rK {u:TypeId} {a:Option Addr} (ht:P.underlying t=some (.pointer e)) (hx:aA σ x=some (.pointer a)) (hy:aA σ y=some (.pointer none)):aF P (.binOp .eql t x y u) σ g U (.bool a.isNone) U :=
 .run fun o ρ w ho hk=>by simp [execOp,ho,hk x _ hx,hk y _ hy,eqGuard,Go.binOp,run_equal_pointer_nil ht]
theorem aF.x9 {u:TypeId} {a:Option Addr} (ht:P.underlying t=some (.pointer e)) (hx:aA σ x=some (.pointer a)) (hy:aA σ y=some (.pointer none)):aF P (.binOp .neq t x y u) σ g U (.bool (!a.isNone)) U :=
 .run fun o ρ w ho hk=>by simp [execOp,ho,hk x _ hx,hk y _ hy,eqGuard,Go.binOp,run_equal_pointer_nil ht]
theorem aF.nw {u:TypeId} {a:Option Addr} {m c:Nat} (ht:P.underlying t=some (.slice e)) (hx:aA σ x=some (.slice a m c)) (hy:aA σ y=some (.slice none 0 0)):aF P (.binOp .eql t x y u) σ g U (.bool a.isNone) U :=
 .run fun o ρ w ho hk=>by simp [execOp,ho,hk x _ hx,hk y _ hy,eqGuard,Go.binOp,run_equal_slice_nil w t e a m c ht]
def J1:TypeDesc→Bool
 |.interface _=>false
 |_=>true
theorem aF.JK {v:Value} {dd:TypeDesc} (ht:P.underlying t=some dd) (hx:aA σ x=some v) (hn:J1 dd=true:=by rfl):aF P (.makeInterface t x) σ g U (.iface t v) U :=
 .run fun o ρ w ho hk=>by
  simp only [execOp,ho,hk x _ hx,Instr.makeInterface,Sem.run_bind,run_underlying ht,Result.andThen_ok]
  cases dd<;>first|(simp;done)|exact Bool.noConfusion hn
def placesOf (P:Program):List Field→Option (List (Nat × Nat))
 |[]=>some []
 |f::fs=>match (P.info? f.type).map (·.size),placesOf P fs with|some m,some ps=>some ((f.offset,m)::ps)|_,_=>none
theorem run_places:∀ (fs:List Field) (ps:List (Nat × Nat)),placesOf P fs=some ps→∀ w,(fs.mapM fun (f:Field)=>(do pure (f.offset,← sizeOf f.type):Sem (Nat × Nat))).run P w=.ok ps w
 |[],ps,h,w=>by cases h;simp
 |f::fs,ps,h,w=>by
  simp only [placesOf] at h
  split at h
  ·rename_i m k8 hm hq
   cases h
   have ih:=run_places fs k8 hq w;simp only [List.mapM_cons,Sem.run_bind,run_sizeOf hm,Result.andThen_ok,Sem.run_pure,ih]
  ·cases h
def zl (σ:List (Nat × Value)):List (Nat × Operand)→Option (List (Nat × Value))
 |[]=>some []
 |(j,x)::r=>match aA σ x,zl σ r with|some v,some vs=>some ((j,v)::vs)|_,_=>none
theorem Hv {ρ:Operand→Value} (hk:nh σ ρ):∀ {xs:List (Nat × Operand)} {vs:List (Nat × Value)},zl σ xs=some vs→xs.map (fun p=>(p.1,ρ p.2))=vs
 |[],_,h=>by cases h;rfl
 |(j,x)::xs,vs,h=>by
  simp only [zl] at h
  split at h
  ·rename_i v us hv qT;cases h;simp [hk x v hv,Hv hk qT]
  ·cases h
def setAt:List Value→Nat→List Value→List Value
 |[],_,_=>[]
 |c::z,n+1,vs=>c::setAt z n vs
 |c::z,0,[]=>c::z
 |_::z,0,v::vs=>v::setAt z 0 vs
theorem FD:∀ (z:List Value) (n:Nat) (vs:List Value),n+vs.length≤z.length→setAt z n vs=z.take n++vs++z.drop (n+vs.length)
 |[],n,vs,h=>by simp at h;obtain ⟨rfl,rfl⟩:=h;rfl
 |c::z,n+1,vs,h=>by
  have:=FD z n vs (by simp at h;omega);simp only [setAt,this,List.take_succ_cons,List.cons_append];rw [show n+1+vs.length=(n+vs.length)+1 from by omega,List.drop_succ_cons]
 |c::z,0,[],h=>by simp [setAt]
 |c::z,0,v::vs,h=>by
  have:=FD z 0 vs (by simp at h;omega);simp only [setAt,this]
  simp
def zm (ps:List (Nat × Nat)):List Value→List (Nat × List Value)→Option (List Value)
 |z,[]=>some z
 |z,(i,c)::r=>match ps[i]? with
  |some (off,m)=>match Nat.beq c.length m,Nat.ble (off+m) z.length with
   |true,true=>zm ps (setAt z off c) r
   |_,_=>none
  |none=>none
def y5:List (Nat × Value)→List (Nat × List Value)
 |[]=>[]
 |(i,v)::r=>(i,v.cells.toList)::y5 r
theorem Hz {ps:List (Nat × Nat)}:∀ (vs:List (Nat × Value)) (z cs:List Value),zm ps z (y5 vs)=some cs→Instr.fill (ps[·]?) z.toArray vs=some cs.toArray
 |[],z,cs,h=>by cases h;rfl
 |(i,v)::vs,z,cs,h=>by
  simp only [y5,zm] at h
  split at h
  ·rename_i off m hp
   split at h
   ·rename_i hb hl
    have hb:=Nat.eq_of_beq_eq_true hb;have hl:=Nat.le_of_ble_eq_true hl;have hs:v.cells.size=m:=by simpa using hb
    simp only [Instr.fill,hp];have h2:(decide (v.cells.size≠m) ||decide (off+v.cells.size>z.toArray.size))=false:=by simp;omega
    have hf:(v.cells.zipIdx.foldl (fun cs (x:Value × Nat)=>cs.setIfInBounds (off+x.2) x.1) z.toArray)=(setAt z off v.cells.toList).toArray:=by
     rw [← Array.foldl_toList,Array.toList_zipIdx,FD _ _ _ (by simpa [hs] using hl)];refine CH v.cells.toList (z.take off) ((z.drop off).take m) (z.drop (off+v.cells.toList.length)) 0 off z.toArray ?_ ?_ ?_
     ·rw [hb,← List.drop_drop,List.append_assoc,List.take_append_drop,List.take_append_drop]
     ·simp [hs];omega
     ·simp;omega
    rw [if_neg (by rw [h2];exact Bool.false_ne_true)];refine (congrArg (fun c=>Instr.fill _ c _) hf).trans (Hz vs _ cs h)
   ·cases h
  ·cases h
theorem aF.build {fs:Array Field} {z:Value} {zs:List Value} {ps:List (Nat × Nat)} {parts:Array (Nat × Operand)} {vs:List (Nat × Value)} {cs:List Value} (ht:P.underlying t=some (.struct fs)) (hz:zeroOf P t=some z) (hzs:z.cells.toList=zs) (hps:placesOf P fs.toList=some ps)
  (hp:zl σ parts.toList=some vs) (hf:zm ps zs (y5 vs)=some cs):aF P (.build t parts) σ g U (.agg cs.toArray) U :=
 .run fun o ρ w ho hk=>by
  subst hzs;have hm:(parts.map fun (p:Nat × Operand)=>(p.1,ρ p.2)).toList=vs:=by rw [Array.toList_map];exact Hv hk hp
  have mO:(fs.mapM fun (f:Field)=>(do pure (f.offset,← sizeOf f.type):Sem (Nat × Nat))).run P w=.ok ps.toArray w:=by
   rw [Array.mapM_eq_mapM_toList,Sem.run_map,run_places _ _ hps];rfl
  have hf' :Instr.fill (fun j=>ps.toArray[j]?) z.cells (parts.map fun (p:Nat × Operand)=>(p.1,ρ p.2)).toList=some cs.toArray:=by
   have:=Hz vs _ _ hf;rw [hm];rw [Array.toArray_toList] at this;rw [← this];congr 1;funext j;simp
  have hb:(Instr.build t (parts.map fun (p:Nat × Operand)=>(p.1,ρ p.2))).run P w=.ok (.agg cs.toArray) w:=by
   simp only [Instr.build,Sem.run_bind,Fz hz,Result.andThen_ok,run_underlying ht,mO,hf']
   rfl
  have e1:(parts.map fun x=>match x with|(i,x)=>(i,ρ x))=parts.map fun (p:Nat × Operand)=>(p.1,ρ p.2):=rfl;simp only [execOp,ho,Sem.run_bind];rw [e1,hb];rfl
end
theorem XR {U:List az}:jM U [] U:=.nil
theorem XQ {U ζ aO:List az} {A:az} {bs:List az} (h:a_ U A ζ) (k:jM ζ bs aO):jM U (A::bs) aO:=.cons h k
end Go.Sp
end
end
section
/- Texts of this proof, one behind the other. -/
section
/- Texts of this proof. -/
namespace Go.Sp
def ym (σ:List (Nat × Value)):Op→Option Value
 |.move x=>aA σ x
 |.assign x=>aA σ x
 |.extract x j=>match aA σ x with|some (.tuple vs)=>vs[j]?|_=>none
 |.pick c x y=>match aA σ c with|some (.bool true)=>aA σ x|some (.bool false)=>aA σ y|_=>none
 |_=>none
theorem Fk {P:Program} {σ:List (Nat × Value)} {op:Op} {v:Value} (h:ym σ op=some v):jm op=false∧∀ g U,aF P op σ g U v U:=by
 unfold ym at h
 split at h
 ·exact ⟨rfl,fun g U=>.Tj h⟩
 ·exact ⟨rfl,fun g U=>.as h⟩
 ·split at h
  ·rename_i e;exact ⟨rfl,fun g U=>.extract e h⟩
  ·cases h
 ·split at h
  ·rename_i e;exact ⟨rfl,fun g U=>.Ua e h⟩
  ·rename_i e;exact ⟨rfl,fun g U=>.T' e h⟩
  ·cases h
 ·cases h
def Fj (ops:Array Oper) (n i:Nat) (σ:List (Nat × Value)):Option (Nat × Value) :=
 match yf ops i n with
 |some (d,op)=>match ym σ op with|some v=>some (d,v)|none=>none
 |none=>match sk ops i n with
  |some (d,op,t,b)=>match look σ t with
   |some u=>match q6 b u with
    |true=>(match jm op with|false=>some (d,undef)|true=>none)
    |false=>match ym σ op with|some v=>some (d,v)|none=>none
   |none=>none
  |none=>none
theorem Kj {ops:Array Oper} {n i d:Nat} {σ:List (Nat × Value)} {v:Value} (h:Fj ops n i σ=some (d,v)) :
  (∃ op,bG ops i n σ d op∧ym σ op=some v)∨(∃ op t b u,sk ops i n=some (d,op,t,b)∧look σ t=some u∧q6 b u=true∧jm op=false∧v=undef):=by
 unfold Fj at h
 split at h
 ·rename_i e
  split at h
  ·rename_i e2;cases h;exact .inl ⟨_,.p e,e2⟩
  ·cases h
 ·split at h
  ·rename_i t b e
   split at h
   ·rename_i u e2
    split at h
    ·rename_i bY
     split at h
     ·rename_i nv;cases h;exact .inr ⟨_,_,_,_,e,e2,bY,nv,rfl⟩
     ·cases h
    ·rename_i bY
     split at h
     ·rename_i fm
      cases h
      have hu:u=.bool b:=by
       cases u<;>simp [q6] at bY
       rw [bY]
      subst hu;exact .inl ⟨_,.g e e2,fm⟩
     ·cases h
   ·cases h
  ·cases h
def yl (ops:Array Oper) (n:Nat):Nat→List Nat→List (Nat × Value)→Option (List Nat × List (Nat × Value))
 |0,l,σ=>some (l,σ)
 |k+1,i::l,σ=>match Fj ops n i σ with|some (d,v)=>yl ops n k l ((d,v)::σ)|none=>none
 |_+1,[],_=>none
section
variable {ro:Option Nat} {P:Program} {fn:Func} {n:Nat} {R:Ending→World→Prop} {k:List Item} {D:List Deferred} {g:bk} {U:List az} {ops:Array Oper}
theorem O.q:∀ (m:Nat) {l l' :List Nat} {σ σ' :List (Nat × Value)},yl ops n m l σ=some (l',σ')→O ro P fn n R ops l' k σ' D g U→O ro P fn n R ops l k σ D g U
 |0,_,_,_,_,h,hn=>by cases h;exact hn
 |m+1,[],_,_,_,h,_=>by cases h
 |m+1,i::l,_,σ,_,h,hn=>by
  simp only [yl] at h
  split at h
  ·rename_i d v e
   have r:=O.q m h hn
   rcases Kj e with ⟨op,h1,h2⟩|⟨op,t,b,u,h1,h2,h3,h4,rfl⟩
   ·exact O.op h1 ((Fk h2).2 g U) r
   ·exact O.TO h1 h2 h3 r
  ·cases h
theorem af.q:∀ (m:Nat) {l l' :List Nat} {σ σ' :List (Nat × Value)},yl ops n m l σ=some (l',σ')→af P fn n R ops k D g l' σ' U→af P fn n R ops k D g l σ U
 |0,_,_,_,_,h,hn=>by cases h;exact hn
 |m+1,[],_,_,_,h,_=>by cases h
 |m+1,i::l,_,σ,_,h,hn=>by
  simp only [yl] at h
  split at h
  ·rename_i d v e
   have r:=af.q m h hn
   rcases Kj e with ⟨op,h1,h2⟩|⟨op,t,b,u,h1,h2,h3,h4,rfl⟩
   ·exact aI.quiet h1 (Fk (P:=P) h2).1 (fun U=>(Fk h2).2 g U) r
   ·exact aI.no h1 h4 h2 h3 r
  ·cases h
end
end Go.Sp
end
section
/- Texts of this proof. -/
namespace Go.Sp
def ag.Pure {α:Type} (T:ag α):Prop:=∀ (h:Fr) (cs:List Value) (a:α),T.rel h cs a→T.rel Fr.emp cs a
theorem AL:ag.u8.Pure:=fun _ _ _ h=>h
theorem Fb:ag.str.Pure:=fun _ _ _ h=>h
def av {α:Type} (T:ag α) (e:TypeId) (v:Value) (xs:List α):az:=fun h=>∃ ak:List (List Value),bV (T.rel Fr.emp) ak xs∧Own v T.k e xs.length ak.flatten h
theorem av.arr {α:Type} {T:ag α} {e:TypeId} {v:Value} {xs:List α} {h:Fr}:av T e v xs h→aj T h v xs
 |⟨ak,a,b⟩=>⟨ak,a.imp fun _ _=>T.mono (Fr.cV _),b.sl⟩
theorem av.shape {α:Type} {T:ag α} {e:TypeId} {v:Value} {xs:List α} {h:Fr} (x:av T e v xs h):∃ a c,v=.slice a xs.length c:=x.arr.shape
theorem av.of {α:Type} {T:ag α} {e:TypeId} {v:Value} {xs:List α} {ak:List (List Value)} {m:Nat} {cs:List Value} (ha:bV (T.rel Fr.emp) ak xs) (hm:m=xs.length) (hc:cs=ak.flatten) {k:Nat} (hk:k=T.k) :
  ∀ h,Own v k e m cs h→av T e v xs h:=by subst hm hc hk;exact fun h x=>⟨ak,ha,x⟩
theorem Gv {α:Type} {T:ag α} {f:α→List Value} (hf:∀ x,T.rel Fr.emp (f x) x):∀ xs:List α,bV (T.rel Fr.emp) (xs.map f) xs
 |[]=>trivial
 |x::xs=>⟨hf x,Gv hf xs⟩
theorem bV.one {α:Type} {T:ag α} {h:Fr}:∀ {ak:List (List Value)} {xs:List α},bV (T.rel h) ak xs→∀ c∈ak.flatten,c.oneCell' =true
 |[],[],_,c,hc=>by cases hc
 |_::_,_::_,⟨x,y⟩,c,hc=>by
  simp only [List.flatten_cons,List.mem_append] at hc
  rcases hc with hc|hc
  ·exact T.one x c hc
  ·exact bV.one y c hc
section
variable {ro:Option Nat} {P:Program} {σ σ' :List (Nat × Value)} {g:bk} {U ax ζ aO:List az} {fn:Func} {n:Nat} {R:Ending→World→Prop} {k K:List Item} {D:List Deferred} {ops:Array Oper} {i d:Nat} {l:List Nat} {t e:TypeId} {x y:Operand} {todo:List Item}
theorem bC.cr {op:Op} {Q:Value→List az→Prop} {A:az} (s:a_ U A ζ) (h:bC P op σ g (A::ζ) Q):bC P op σ g U Q:=fun o ρ w h1 h2 h3=>h o ρ w h1 h2 (h3.cr s)
theorem bC.borrow {op:Op} {Q:Value→List az→Prop} {A:az} (h:∀ m:Fr,A m→g.h.cR m→bC P op σ (g.add m) U Q):bC P op σ g (A::U) fun v ax =>∃ cT,Q v cT∧ax =A::cT :=
 fun o ρ w h1 h2 h3=>by
  obtain ⟨m,hm,hd,hw⟩:=h3.freeze;obtain ⟨v,w',cT,q,r,hw'⟩:=h m hm hd o ρ w h1 h2 hw;exact ⟨v,w',_,⟨cT,q,rfl⟩,r,hw'.oH hm hd⟩
theorem bC.nW {α:Type} {T:ag α} {cn:Nat} {z:List Value} {v u:Value} {xs ys:List α} (hT:T.Pure) (ht:P.underlying t=some (.slice e)) (he:dG P e T.k cn z) (hk:0<T.k) (hx:aA σ x=some v) (hy:aA σ y=some u)
  (hs:a_ U (av T e v xs) ζ) (hu:aj T g.h u ys) (hb:(xs.length+ys.length)*cn≤140737488355328) (h63:xs.length+ys.length≤9223372036854775807) :
  bC P (.call ⟨.builtin .append,#[x,y],#[t,t]⟩) σ g U fun v' ax =>∃ a c,v' =.slice a (xs.length+ys.length) c∧ax =av T e v' (xs++ys)::ζ:=by
 intro o ρ w h1 h2 h3
 have hw:=h3.cr hs;obtain ⟨p1,p2,p3,K,hd,s1,s2,k1,k2,kd,t1,t2,⟨ak,ha,hown⟩,hr⟩:=hw;have hw' :Holds w g (Own v T.k e xs.length ak.flatten::ζ):=⟨p1,p2,p3,K,hd,s1,s2,k1,k2,kd,t1,t2,hown,hr⟩;obtain ⟨dR,hda,fI⟩:=hu;obtain ⟨v',w',ax,kj,hrun,hh⟩:=bC.append (g:=g) ht he hk hx hy .here fI (bV.one hda) hb h63 o ρ w h1 h2 hw';subst kj;have xw :Holds w' g (av T e v' (xs++ys)::ζ):=hh.imp fun _=>Sat.fk (av.of (ak:=ak++dR) (ha.append (hda.imp fun _ _ q=>hT _ _ _ q)) (by simp) (by simp) rfl) fun _ q=>q;obtain ⟨a,c,hv⟩:∃ a c,v' =.slice a (xs.length+ys.length) c:=by
  obtain ⟨_,_,_,_,_,_,_,k1,_,_,_,_,hA,_⟩:=xw;obtain ⟨a,c,h⟩:=hA.shape;exact ⟨a,c,by simpa using h⟩
 exact ⟨v',w',_,⟨a,c,hv,rfl⟩,hrun,xw⟩
theorem bC.Ma {α:Type} {T:ag α} {cn m:Nat} {z cs:List Value} {v u:Value} {xs ys:List α} {dR:List (List Value)} (ht:P.underlying t=some (.slice e)) (he:dG P e T.k cn z) (hk:0<T.k) (hx:aA σ x=some v) (hy:aA σ y=some u)
  (hl:a_ U (Own u T.k e m cs) aO) (hs:a_ aO (av T e v xs) ζ) (hm:m=ys.length) (hc:cs=dR.flatten) (hd:bV (T.rel Fr.emp) dR ys) (hb:(xs.length+ys.length)*cn≤140737488355328) (h63:xs.length+ys.length≤9223372036854775807) :
  bC P (.call ⟨.builtin .append,#[x,y],#[t,t]⟩) σ g U fun v' ax =>∃ a c,v' =.slice a (xs.length+ys.length) c∧ax =av T e v' (xs++ys)::ζ:=by
 subst hm hc
 intro o ρ w h1 h2 h3
 obtain ⟨m,hm,hdj,hw⟩:=(h3.cr hl).freeze;have hw:=hw.cr hs;obtain ⟨p1,p2,p3,K,oe,s1,s2,k1,k2,kd,t1,t2,⟨ak,ha,hown⟩,hr⟩:=hw;have hw' :Holds w (g.add m) (Own v T.k e xs.length ak.flatten::ζ):=⟨p1,p2,p3,K,oe,s1,s2,k1,k2,kd,t1,t2,hown,hr⟩;have fI:qv (g.add m).h u T.k ys.length dR.flatten:=hm.sl.mono (Fr.dL hdj);obtain ⟨v',w',ax,kj,hrun,hh⟩:=bC.append (g:=g.add m) ht he hk hx hy .here fI (bV.one hd) hb h63 o ρ w h1 h2 hw';subst kj;have xw :Holds w' (g.add m) (av T e v' (xs++ys)::ζ):=hh.imp fun _=>Sat.fk (av.of (ak:=ak++dR) (ha.append hd) (by simp) (by simp) rfl) fun _ q=>q;obtain ⟨a,c,hv⟩:∃ a c,v' =.slice a (xs.length+ys.length) c:=by
  obtain ⟨_,_,_,_,_,_,_,k1,_,_,_,_,hA,_⟩:=xw;obtain ⟨a,c,h⟩:=hA.shape;exact ⟨a,c,by simpa using h⟩
 exact ⟨v',w',_,⟨a,c,hv,rfl⟩,hrun,(xw.oH hm hdj).drop⟩
def pY (v:Value) (k j:Nat) (p:Addr):Prop:=∃ b m c,v=.slice (some ⟨b,0,none⟩) m c∧p=⟨b,j*k,none⟩
theorem Holds.oA {α:Type} {T:ag α} {w:World} {v:Value} {xs:List α} (h:Holds w g (av T e v xs::ζ)) (hne:0<xs.length) :
  ∃ b cap cur ak,v=.slice (some ⟨b,0,none⟩) xs.length cap∧xs.length≤cap∧cap≤9223372036854775807∧cur.size=cap*T.k∧cur.toList.take (xs.length*T.k)=ak.flatten∧bV (T.rel Fr.emp) ak xs∧∃ fz,ry fz (cap*T.k)∧Holds w g (blk b (.cells cur e fz)::ζ):=by
 obtain ⟨p1,p2,p3,K,oe,s1,s2,k1,k2,kd,t1,t2,⟨ak,ha,hl,hA⟩,hr⟩:=h
 rcases hA with ⟨_,h0⟩|⟨b,cap,cur,hv,⟨fz,hb,hz⟩,h1,h2,h3,h4⟩
 ·omega
 ·exact ⟨b,cap,cur,ak,hv,h1,h2,h3,h4,ha,fz,hz,p1,p2,p3,K,oe,s1,s2,k1,k2,kd,t1,t2,hb,hr⟩
theorem bC.ot {α:Type} {T:ag α} {v:Value} {xs:List α} {j:Nat} {kd:IntKind} (ht:P.underlying t=some (.slice e)) (he:(P.info? e).map (·.size)=some T.k) (hx:aA σ x=some v) {b_:Int} (hy:aA σ y=some (.int kd b_)) (dV:b_=(j:Int))
  (hs:a_ U (av T e v xs) ζ) (hj:j<xs.length):bC P (.indexAddr t x y) σ g U fun u ax =>∃ p,u=.pointer (some p)∧pY v T.k j p∧ax =U :=
 fun o ρ w ho hk hw=>by
  subst dV;obtain ⟨b,cap,cur,ak,rfl,_⟩:=(hw.cr hs).oA (by omega);refine ⟨.pointer (some ⟨b,j*T.k,none⟩),w,U,⟨_,rfl,⟨b,_,_,rfl,rfl⟩,rfl⟩,?_,hw⟩;have e1:(⟨b,0,none⟩:Addr).add (j*T.k)=⟨b,j*T.k,none⟩:=by rw [add_lit];simp
  simp [execOp,ho,hk x _ hx,hk y _ hy,Instr.indexAt,asIntOf,run_underlying ht,hj,run_sizeOf he,e1]
theorem KW {α:Type} {T:ag α} {h:Fr} {ds:List Value} {a:α} (hd:T.rel h ds a):∀ {ak:List (List Value)} {xs:List α} (j:Nat),bV (T.rel h) ak xs→j<xs.length →
  bV (T.rel h) (ak.set j ds) (xs.set j a)∧(ak.set j ds).flatten=ak.flatten.take (j*T.k)++ds++ak.flatten.drop (j*T.k+T.k)
 |[],[],_,_,hj=>by simp at hj
 |c::ak,x::xs,0,⟨hc,hr⟩,_=>by
  have eb:=T.len hc;refine ⟨⟨hd,hr⟩,?_⟩
  simp [eb]
 |c::ak,x::xs,j+1,⟨hc,hr⟩,hj=>by
  have eb:=T.len hc;obtain ⟨h1,h2⟩:=KW hd j hr (by simpa using hj);refine ⟨⟨hc,h1⟩,?_⟩;have e1:(c++ak.flatten).take ((j+1)*T.k)=c++ak.flatten.take (j*T.k):=by
   rw [Nat.succ_mul,List.take_append,List.take_of_length_le (l:=c) (by omega)]
   congr 2;omega
  have e2:(c++ak.flatten).drop ((j+1)*T.k+T.k)=ak.flatten.drop (j*T.k+T.k):=by
   rw [Nat.succ_mul,List.drop_append,List.drop_of_length_le (l:=c) (by omega),List.nil_append]
   congr 1;omega
  simp only [List.set_cons_succ,List.flatten_cons,h2];rw [e1,e2]
  simp
theorem ku.rj {α:Type} {T:ag α} {v u:Value} {xs:List α} {j:Nat} {p:Addr} {a:α} (hsz:(P.info? t).map (·.size)=some T.k) (hx:aA σ x=some (.pointer (some p))) (hp:pY v T.k j p) (hy:aA σ y=some u)
  (hs:a_ U (av T e v xs) ζ) (hj:j<xs.length) (hu:T.rel Fr.emp u.cells.toList a):ku P (.store t x y) σ g U (av T e v (xs.set j a)::ζ) :=
 fun o ρ w ho hk hw=>by
  obtain ⟨b,cap,cur,ak,rfl,h1,h2,h3,h4,ha,fz,hfz,jS⟩:=(hw.cr hs).oA (by omega);obtain ⟨b',m',c',he,rfl⟩:=hp
  cases he
  have om:u.cells.toList.length=T.k:=T.len hu;have hjm:j*T.k+T.k≤xs.length*T.k:=by rw [← Nat.succ_mul];exact Nat.mul_le_mul_right _ hj
  have zT:xs.length*T.k≤cur.size:=by rw [h3];exact Nat.mul_le_mul_right _ h1
  have hst:=sx P b (j*T.k) e hfz u.cells.toList 0 cur w jS.block (by omega) (by omega) (T.one hu);simp only [Nat.add_zero,om] at hst;obtain ⟨q1,q2⟩:=KW hu j ha hj;refine ⟨w.setRow b (cur.toList.take (j*T.k)++u.cells.toList++cur.toList.drop (j*T.k+T.k)).toArray,?_,?_⟩
  ·have hc:u.cells.size=T.k:=by rw [← om];simp
   simp only [List.append_assoc] at hst ⊢
   simp [execOp,ho,hk x _ hx,hk y _ hy,Instr.storeAt,Instr.sureAddr,storeVar,run_sizeOf hsz,hc,hst]
  ·refine (jS.setRow.ua hfz (k:=T.k) (m:=xs.length) (cap:=cap) (cs:=(ak.set j u.cells.toList).flatten) h1 h2 ?_ ?_).imp fun _=>Sat.fk (av.of q1 (by simp) rfl rfl) fun _ q=>q
   ·simp only [List.size_toArray,List.length_append,List.length_take,List.length_drop,Array.length_toList,om]
    omega
   ·rw [q2,← h4]
    have l1:(cur.toList.take (j*T.k)).length=j*T.k:=by simp;omega
    simp only [List.append_assoc];rw [List.take_append,l1,List.take_take,Nat.min_eq_right (by omega),List.take_append,om,List.take_take,Nat.min_eq_left (by omega)];rw [List.take_of_length_le (l:=u.cells.toList) (by omega)]
    congr 2
    rw [List.drop_take]
    congr 1
    omega
theorem aF.JE {α:Type} {T:ag α} {v:Value} {xs:List α} {j:Nat} {p:Addr} {u:Value} (ht:dU P t=true) (hx:aA σ x=some (.pointer (some p))) (hp:pY v T.k j p) (oh:T.k=1)
  (hs:a_ U (av T e v xs) ζ) (hj:j<xs.length) (hu:∀ cs,T.rel Fr.emp cs xs[j]→cs=[u]):aF P (.load t x) σ g U u U :=
 fun o ρ w ho hk hw=>⟨w,by
  obtain ⟨b,cap,cur,ak,rfl,h1,h2,h3,h4,ha,fz,hfz,jS⟩:=(hw.cr hs).oA (by omega);obtain ⟨b',m',c',he,rfl⟩:=hp
  cases he
  have zR:j<ak.length:=by rw [ha.length];exact hj
  have hg:=ha.s8 j zR;rw [hu _ (ha.get j zR hj),← h4,oh] at hg;have hb0:=jS.block;have hc:w.cell? ⟨b,j*T.k,none⟩=some u:=by
   rw [oh];simp only [World.cell?,hb0];have:(List.take 1 (List.drop (j*1) (cur.toList.take (xs.length*1))))[0]?=some u:=by rw [hg];rfl
   rw [List.getElem?_take_of_lt (by omega),List.getElem?_drop,List.getElem?_take_of_lt (by omega)] at this
   simpa using this
  simp [execOp,ho,hk x _ hx,Instr.loadAt,Instr.sureAddr,loadVar,sw (rL ht),hc],hw⟩
theorem AV {α:Type} {T:ag α} {z:List Value} {a:α} (hz:T.rel Fr.emp z a):∀ m:Nat,∃ ak,bV (T.rel Fr.emp) ak (List.replicate m a)∧ak.flatten=fe z m
 |0=>⟨[],trivial,rfl⟩
 |m+1=>let ⟨ak,h1,h2⟩:=AV hz m;⟨z::ak,⟨hz,h1⟩,by simp [fe,h2]⟩
theorem bC.Am {α:Type} {T:ag α} {cn:Nat} {z:List Value} (a:α) {m:Nat} {kx ky:IntKind} {yL yM:Int} (ht:P.underlying t=some (.slice e)) (he:dG P e T.k cn z) (hk:0<T.k) (hz:T.rel Fr.emp z a)
  (hx:aA σ x=some (.int kx yL)) (hy:aA σ y=some (.int ky yM)) (Ev:yL=(m:Int)) (Ew:yM=(m:Int)) (hb:cn*m≤281474976710656) (h63:m≤9223372036854775807) :
  bC P (.makeSlice t x y) σ g U fun v ax =>∃ a' c,v=.slice a' m c∧ax =av T e v (List.replicate m a)::U:=by
 subst Ev Ew
 intro o ρ w h1 h2 h3
 obtain ⟨v,w',ax,kj,hrun,hw⟩:=bC.make (g:=g) (U:=U) ht he hk hx hy hb h63 o ρ w h1 h2 h3;subst kj;obtain ⟨ak,q1,q2⟩:=AV hz m;have hh:Holds w' g (av T e v (List.replicate m a)::U):=hw.imp fun _=>Sat.fk (av.of q1 (by simp) q2.symm rfl) fun _ q=>q;obtain ⟨a',c,hv⟩:∃ a' c,v=.slice a' m c:=by
  obtain ⟨_,_,_,_,_,_,_,k1,_,_,_,_,hA,_⟩:=hh;obtain ⟨a',c,h⟩:=hA.shape;exact ⟨a',c,by simpa using h⟩
 exact ⟨v,w',_,⟨a',c,hv,rfl⟩,hrun,hh⟩
theorem bC.JH {α:Type} {T:ag α} {cn:Nat} {z:List Value} {c:Nat} {kx ky:IntKind} {yL yM:Int} (ht:P.underlying t=some (.slice e)) (he:dG P e T.k cn z)
  (hx:aA σ x=some (.int kx yL)) (hy:aA σ y=some (.int ky yM)) (Ev:yL=0) (Ew:yM=(c:Int)) (hb:cn*c≤281474976710656) (h63:c≤9223372036854775807) :
  bC P (.makeSlice t x y) σ g U fun v ax =>∃ a' c,v=.slice a' 0 c∧ax =av T e v []::U:=by
 subst Ev Ew
 intro o ρ w h1 h2 h3
 obtain ⟨v,w',ax,kj,hrun,hw⟩:=bC.Te (g:=g) (U:=U) ht he hx hy hb h63 o ρ w h1 h2 h3;subst kj;have hh:Holds w' g (av T e v []::U):=hw.imp fun _=>Sat.fk (av.of (T:=T) (xs:=[]) (ak:=[]) trivial (by simp) rfl rfl) fun _ q=>q;obtain ⟨a',c,hv⟩:∃ a' c,v=.slice a' 0 c:=by
  obtain ⟨_,_,_,_,_,_,_,k1,_,_,_,_,hA,_⟩:=hh;obtain ⟨a',c,h⟩:=hA.shape;exact ⟨a',c,by simpa using h⟩
 exact ⟨v,w',_,⟨a',c,hv,rfl⟩,hrun,hh⟩
theorem bC.ct {α:Type} {T:ag α} {cn len:Nat} {z:List Value} {parts:Array (Nat × Operand)} {vs:List Value} {ys:List α} (ht:P.underlying t=some (.slice e)) (he:dG P e T.k cn z) (hk:0<T.k)
  (hp:partsOf σ parts.toList 0=some vs) (hlen:parts.toList.length=len) (hvs:bV (T.rel Fr.emp) (vs.map (·.cells.toList)) ys) (gy:len*T.k≤16777216) :
  bC P (.buildSlice t len parts) σ g U fun v ax =>∃ a c,v=.slice a len c∧ax =av T e v ys::U:=by
 intro o ρ w h1 h2 h3
 have hl:vs.length=len:=by rw [E9 _ _ _ hp,hlen]
 have oq:ys.length=len:=by rw [← hvs.length,List.length_map,hl]
 have hall:vs.all (fun v=>Nat.beq v.cells.size T.k)=true:=by
  rw [List.all_eq_true]
  intro v hv
  obtain ⟨i,hi,rfl⟩:=List.mem_iff_getElem.1 hv;have:=T.len (hvs.get i (by simpa using hi) (by omega));have hs:vs[i].cells.size=T.k:=by simpa using this
  rw [hs];exact Nat.beq_refl _
 obtain ⟨v,w',ax,kj,hrun,hw⟩:=bC.lit (g:=g) (U:=U) ht he hk hp hlen hall gy o ρ w h1 h2 h3;subst kj;have hh:Holds w' g (av T e v ys::U):=hw.imp fun _=>Sat.fk (av.of hvs oq.symm rfl rfl) fun _ q=>q;obtain ⟨a',c,hv⟩:∃ a' c,v=.slice a' len c:=by
  obtain ⟨_,_,_,_,_,_,_,k1,_,_,_,_,hA,_⟩:=hh;obtain ⟨a',c,h⟩:=hA.shape;exact ⟨a',c,by simpa [oq] using h⟩
 exact ⟨v,w',_,⟨a',c,hv,rfl⟩,hrun,hh⟩
theorem bC.gT {α:Type} {T:ag α} {cn:Nat} {z:List Value} {v u:Value} {xs ys:List α} (ht:P.underlying t=some (.slice e)) (he:dG P e T.k cn z) (hk:0<T.k) (hx:aA σ x=some v) (hy:aA σ y=some u)
  (hl:a_ U (av T e u ys) aO) (hs:a_ aO (av T e v xs) ζ) (hb:(xs.length+ys.length)*cn≤140737488355328) (h63:xs.length+ys.length≤9223372036854775807) :
  bC P (.call ⟨.builtin .append,#[x,y],#[t,t]⟩) σ g U fun v' ax =>∃ a c,v' =.slice a (xs.length+ys.length) c∧ax =av T e v' (xs++ys)::ζ:=by
 intro o ρ w h1 h2 h3
 obtain ⟨p1,p2,p3,K,oe,s1,s2,k1,k2,kd,t1,t2,⟨ak,ha,hown⟩,hr⟩:=h3.cr hl;have hw' :Holds w g (Own u T.k e ys.length ak.flatten::aO):=⟨p1,p2,p3,K,oe,s1,s2,k1,k2,kd,t1,t2,hown,hr⟩;exact bC.Ma (g:=g) ht he hk hx hy .here hs rfl rfl ha hb h63 o ρ w h1 h2 hw'
theorem AB {α:Type} {T:ag α}:∀ h,av T e (.slice none 0 0) ([]:List α) h:=fun _=>⟨[],trivial,by simp,.inl ⟨rfl,rfl⟩⟩
theorem S.gh {α:Type} {T:ag α} (h:S ro P fn n R todo σ D g (av T e (.slice none 0 0) ([]:List α)::U)):S ro P fn n R todo σ D g U :=
 S.imp (ax :=av T e (.slice none 0 0) ([]:List α)::U) (fun m hm=>⟨Fr.emp,m,Fr.dZ _,Fr.cV _,Fr.bU _,AB _,hm⟩) h
end
end Go.Sp
end
end
