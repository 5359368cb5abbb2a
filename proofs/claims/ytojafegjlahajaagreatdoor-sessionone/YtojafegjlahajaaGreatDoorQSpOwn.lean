/- Texts of this proof, one behind the other. -/
import Derived.Test.YtojafegjlahajaaGreatDoorQSpDraw
import Derived.WalkSpells
set_option linter.unusedSectionVars false
section
/- Texts of this proof, one behind the other. -/
section
/- Texts of this proof. -/
namespace Go.Sp
def bY {α β:Type} (R:β→α→Prop):List β→List α→Prop
 |[],[]=>True
 |b::bs,a::as=>R b a∧bY R bs as
 |_,_=>False
theorem bY.imp {α β:Type} {R S:β→α→Prop} (h:∀ b a,R b a→S b a):∀ {bs:List β} {as:List α},bY R bs as→bY S bs as
 |[],[],_=>trivial
 |_::_,_::_,⟨x,y⟩=>⟨h _ _ x,bY.imp h y⟩
theorem bY.length {α β:Type} {R:β→α→Prop}:∀ {bs:List β} {as:List α},bY R bs as→bs.length=as.length
 |[],[],_=>rfl
 |_::_,_::_,⟨_,y⟩=>by simp [bY.length y]
theorem bY.get {α β:Type} {R:β→α→Prop}:∀ {bs:List β} {as:List α} (_:bY R bs as) (i:Nat) (hb:i<bs.length) (ha:i<as.length),R bs[i] as[i]
 |_::_,_::_,⟨x,_⟩,0,_,_=>x
 |_::_,_::_,⟨_,y⟩,i+1,hb,ha=>bY.get y i (by simpa using hb) (by simpa using ha)
theorem bY.append {α β:Type} {R:β→α→Prop}:∀ {bs cs:List β} {as ds:List α},bY R bs as→bY R cs ds→bY R (bs++cs) (as++ds)
 |[],_,[],_,_,h=>h
 |_::_,_,_::_,_,⟨x,y⟩,h=>⟨x,bY.append y h⟩
theorem bY.drop {α β:Type} {R:β→α→Prop}:∀ {bs:List β} {as:List α} (n:Nat),bY R bs as→bY R (bs.drop n) (as.drop n)
 |_,_,0,h=>h
 |[],[],_+1,_=>trivial
 |_::_,_::_,n+1,⟨_,y⟩=>bY.drop n y
theorem bY.take {α β:Type} {R:β→α→Prop}:∀ {bs:List β} {as:List α} (n:Nat),bY R bs as→bY R (bs.take n) (as.take n)
 |_,_,0,_=>trivial
 |[],[],_+1,_=>trivial
 |_::_,_::_,n+1,⟨x,y⟩=>⟨x,bY.take n y⟩
structure ag (α:Type) where
 k:Nat
 rel:Fr→List Value→α→Prop
 len:∀ {h:Fr} {cs:List Value} {a:α},rel h cs a→cs.length=k
 mono:∀ {h h' :Fr} {cs:List Value} {a:α},h.sub h' →rel h cs a→rel h' cs a
 one:∀ {h:Fr} {cs:List Value} {a:α},rel h cs a→∀ c∈cs,c.oneCell' =true
def aj {α:Type} (T:ag α) (h:Fr) (v:Value) (xs:List α):Prop:=∃ ak:List (List Value),bY (T.rel h) ak xs∧p_ h v T.k xs.length ak.flatten
section
variable {α:Type} {T:ag α} {h:Fr} {v:Value} {xs:List α}
theorem aj.mono {h' :Fr} (s:h.sub h'):aj T h v xs→aj T h' v xs
 |⟨ak,a,b⟩=>⟨ak,a.imp fun _ _=>T.mono s,b.mono s⟩
theorem aj.shape:aj T h v xs→∃ a c,v=.slice a xs.length c
 |⟨_,_,a,c,hv,_⟩=>⟨a,c,hv⟩
theorem aj.bound:aj T h v xs→xs.length≤9223372036854775807
 |⟨_,_,b⟩=>b.bound
theorem bY.sM {ak:List (List Value)} (ha:bY (T.rel h) ak xs) (i:Nat):ak.flatten.take (i*T.k)=(ak.take i).flatten:=by
 induction i generalizing ak xs with
 |zero=>simp
 |succ i ih =>
  cases ak with
  |nil=>simp
  |cons c ak =>
   cases xs with
   |nil=>exact ha.elim
   |cons x xs =>
    have hc:c.length=T.k:=T.len ha.1;simp only [List.flatten_cons,List.take_succ_cons];rw [Nat.succ_mul,List.take_append,List.take_of_length_le (by omega),show i*T.k+T.k - c.length=i*T.k from by omega,ih ha.2]
theorem bY.yS {ak:List (List Value)} (ha:bY (T.rel h) ak xs) (i:Nat):ak.flatten.drop (i*T.k)=(ak.drop i).flatten:=by
 induction i generalizing ak xs with
 |zero=>simp
 |succ i ih =>
  cases ak with
  |nil=>simp
  |cons c ak =>
   cases xs with
   |nil=>exact ha.elim
   |cons x xs =>
    have hc:c.length=T.k:=T.len ha.1;simp only [List.flatten_cons,List.drop_succ_cons];rw [Nat.succ_mul,List.drop_append,List.drop_eq_nil_of_le (by omega),List.nil_append,show i*T.k+T.k - c.length=i*T.k from by omega,ih ha.2]
theorem bY.sL {ak:List (List Value)} (ha:bY (T.rel h) ak xs) (i:Nat) (hi:i<ak.length):(ak.flatten.drop (i*T.k)).take T.k=ak[i]:=by
 rw [ha.yS,List.drop_eq_getElem_cons hi,List.flatten_cons,List.take_append];have hc:ak[i].length=T.k:=T.len (ha.get i hi (by rw [← ha.length];exact hi));rw [List.take_of_length_le (by omega),hc];simp
end
section
variable {ro:Option Nat} {P:Program} {σ:List (Nat × Value)} {g:bh} {U ζ:List az} {fn:Func} {n:Nat} {R:Ending→World→Prop} {K:List Item} {D:List Deferred} {ops:Array Oper} {i d:Nat} {l:List Nat}
 {t e:TypeId} {x y:Operand} {v:Value} {kd:IntKind} {j:Nat}
theorem Iu {α:Type} {T:ag α} {xs:List α} (ht:P.underlying t=some (.slice e)) (he:(P.info? e).map (·.size)=some T.k) (hx:aA σ x=some v) {cA:Int} (hy:aA σ y=some (.int kd cA)) (ev:cA=(j:Int))
  (hs:aj T g.h v xs) (jk:0<T.k) (hm:j<xs.length):∃ p cs,(∀ U,aD P (.indexAddr t x y) σ g U (.pointer (some p)) U)∧At g.h p cs∧T.rel g.h cs xs[j]:=by
 subst ev;obtain ⟨ak,ha,fD⟩:=hs;obtain ⟨a,cap,rfl,h1,h2,h3,h4⟩:=fD
 cases a with
 |none =>
  have:0<ak.flatten.length:=by rw [h3];exact Nat.mul_pos (by omega) jk
  obtain ⟨p,hp,_⟩:=h4 0 this
  cases hp
 |some a =>
  have hj:j<ak.length:=by rw [ha.length];exact hm
  refine ⟨a.add (j*T.k),ak[j],fun U=>.run fun o ρ w ho hk=>?_,?_,ha.get j hj hm⟩
  ·have hij:(j:Int)<(xs.length:Int):=by omega
   simp [execOp,ho,hk x _ hx,hk y _ hy,Instr.indexAt,asIntOf,run_underlying ht,hm,run_sizeOf he]
  ·rw [← ha.sL j hj]
   intro q hq
   rw [Addr.add_add];have w5 :j*T.k+q<ak.flatten.length:=by simp only [List.length_take,List.length_drop] at hq;omega
   obtain ⟨p,hp,hc⟩:=h4 _ w5
   cases hp
   rw [hc];simp
theorem O.idx' {α:Type} {T:ag α} {xs:List α} (ho:bJ ops i n σ d (.indexAddr t x y)) (ht:P.underlying t=some (.slice e)) (he:(P.info? e).map (·.size)=some T.k) (hx:aA σ x=some v)
  {cA:Int} (hy:aA σ y=some (.int kd cA)) (ev:cA=(j:Int)) (hs:aj T g.h v xs) (jk:0<T.k) (hm:j<xs.length)
  (h:∀ p cs,At g.h p cs→T.rel g.h cs xs[j]→O ro P fn n R ops l K ((d,.pointer (some p))::σ) D g U):O ro P fn n R ops (i::l) K σ D g U:=by
 obtain ⟨p,cs,h1,h2,h3⟩:=Iu ht he hx hy ev hs jk hm;exact O.op ho (h1 U) (h p cs h2 h3)
theorem af.idx' {α:Type} {T:ag α} {xs:List α} (ho:bJ ops i n σ d (.indexAddr t x y)) (ht:P.underlying t=some (.slice e)) (he:(P.info? e).map (·.size)=some T.k) (hx:aA σ x=some v)
  {cA:Int} (hy:aA σ y=some (.int kd cA)) (ev:cA=(j:Int)) (hs:aj T g.h v xs) (jk:0<T.k) (hm:j<xs.length)
  (h:∀ p cs,At g.h p cs→T.rel g.h cs xs[j]→af P fn n R ops K D g l ((d,.pointer (some p))::σ) U):af P fn n R ops K D g (i::l) σ U:=by
 obtain ⟨p,cs,h1,h2,h3⟩:=Iu ht he hx hy ev hs jk hm;exact .quiet ho rfl h1 (h p cs h2 h3)
theorem x5 {α:Type} {T:ag α} {xs:List α} {r:Fr} {lo hi:Option Operand} {a b:Nat} {kl kh:IntKind} (ht:P.underlying t=some (.slice e)) (he:(P.info? e).map (·.size)=some T.k) (hx:aA σ x=some v)
  (hlo:∀ y,lo=some y→aA σ y=some (.int kl (a:Int))) (zj :lo=none→a=0) (hhi:∀ y,hi=some y→aA σ y=some (.int kh (b:Int))) (wQ :hi=none→b=xs.length)
  (hs:aj T r v xs) (hab:a≤b) (hb:b≤xs.length):∃ u,(∀ U,aD P (.slice t x lo hi none) σ g U u U)∧aj T r u ((xs.take b).drop a):=by
 obtain ⟨ak,ha,fD⟩:=hs;obtain ⟨ad,cap,rfl,h1,h2,h3,h4⟩:=fD;refine ⟨.slice (if cap=a then ad else ad.map (·.add (a*T.k))) (b - a) (cap - a),fun U=>.run fun o ρ w ho hk=>?_,(ak.take b).drop a,(ha.take b).drop a,?_⟩
 ·have e1:(a:Int)≤(b:Int):=by omega
  have e2:(b:Int)≤(cap:Int):=by omega
  have hl0:lo=none→a=0:=zj
  cases lo with
  |none =>
   have:=zj rfl;subst this
   cases hi with
   |none=>have:=wQ rfl;subst this;simp [execOp,ho,hk x _ hx,Instr.sliceAt,run_underlying ht,Instr.slice,Instr.sliceBounds,run_sizeOf he]
   |some y =>
    have hb' :b≤cap:=by omega
    simp [execOp,ho,hk x _ hx,hk y _ (hhi y rfl),Instr.sliceAt,run_underlying ht,Instr.slice,Instr.sliceBounds,Instr.sliceBound,asIntOf,hb',run_sizeOf he]
  |some z =>
   cases hi with
   |none=>have:=wQ rfl;subst this;simp [execOp,ho,hk x _ hx,hk z _ (hlo z rfl),Instr.sliceAt,run_underlying ht,Instr.slice,Instr.sliceBounds,Instr.sliceBound,asIntOf,hab,run_sizeOf he]
   |some y =>
    have hb' :b≤cap:=by omega
    simp [execOp,ho,hk x _ hx,hk z _ (hlo z rfl),hk y _ (hhi y rfl),Instr.sliceAt,run_underlying ht,Instr.slice,Instr.sliceBounds,Instr.sliceBound,asIntOf,hab,hb',run_sizeOf he]
 ·have hlen:((xs.take b).drop a).length=b - a:=by simp;omega
  have hcs:((ak.take b).drop a).flatten=(ak.flatten.take (b*T.k)).drop (a*T.k):=by
   rw [ha.sM b,(ha.take b).yS a]
  refine ⟨_,cap - a,by rw [hlen],by omega,⟨by omega,fun h=>?_⟩,?_,?_⟩
  ·cases ad with
   |none=>have:=h2.2 rfl;omega
   |some ad=>simp only [Option.map_some] at h;split at h<;>cases h
  ·rw [hcs,hlen,List.length_drop,List.length_take,h3,Nat.sub_mul,Nat.min_eq_left (Nat.mul_le_mul_right _ hb)]
  ·intro q hq
   rw [hcs] at hq;have tf:a*T.k+q<ak.flatten.length:=by simp only [List.length_take,List.length_drop] at hq;omega
   obtain ⟨p,rfl,hc⟩:=h4 _ tf;have hne:cap≠a:=by
    rintro rfl;have:ak.flatten.length≤cap*T.k:=by rw [h3];exact Nat.mul_le_mul_right _ (by omega)
    omega
   refine ⟨p.add (a*T.k),by simp [hne],?_⟩;rw [Addr.add_add,hc]
   simp [hcs]
end
section
variable {ro:Option Nat} {P:Program} {σ:List (Nat × Value)} {g:bh} {U ζ:List az} {fn:Func} {n:Nat} {R:Ending→World→Prop} {K:List Item} {D:List Deferred} {ops:Array Oper} {i d:Nat} {l:List Nat}
 {t e:TypeId} {x y z:Operand} {v:Value} {ka kb:IntKind} {p9 nG:Int} {a b:Nat} {α:Type} {T:ag α} {xs:List α} {r:Fr}
theorem O.sliceTo (ho:bJ ops i n σ d (.slice t x none (some y) none)) (ht:P.underlying t=some (.slice e)) (he:(P.info? e).map (·.size)=some T.k) (hx:aA σ x=some v) (hy:aA σ y=some (.int kb nG)) (hs:aj T r v xs) (hz:nG=(b:Int)) (hb:b≤xs.length)
  (h:∀ u,aj T r u (xs.take b)→O ro P fn n R ops l K ((d,u)::σ) D g U):O ro P fn n R ops (i::l) K σ D g U:=by
 subst hz;obtain ⟨u,h1,h2⟩:=x5 (g:=g) (a:=0) (b:=b) (kl:=.i64) ht he hx (lo:=none) (hi:=some y) (fun _ h=>nomatch h) (fun _=>rfl) (fun _ h=>by cases h;exact hy) (fun h=>nomatch h) hs (Nat.zero_le _) hb;exact O.op ho (h1 U) (h u h2)
theorem O.sliceFrom (ho:bJ ops i n σ d (.slice t x (some y) none none)) (ht:P.underlying t=some (.slice e)) (he:(P.info? e).map (·.size)=some T.k) (hx:aA σ x=some v) (hy:aA σ y=some (.int ka p9)) (hs:aj T r v xs) (hz:p9=(a:Int)) (ha:a≤xs.length)
  (h:∀ u,aj T r u (xs.drop a)→O ro P fn n R ops l K ((d,u)::σ) D g U):O ro P fn n R ops (i::l) K σ D g U:=by
 subst hz;obtain ⟨u,h1,h2⟩:=x5 (g:=g) (a:=a) (b:=xs.length) (kh:=.i64) ht he hx (lo:=some y) (hi:=none) (fun _ h=>by cases h;exact hy) (fun h=>nomatch h) (fun _ h=>nomatch h) (fun _=>rfl) hs ha (Nat.le_refl _);exact O.op ho (h1 U) (h u (by rw [List.take_length] at h2;exact h2))
theorem O.UD (ho:bJ ops i n σ d (.slice t x (some y) (some z) none)) (ht:P.underlying t=some (.slice e)) (he:(P.info? e).map (·.size)=some T.k) (hx:aA σ x=some v) (hy:aA σ y=some (.int ka p9)) (hz:aA σ z=some (.int kb nG)) (hs:aj T r v xs) (h1:p9=(a:Int)) (h2:nG=(b:Int)) (hab:a≤b) (hb:b≤xs.length)
  (h:∀ u,aj T r u ((xs.take b).drop a)→O ro P fn n R ops l K ((d,u)::σ) D g U):O ro P fn n R ops (i::l) K σ D g U:=by
 subst h1;subst h2;obtain ⟨u,h1,h2⟩:=x5 (g:=g) (a:=a) (b:=b) ht he hx (lo:=some y) (hi:=some z) (fun _ h=>by cases h;exact hy) (fun h=>nomatch h) (fun _ h=>by cases h;exact hz) (fun h=>nomatch h) hs hab hb;exact O.op ho (h1 U) (h u h2)
end
def bH (b:UInt8):Value:=.int .u8 b.toNat
def str (xs:List UInt8):ByteArray:=⟨xs.toArray⟩
@[simp] theorem Kr (xs:List UInt8):(str xs).toList=xs:=by rw [ByteArray.toList_eq];rfl
@[simp] theorem si (xs:List UInt8):(str xs).size=xs.length:=by simp [str,ByteArray.size]
def ag.u8:ag UInt8:={ k:=1,rel:=fun _ cs b=>cs=[bH b],len:=fun h=>by rw [h];rfl,mono:=fun _ h=>h,one:=fun h c hc=>by subst h;simp at hc;subst hc;rfl }
def cE (z:Int):Prop:= -9223372036854775808≤z∧z≤9223372036854775807
def ag.i64:ag Int:={ k:=1,rel:=fun _ cs z=>cs=[.int .i64 z]∧cE z,len:=fun h=>by rw [h.1];rfl,mono:=fun _ h=>h,one:=fun h c hc=>by rw [h.1] at hc;simp at hc;subst hc;rfl }
def ag.bool:ag Bool:={ k:=1,rel:=fun _ cs b=>cs=[.bool b],len:=fun h=>by rw [h];rfl,mono:=fun _ h=>h,one:=fun h c hc=>by subst h;simp at hc;subst hc;rfl }
def ag.str:ag (List UInt8):={ k:=1,rel:=fun _ cs s=>cs=[.string (Go.Sp.str s)]∧s.length≤9223372036854775807,len:=fun h=>by rw [h.1];rfl,mono:=fun _ h=>h,one:=fun h c hc=>by rw [h.1] at hc;simp at hc;subst hc;rfl }
def ag.slice {α:Type} (T:ag α):ag (List α):={ k:=1,rel:=fun h cs xs=>∃ v,cs=[v]∧aj T h v xs,len:=fun ⟨_,h,_⟩=>by rw [h];rfl,mono:=fun s ⟨v,h,a⟩=>⟨v,h,a.mono s⟩,one:=fun ⟨v,h,a⟩ c hc=>by subst h;simp at hc;subst hc;obtain ⟨_,_,rfl⟩:=a.shape;rfl }
def ag.val:ag Value:={ k:=1,rel:=fun _ cs v=>cs=[v]∧v.oneCell' =true,len:=fun h=>by rw [h.1];rfl,mono:=fun _ h=>h,one:=fun h c hc=>by rw [h.1] at hc;simp at hc;subst hc;exact h.2 }
def ag.cells (k:Nat):ag (List Value):={ k:=k,rel:=fun _ cs c=>cs=c∧c.length=k∧∀ v∈c,v.oneCell' =true,len:=fun h=>by rw [h.1];exact h.2.1,mono:=fun _ h=>h,one:=fun h c hc=>by rw [h.1] at hc;exact h.2.2 c hc }
theorem aj.rows {α:Type} {T:ag α} {h:Fr} {v:Value} {vs:List Value} {xss:List (List α)} (hv:aj ag.val h v vs) (ha:bY (aj T h) vs xss):aj (ag.slice T) h v xss:=by
 obtain ⟨ak,h1,h2⟩:=hv;refine ⟨ak,?_,by rw [← ha.length];exact h2⟩;clear h2
 induction ak generalizing vs xss with
 |nil=>cases vs with
  |nil=>cases xss with
   |nil=>trivial
   |cons _ _=>exact ha.elim
  |cons _ _=>exact h1.elim
 |cons c ak ih=>cases vs with
  |nil=>exact h1.elim
  |cons v vs=>cases xss with
   |nil=>exact ha.elim
   |cons x xss=>exact ⟨⟨v,h1.1.1,ha.1⟩,ih ha.2 h1.2⟩
theorem aj.nil {α:Type} {T:ag α} {h:Fr}:aj T h (.slice none 0 0) ([]:List α):=⟨[],trivial,none,0,rfl,Nat.le_refl _,⟨by omega,fun _=>rfl⟩,by simp,fun j hj=>by simp at hj⟩
theorem aj.xF {α:Type} {T:ag α} {h:Fr} {m c:Nat} {xs:List α} (hk:0<T.k):aj T h (.slice none m c) xs→xs=[]∧m=0∧c=0
 |⟨ak,h1,a,c',h2,_,hc,h5,h6⟩=>by
  cases h2
  refine ⟨?_,?_,hc.2 rfl⟩
  rotate_left
  ·have:=hc.2 rfl;omega
  cases xs with
  |nil=>rfl
  |cons x xs =>
   have:0<ak.flatten.length:=by rw [h5];exact Nat.mul_pos (by simp) hk
   obtain ⟨p,hp,_⟩:=h6 0 this
   cases hp
end Go.Sp
end
section
/- Texts of this proof. -/
namespace Go.Sp
section
variable {ro:Option Nat} {P:Program} {σ σ' :List (Nat × Value)} {g:bh} {U ax ζ:List az} {fn:Func} {n:Nat} {R:Ending→World→Prop} {k K:List Item} {D:List Deferred} {ops:Array Oper} {i d:Nat} {l:List Nat} {t e:TypeId} {x y:Operand} {todo:List Item}
theorem aD.loadAt {p:Addr} {cs:List Value} {v:Value} (ht:dR P t=true) (hx:aA σ x=some (.pointer (some p))) (hp:At g.h p cs) (hv:cs[0]?=some v):aD P (.load t x) σ g U v U :=
 .load ht hx (by have:=hp.at hv;rwa [Addr.add_zero] at this)
theorem bE.imp {op:Op} {A B:Value→List az→Prop} (h:bE P op σ g U A) (hab:∀ v ax,A v ax →B v ax):bE P op σ g U B :=
 fun o ρ w h1 h2 h3=>let ⟨v,w',ax,a,b,c⟩:=h o ρ w h1 h2 h3;⟨v,w',ax,hab _ _ a,b,c⟩
theorem S.fT {ι:Type} {c:Code} (φ:ι→Prop) (σs:ι→List (Nat × Value)) (keep:List (Nat × Value)) (ix:ι→List az) (μ:ι→Nat) (iw:ι) (h₀:φ iw) (qE:Sub (σs iw) σ) (hk:Sub keep σ) (j0:U=ix iw)
  (round:∀ x,φ x→(∀ y,φ y→μ y<μ x→S ro P fn n R (.inLoop c::k) (σs y++keep) D g (ix y))→S ro P fn n R (.code c::.inLoop c::k) (σs x++keep) D g (ix x)) :
  S ro P fn n R (.code (.loop c)::k) σ D g U:=by
 refine S.loop φ (fun x=>σs x++keep) ix μ iw h₀ ?_ j0 round
 intro t v hv
 have:∀ (l:List (Nat × Value)),look (l++keep) t=some v→look l t=some v∨look keep t=some v:=by
  intro l
  induction l with
  |nil=>exact .inr
  |cons p l ih =>
   intro h
   obtain ⟨s,u⟩:=p;simp only [List.cons_append,look] at h ⊢
   split at h
   ·exact .inl h
   ·exact ih h
 rcases this _ hv with h|h
 ·exact qE t v h
 ·exact hk t v h
theorem S.jG {ι dB:Type} {c:Code} (φ:ι→dB→Prop) (σs:ι→dB→List (Nat × Value)) (keep:List (Nat × Value)) (ix:ι→dB→List az) (μ:ι→dB→Nat) (iw:ι) (mN:dB) (h₀:φ iw mN) (qE:Sub (σs iw mN) σ) (hk:Sub keep σ) (j0:U=ix iw mN)
  (round:∀ x y,φ x y→(∀ x' y',φ x' y' →μ x' y' <μ x y→S ro P fn n R (.inLoop c::k) (σs x' y' ++keep) D g (ix x' y'))→S ro P fn n R (.code c::.inLoop c::k) (σs x y++keep) D g (ix x y)) :
  S ro P fn n R (.code (.loop c)::k) σ D g U :=
 S.fT (ι:=ι × dB) (fun p=>φ p.1 p.2) (fun p=>σs p.1 p.2) keep (fun p=>ix p.1 p.2) (fun p=>μ p.1 p.2) (iw,mN) h₀ qE hk j0 fun p hp ih=>round p.1 p.2 hp fun x' y' h1 h2=>ih (x',y') h1 h2
theorem S.zL {ι dB jO:Type} {c:Code} (φ:ι→dB→jO→Prop) (σs:ι→dB→jO→List (Nat × Value)) (keep:List (Nat × Value)) (ix:ι→dB→jO→List az) (μ:ι→dB→jO→Nat) (iw:ι) (mN:dB) (qZ:jO) (h₀:φ iw mN qZ) (qE:Sub (σs iw mN qZ) σ) (hk:Sub keep σ) (j0:U=ix iw mN qZ)
  (round:∀ x y z,φ x y z→(∀ x' y' z',φ x' y' z' →μ x' y' z' <μ x y z→S ro P fn n R (.inLoop c::k) (σs x' y' z' ++keep) D g (ix x' y' z'))→S ro P fn n R (.code c::.inLoop c::k) (σs x y z++keep) D g (ix x y z)) :
  S ro P fn n R (.code (.loop c)::k) σ D g U :=
 S.fT (ι:=ι × dB × jO) (fun p=>φ p.1 p.2.1 p.2.2) (fun p=>σs p.1 p.2.1 p.2.2) keep (fun p=>ix p.1 p.2.1 p.2.2) (fun p=>μ p.1 p.2.1 p.2.2) (iw,mN,qZ) h₀ qE hk j0 fun p hp ih=>round p.1 p.2.1 p.2.2 hp fun x' y' z' h1 h2=>ih (x',y',z') h1 h2
theorem S.D2 {ι dB jO dx:Type} {c:Code} (φ:ι→dB→jO→dx→Prop) (σs:ι→dB→jO→dx→List (Nat × Value)) (keep:List (Nat × Value)) (ix:ι→dB→jO→dx→List az) (μ:ι→dB→jO→dx→Nat) (iw:ι) (mN:dB) (qZ:jO) (AJ:dx) (h₀:φ iw mN qZ AJ) (qE:Sub (σs iw mN qZ AJ) σ) (hk:Sub keep σ) (j0:U=ix iw mN qZ AJ)
  (round:∀ x y z u,φ x y z u→(∀ x' y' z' u',φ x' y' z' u' →μ x' y' z' u' <μ x y z u→S ro P fn n R (.inLoop c::k) (σs x' y' z' u' ++keep) D g (ix x' y' z' u'))→S ro P fn n R (.code c::.inLoop c::k) (σs x y z u++keep) D g (ix x y z u)) :
  S ro P fn n R (.code (.loop c)::k) σ D g U :=
 S.fT (ι:=ι × dB × jO × dx) (fun p=>φ p.1 p.2.1 p.2.2.1 p.2.2.2) (fun p=>σs p.1 p.2.1 p.2.2.1 p.2.2.2) keep (fun p=>ix p.1 p.2.1 p.2.2.1 p.2.2.2) (fun p=>μ p.1 p.2.1 p.2.2.1 p.2.2.2) (iw,mN,qZ,AJ) h₀ qE hk j0
  fun p hp ih=>round p.1 p.2.1 p.2.2.1 p.2.2.2 hp fun x' y' z' u' h1 h2=>ih (x',y',z',u') h1 h2
theorem Sub.BQ {v v' :Value} {s:Nat} {dx:List (Nat × Value)} (h:look σ s=some v) (e:v=v') (hs:Sub dx σ):Sub ((s,v')::dx) σ:=by subst e;exact Sub.cons h hs
theorem S.slot {v v' :Value} (s:Nat) (hl:look σ s=some v) (e:v=v') (h:S ro P fn n R todo ((s,v')::σ) D g U):S ro P fn n R todo σ D g U:=S.weaken (Sub.BQ hl e Sub.refl) h
theorem O.slot {v v' :Value} {L:List Nat} (s:Nat) (hl:look σ s=some v) (e:v=v') (h:O ro P fn n R ops L k ((s,v')::σ) D g U):O ro P fn n R ops L k σ D g U:=O.weaken (Sub.BQ hl e Sub.refl) h
theorem O.aC {f:FuncId} {xs:Array Operand} {ts:Array TypeId} {bG:List Value} {K' :Value→List az→Prop} {first cap:Array Value} (ho:bJ ops i n σ d (.call ⟨.value x,xs,ts⟩)) (hx:aA σ x=some (.func (.func f) first cap)) (hc:dr P f=true)
  (hv:dQ σ xs.toList=some bG) {args:Array Value} (hargs:first++bG.toArray++cap=args) (con:ay P f args g.h [] (aM K'))
  (h:∀ v ax,K' v ax →O ro P fn n R ops l k ((d,v)::σ) D g (ax ++U)):O ro P fn n R ops (i::l) k σ D g U:=O.call (U:=[]) (ζ:=U) ho hx hc hv hargs con h
theorem cL.aC {f:FuncId} {xs:Array Operand} {ts:Array TypeId} {bG:List Value} {K' :Value→List az→Prop} {first cap:Array Value} (ho:bJ ops i n σ d (.call ⟨.value x,xs,ts⟩)) {fl:Bool} (hd:d_ fl ops i l=true) (hx:aA σ x=some (.func (.func f) first cap)) (hc:dr P f=true)
  (hv:dQ σ xs.toList=some bG) {args:Array Value} (hargs:first++bG.toArray++cap=args) (con:ay P f args g.h [] (aM K'))
  (h:∀ v ax,K' v ax →af P fn n R ops k D g l ((d,v)::σ) (ax ++U)):aK P fn n R ops k D g fl (i::l) σ U:=cL.call (U:=[]) (ζ:=U) ho hd hx hc hv hargs con h
theorem af.aC {f:FuncId} {xs:Array Operand} {ts:Array TypeId} {bG:List Value} {K' :Value→List az→Prop} {first cap:Array Value} (ho:bJ ops i n σ d (.call ⟨.value x,xs,ts⟩)) (hd:eu ops [i] l=true) (hx:aA σ x=some (.func (.func f) first cap)) (hc:dr P f=true) (hv:dQ σ xs.toList=some bG) {args:Array Value} (hargs:first++bG.toArray++cap=args) (con:ay P f args g.h [] (aM K')) (h:∀ v ax,K' v ax →af P fn n R ops k D g l ((d,v)::σ) (ax ++U)):af P fn n R ops k D g (i::l) σ U:=cL.aC (fl:=false) ho (by simpa [d_] using hd) hx hc hv hargs con h
theorem bO.aC {f:FuncId} {xs:Array Operand} {ts:Array TypeId} {bG:List Value} {K' :Value→List az→Prop} {first cap:Array Value} (ho:bJ ops i n σ d (.call ⟨.value x,xs,ts⟩)) (_:true=true) (hx:aA σ x=some (.func (.func f) first cap)) (hc:dr P f=true) (hv:dQ σ xs.toList=some bG) {args:Array Value} (hargs:first++bG.toArray++cap=args) (con:ay P f args g.h [] (aM K')) (h:∀ v ax,K' v ax →af P fn n R ops k D g l ((d,v)::σ) (ax ++U)):aK P fn n R ops k D g true (i::l) σ U:=cL.aC (fl:=true) ho rfl hx hc hv hargs con h
inductive jw:List az→List az→List az→Prop
 |nil {U:List az}:jw U [] U
 |cons {U ζ aN:List az} {A:az} {bs:List az}:bf U A ζ→jw ζ bs aN→jw U (A::bs) aN
theorem jw.perm {U bs aN:List az} (s:jw U bs aN):U.Perm (bs++aN):=by
 induction s with
 |nil=>exact .refl _
 |cons s _ ih=>exact s.perm.trans (.cons _ ih)
theorem ay.jF {f:FuncId} {args:Array Value} {h:Fr} {bs:List az} {Post:Ending→List az→Prop} (con:∀ m:Fr,Sat bs m→h.cI m→ay P f args (h.add m) [] Post) :
  ay P f args h bs fun e ax =>∃ cN,Post e cN∧ax =cN++bs:=fun g hg w hw=>by
 obtain ⟨m,hm,hd,hw'⟩:=Holds.y3 (U:=[]) (ζ:=bs) hw;have lJ :h.cI m:=Fr.fH hd hg (Fr.bW _);refine (con m hm lJ (g.add m) (Fr.hG (Fr.aI hg (Fr.cw _ _)) (Fr.dA hd)) w hw').mono fun e w' ⟨ax,x,y⟩=>⟨ax ++bs,⟨ax,x,rfl⟩,y.E1 hm hd⟩
theorem O.cU {f:FuncId} {xs:Array Operand} {ts:Array TypeId} {bG:List Value} {K' :Value→List az→Prop} {first cap:Array Value} (ho:bJ ops i n σ d (.call ⟨.value x,xs,ts⟩)) (hx:aA σ x=some (.func (.func f) first cap)) (hc:dr P f=true)
  (hv:dQ σ xs.toList=some bG) {args:Array Value} (hargs:first++bG.toArray++cap=args) {bs:List az} (hb:jw U bs ζ) (con:∀ m:Fr,Sat bs m→g.h.cI m→ay P f args (g.h.add m) [] (aM K'))
  (h:∀ v ax,K' v ax →O ro P fn n R ops l k ((d,v)::σ) D g (ax ++(bs++ζ))):O ro P fn n R ops (i::l) k σ D g U:=by
 have CW:ay P f args g.h bs (aM fun v ax =>∃ cN,K' v cN∧ax =cN++bs):=(ay.jF con).mono fun e ax ⟨cN,a,b⟩=>by
  cases e with
  |returned v=>exact ⟨cN,a,b⟩
  |panicked _=>exact a.elim
  |outgrown=>exact a.elim
 have:=O.call (ζ:=ζ) ho hx hc hv hargs CW (R:=R) (l:=l) (k:=k) (D:=D) (fn:=fn) fun v ax ⟨cN,a,b⟩=>by
  subst b;rw [List.append_assoc];exact h v cN a
 exact fun a w hf hd hw=>this a w hf hd (hw.perm hb.perm)
theorem aK.perm {fl:Bool} {L:List Nat} (p:U.Perm ax) (h:aK P fn n R ops k D g fl L σ ax):aK P fn n R ops k D g fl L σ U:=by
 induction h generalizing U with
 |nil h=>exact .nil (S.perm p h)
 |quiet ho hna de h ih=>exact .quiet ho hna de (ih p)
 |no ho hna hl rL h ih=>exact .no ho hna hl rL (ih p)
 |lazy ho hd hz h ih=>exact .lazy ho hd hz fun b=>ih b (p.cons _)
 |@lz i d l σ cN Fi f x xs ts bG K' X' first cap args ho hx hc hv hargs con hp h ih =>
  have Mk :ay P f args g.h U (ey (fun v ax =>∃ j8,K' v j8∧ax =j8++Fi) (fun ch ax =>∃ j8,X' ch j8∧ax =j8++Fi)):=fun g' hg w hw=>((con.frame (ζ:=Fi)) g' hg w (hw.perm p)).mono fun e w' ⟨ax,a,b⟩=>⟨ax,by
   cases e with
   |returned v=>exact a
   |panicked _=>exact a
   |outgrown=>obtain ⟨_,h1,_⟩:=a;exact h1.elim,b⟩
  have:=aK.lz (U:=U) (ζ:=[]) (l:=l) ho hx hc hv hargs Mk (fun a ch ax w ⟨j8,h1,h2⟩ hw=>hp a ch j8 w h1 (by subst h2;simpa using hw)) fun v ax ⟨j8,h1,h2⟩=>ih v j8 h1 (U:=ax ++[]) (by subst h2;simp)
  simpa using this
 |@fU i d op l σ Zh K' ho hna de h ih =>
  exact .fU ho hna (K:=K') (fun ζ o ρ w h1 h2 h3=>de ζ o ρ w h1 h2 (h3.perm (p.append_right _))) fun v ax a=>ih v ax a (.refl _)
 |mE ho hna de h ih =>
  exact .mE ho hna (fun ζ o ρ w h1 h2 h3=>de ζ o ρ w h1 h2 (h3.perm (p.append_right _))) (ih (.refl _))
 |qG ho hna hl de h=>exact .qG ho hna hl (fun o ρ w h1 h2 h3=>de o ρ w h1 h2 (h3.perm p)) h
 |one hd h ih=>exact .one hd (ih p)
 |swap l' hp h ih=>exact .swap l' hp (ih p)
 |alt jf hok h ih=>exact .alt jf hok fun i hi=>ih i hi p
theorem af.perm {L:List Nat} (p:U.Perm ax) (h:af P fn n R ops k D g L σ ax):af P fn n R ops k D g L σ U:=aK.perm p h
theorem cL.cU {f:FuncId} {xs:Array Operand} {ts:Array TypeId} {bG:List Value} {K' :Value→List az→Prop} {first cap:Array Value} (ho:bJ ops i n σ d (.call ⟨.value x,xs,ts⟩)) {fl:Bool} (hd:d_ fl ops i l=true) (hx:aA σ x=some (.func (.func f) first cap)) (hc:dr P f=true)
  (hv:dQ σ xs.toList=some bG) {args:Array Value} (hargs:first++bG.toArray++cap=args) {bs:List az} (hb:jw U bs ζ) (con:∀ m:Fr,Sat bs m→g.h.cI m→ay P f args (g.h.add m) [] (aM K'))
  (h:∀ v ax,K' v ax →af P fn n R ops k D g l ((d,v)::σ) (ax ++(bs++ζ))):aK P fn n R ops k D g fl (i::l) σ U:=by
 have CW:ay P f args g.h bs (aM fun v ax =>∃ cN,K' v cN∧ax =cN++bs):=(ay.jF con).mono fun e ax ⟨cN,a,b⟩=>by
  cases e with
  |returned v=>exact ⟨cN,a,b⟩
  |panicked _=>exact a.elim
  |outgrown=>exact a.elim
 exact aK.perm hb.perm (cL.call (ζ:=ζ) ho hd hx hc hv hargs CW fun v ax ⟨cN,a,b⟩=>by
  subst b;rw [List.append_assoc];exact h v cN a)
theorem af.cU {f:FuncId} {xs:Array Operand} {ts:Array TypeId} {bG:List Value} {K' :Value→List az→Prop} {first cap:Array Value} (ho:bJ ops i n σ d (.call ⟨.value x,xs,ts⟩)) (hd:eu ops [i] l=true) (hx:aA σ x=some (.func (.func f) first cap)) (hc:dr P f=true) (hv:dQ σ xs.toList=some bG) {args:Array Value} (hargs:first++bG.toArray++cap=args) {bs:List az} (hb:jw U bs ζ) (con:∀ m:Fr,Sat bs m→g.h.cI m→ay P f args (g.h.add m) [] (aM K')) (h:∀ v ax,K' v ax →af P fn n R ops k D g l ((d,v)::σ) (ax ++(bs++ζ))):af P fn n R ops k D g (i::l) σ U:=cL.cU (fl:=false) ho (by simpa [d_] using hd) hx hc hv hargs hb con h
theorem bO.cU {f:FuncId} {xs:Array Operand} {ts:Array TypeId} {bG:List Value} {K' :Value→List az→Prop} {first cap:Array Value} (ho:bJ ops i n σ d (.call ⟨.value x,xs,ts⟩)) (_:true=true) (hx:aA σ x=some (.func (.func f) first cap)) (hc:dr P f=true) (hv:dQ σ xs.toList=some bG) {args:Array Value} (hargs:first++bG.toArray++cap=args) {bs:List az} (hb:jw U bs ζ) (con:∀ m:Fr,Sat bs m→g.h.cI m→ay P f args (g.h.add m) [] (aM K')) (h:∀ v ax,K' v ax →af P fn n R ops k D g l ((d,v)::σ) (ax ++(bs++ζ))):aK P fn n R ops k D g true (i::l) σ U:=cL.cU (fl:=true) ho rfl hx hc hv hargs hb con h
theorem O.bD {f:FuncId} {xs:Array Operand} {ts:Array TypeId} {bG:List Value} {K' :Value→List az→Prop} {first cap:Array Value} {A:az} (ho:bJ ops i n σ d (.call ⟨.value x,xs,ts⟩)) (hx:aA σ x=some (.func (.func f) first cap)) (hc:dr P f=true)
  (hv:dQ σ xs.toList=some bG) {args:Array Value} (hargs:first++bG.toArray++cap=args) (hs:bf U A ζ) (con:ay P f args g.h [A] (aM K'))
  (h:∀ v ax,K' v ax →O ro P fn n R ops l k ((d,v)::σ) D g (ax ++ζ)):O ro P fn n R ops (i::l) k σ D g U :=
 fun a w hf hd hw=>O.call (U:=[A]) (ζ:=ζ) ho hx hc hv hargs con h a w hf hd (hw.cu hs)
theorem cL.bD {f:FuncId} {xs:Array Operand} {ts:Array TypeId} {bG:List Value} {K' :Value→List az→Prop} {first cap:Array Value} {A:az} (ho:bJ ops i n σ d (.call ⟨.value x,xs,ts⟩)) {fl:Bool} (hd:d_ fl ops i l=true) (hx:aA σ x=some (.func (.func f) first cap)) (hc:dr P f=true)
  (hv:dQ σ xs.toList=some bG) {args:Array Value} (hargs:first++bG.toArray++cap=args) (hs:bf U A ζ) (con:ay P f args g.h [A] (aM K'))
  (h:∀ v ax,K' v ax →af P fn n R ops k D g l ((d,v)::σ) (ax ++ζ)):aK P fn n R ops k D g fl (i::l) σ U :=
 aK.perm hs.perm (cL.call (U:=[A]) (ζ:=ζ) ho hd hx hc hv hargs con h)
theorem af.bD {f:FuncId} {xs:Array Operand} {ts:Array TypeId} {bG:List Value} {K' :Value→List az→Prop} {first cap:Array Value} {A:az} (ho:bJ ops i n σ d (.call ⟨.value x,xs,ts⟩)) (hd:eu ops [i] l=true) (hx:aA σ x=some (.func (.func f) first cap)) (hc:dr P f=true) (hv:dQ σ xs.toList=some bG) {args:Array Value} (hargs:first++bG.toArray++cap=args) (hs:bf U A ζ) (con:ay P f args g.h [A] (aM K')) (h:∀ v ax,K' v ax →af P fn n R ops k D g l ((d,v)::σ) (ax ++ζ)):af P fn n R ops k D g (i::l) σ U:=cL.bD (fl:=false) ho (by simpa [d_] using hd) hx hc hv hargs hs con h
theorem bO.bD {f:FuncId} {xs:Array Operand} {ts:Array TypeId} {bG:List Value} {K' :Value→List az→Prop} {first cap:Array Value} {A:az} (ho:bJ ops i n σ d (.call ⟨.value x,xs,ts⟩)) (_:true=true) (hx:aA σ x=some (.func (.func f) first cap)) (hc:dr P f=true) (hv:dQ σ xs.toList=some bG) {args:Array Value} (hargs:first++bG.toArray++cap=args) (hs:bf U A ζ) (con:ay P f args g.h [A] (aM K')) (h:∀ v ax,K' v ax →af P fn n R ops k D g l ((d,v)::σ) (ax ++ζ)):aK P fn n R ops k D g true (i::l) σ U:=cL.bD (fl:=true) ho rfl hx hc hv hargs hs con h
theorem O.perm {L:List Nat} (p:U.Perm ζ) (h:O ro P fn n R ops L k σ D g ζ):O ro P fn n R ops L k σ D g U:=fun a w hf hd hw=>h a w hf hd (hw.perm p)
theorem O.cu {L:List Nat} {A:az} (s:bf U A ζ) (h:O ro P fn n R ops L k σ D g (A::ζ)):O ro P fn n R ops L k σ D g U:=fun a w hf hd hw=>h a w hf hd (hw.cu s)
theorem O.imp {L:List Nat} (hs:∀ m,Sat U m→Sat ax m) (h:O ro P fn n R ops L k σ D g ax):O ro P fn n R ops L k σ D g U:=fun a w hf hd hw=>h a w hf hd (hw.imp hs)
theorem O.freeze {L:List Nat} {A:az} (h:∀ m:Fr,A m→g.h.cI m→O ro P fn n R ops L k σ D (g.add m) U):O ro P fn n R ops L k σ D g (A::U) :=
 fun a w hf hd hw=>by
  obtain ⟨m,hm,hdj,hw'⟩:=hw.freeze;exact h m hm hdj a w hf hd hw'
theorem O.panic {L:List Nat} {v:Value} {aJ:TypeId} (ho:j5 ops i=some (.panic x)) (hx:aA σ x=some (.iface aJ v)) (h:∀ w,Holds w g U→R (.panicked [{ v:=.iface aJ v,recovered:=false }]) w):O ro P fn n R ops (i::L) k σ [] g U:=by
 intro a w hf hd hw
 obtain ⟨o,hi,ek,hop,hg⟩:=o7 ho;have hrun:(execOp a.eval o).run P w=.halt (.panic (.iface aJ v)) w:=by
  simp [execOp,hop,hf.eval hx,Instr.panic]
 refine O.mi hi (by simp [Region.wanted,hg]) (by rw [hop];intro c hc;cases hc) hrun ?_;rw [Oper.uponIn_panic];exact Post.panic hd (h w hw)
theorem run_equal_pointer_nil (ht:P.underlying t=some (.pointer e)) (a:Option Addr) (w:World):(Op.equal t (.pointer a) (.pointer none)).run P w=.ok a.isNone w:=by
 show (Op.equalIn (9999+1) t (.pointer a) (.pointer none)).run P w=_
 rw [Op.equalIn]
 cases a<;>simp [run_underlying ht]
theorem aD.rq {u:TypeId} {a:Option Addr} (ht:P.underlying t=some (.pointer e)) (hx:aA σ x=some (.pointer a)) (hy:aA σ y=some (.pointer none)):aD P (.binOp .eql t x y u) σ g U (.bool a.isNone) U :=
 .run fun o ρ w ho hk=>by simp [execOp,ho,hk x _ hx,hk y _ hy,eqGuard,Go.binOp,run_equal_pointer_nil ht]
theorem aD.xE {u:TypeId} {a:Option Addr} (ht:P.underlying t=some (.pointer e)) (hx:aA σ x=some (.pointer a)) (hy:aA σ y=some (.pointer none)):aD P (.binOp .neq t x y u) σ g U (.bool (!a.isNone)) U :=
 .run fun o ρ w ho hk=>by simp [execOp,ho,hk x _ hx,hk y _ hy,eqGuard,Go.binOp,run_equal_pointer_nil ht]
theorem aD.nc {u:TypeId} {a:Option Addr} {m c:Nat} (ht:P.underlying t=some (.slice e)) (hx:aA σ x=some (.slice a m c)) (hy:aA σ y=some (.slice none 0 0)):aD P (.binOp .eql t x y u) σ g U (.bool a.isNone) U :=
 .run fun o ρ w ho hk=>by simp [execOp,ho,hk x _ hx,hk y _ hy,eqGuard,Go.binOp,run_equal_slice_nil w t e a m c ht]
def Ji:TypeDesc→Bool
 |.interface _=>false
 |_=>true
theorem aD.I3 {v:Value} {dd:TypeDesc} (ht:P.underlying t=some dd) (hx:aA σ x=some v) (hn:Ji dd=true:=by rfl):aD P (.makeInterface t x) σ g U (.iface t v) U :=
 .run fun o ρ w ho hk=>by
  simp only [execOp,ho,hk x _ hx,Instr.makeInterface,Sem.run_bind,run_underlying ht,Result.andThen_ok]
  cases dd<;>first|(simp;done)|exact Bool.noConfusion hn
def placesOf (P:Program):List Field→Option (List (Nat × Nat))
 |[]=>some []
 |f::fs=>match (P.info? f.type).map (·.size),placesOf P fs with|some m,some ps=>some ((f.offset,m)::ps)|_,_=>none
theorem run_places:∀ (fs:List Field) (ps:List (Nat × Nat)),placesOf P fs=some ps→∀ w,(fs.mapM fun (f:Field)=>(do pure (f.offset,← sizeOf f.type):Sem (Nat × Nat))).run P w=.ok ps w
 |[],ps,h,w=>by cases h;simp
 |f::fs,ps,h,w=>by
  simp only [placesOf] at h
  split at h
  ·rename_i m jq hm hq
   cases h
   have ih:=run_places fs jq hq w;simp only [List.mapM_cons,Sem.run_bind,run_sizeOf hm,Result.andThen_ok,Sem.run_pure,ih]
  ·cases h
def yO (σ:List (Nat × Value)):List (Nat × Operand)→Option (List (Nat × Value))
 |[]=>some []
 |(j,x)::r=>match aA σ x,yO σ r with|some v,some vs=>some ((j,v)::vs)|_,_=>none
theorem GM {ρ:Operand→Value} (hk:mQ σ ρ):∀ {xs:List (Nat × Operand)} {vs:List (Nat × Value)},yO σ xs=some vs→xs.map (fun p=>(p.1,ρ p.2))=vs
 |[],_,h=>by cases h;rfl
 |(j,x)::xs,vs,h=>by
  simp only [yO] at h
  split at h
  ·rename_i v us hv qA;cases h;simp [hk x v hv,GM hk qA]
  ·cases h
def setAt:List Value→Nat→List Value→List Value
 |[],_,_=>[]
 |c::z,n+1,vs=>c::setAt z n vs
 |c::z,0,[]=>c::z
 |_::z,0,v::vs=>v::setAt z 0 vs
theorem ET:∀ (z:List Value) (n:Nat) (vs:List Value),n+vs.length≤z.length→setAt z n vs=z.take n++vs++z.drop (n+vs.length)
 |[],n,vs,h=>by simp at h;obtain ⟨rfl,rfl⟩:=h;rfl
 |c::z,n+1,vs,h=>by
  have:=ET z n vs (by simp at h;omega);simp only [setAt,this,List.take_succ_cons,List.cons_append];rw [show n+1+vs.length=(n+vs.length)+1 from by omega,List.drop_succ_cons]
 |c::z,0,[],h=>by simp [setAt]
 |c::z,0,v::vs,h=>by
  have:=ET z 0 vs (by simp at h;omega);simp only [setAt,this]
  simp
def yP (ps:List (Nat × Nat)):List Value→List (Nat × List Value)→Option (List Value)
 |z,[]=>some z
 |z,(i,c)::r=>match ps[i]? with
  |some (off,m)=>match Nat.beq c.length m,Nat.ble (off+m) z.length with
   |true,true=>yP ps (setAt z off c) r
   |_,_=>none
  |none=>none
def yz:List (Nat × Value)→List (Nat × List Value)
 |[]=>[]
 |(i,v)::r=>(i,v.cells.toList)::yz r
theorem GQ {ps:List (Nat × Nat)}:∀ (vs:List (Nat × Value)) (z cs:List Value),yP ps z (yz vs)=some cs→Instr.fill (ps[·]?) z.toArray vs=some cs.toArray
 |[],z,cs,h=>by cases h;rfl
 |(i,v)::vs,z,cs,h=>by
  simp only [yz,yP] at h
  split at h
  ·rename_i off m hp
   split at h
   ·rename_i hb hl
    have hb:=Nat.eq_of_beq_eq_true hb;have hl:=Nat.le_of_ble_eq_true hl;have hs:v.cells.size=m:=by simpa using hb
    simp only [Instr.fill,hp];have h2:(decide (v.cells.size≠m) ||decide (off+v.cells.size>z.toArray.size))=false:=by simp;omega
    have hf:(v.cells.zipIdx.foldl (fun cs (x:Value × Nat)=>cs.setIfInBounds (off+x.2) x.1) z.toArray)=(setAt z off v.cells.toList).toArray:=by
     rw [← Array.foldl_toList,Array.toList_zipIdx,ET _ _ _ (by simpa [hs] using hl)];refine Ce v.cells.toList (z.take off) ((z.drop off).take m) (z.drop (off+v.cells.toList.length)) 0 off z.toArray ?_ ?_ ?_
     ·rw [hb,← List.drop_drop,List.append_assoc,List.take_append_drop,List.take_append_drop]
     ·simp [hs];omega
     ·simp;omega
    rw [if_neg (by rw [h2];exact Bool.false_ne_true)];refine (congrArg (fun c=>Instr.fill _ c _) hf).trans (GQ vs _ cs h)
   ·cases h
  ·cases h
theorem aD.build {fs:Array Field} {z:Value} {zs:List Value} {ps:List (Nat × Nat)} {parts:Array (Nat × Operand)} {vs:List (Nat × Value)} {cs:List Value} (ht:P.underlying t=some (.struct fs)) (hz:zeroOf P t=some z) (hzs:z.cells.toList=zs) (hps:placesOf P fs.toList=some ps)
  (hp:yO σ parts.toList=some vs) (hf:yP ps zs (yz vs)=some cs):aD P (.build t parts) σ g U (.agg cs.toArray) U :=
 .run fun o ρ w ho hk=>by
  subst hzs;have hm:(parts.map fun (p:Nat × Operand)=>(p.1,ρ p.2)).toList=vs:=by rw [Array.toList_map];exact GM hk hp
  have mz:(fs.mapM fun (f:Field)=>(do pure (f.offset,← sizeOf f.type):Sem (Nat × Nat))).run P w=.ok ps.toArray w:=by
   rw [Array.mapM_eq_mapM_toList,Sem.run_map,run_places _ _ hps];rfl
  have hf' :Instr.fill (fun j=>ps.toArray[j]?) z.cells (parts.map fun (p:Nat × Operand)=>(p.1,ρ p.2)).toList=some cs.toArray:=by
   have:=GQ vs _ _ hf;rw [hm];rw [Array.toArray_toList] at this;rw [← this];congr 1;funext j;simp
  have hb:(Instr.build t (parts.map fun (p:Nat × Operand)=>(p.1,ρ p.2))).run P w=.ok (.agg cs.toArray) w:=by
   simp only [Instr.build,Sem.run_bind,EM hz,Result.andThen_ok,run_underlying ht,mz,hf']
   rfl
  have e1:(parts.map fun x=>match x with|(i,x)=>(i,ρ x))=parts.map fun (p:Nat × Operand)=>(p.1,ρ p.2):=rfl;simp only [execOp,ho,Sem.run_bind];rw [e1,hb];rfl
end
theorem V3 {U:List az}:jw U [] U:=.nil
theorem V2 {U ζ aN:List az} {A:az} {bs:List az} (h:bf U A ζ) (k:jw ζ bs aN):jw U (A::bs) aN:=.cons h k
end Go.Sp
end
end
section
/- Texts of this proof, one behind the other. -/
section
/- Texts of this proof. -/
namespace Go.Sp
def xQ (σ:List (Nat × Value)):Op→Option Value
 |.move x=>aA σ x
 |.assign x=>aA σ x
 |.extract x j=>match aA σ x with|some (.tuple vs)=>vs[j]?|_=>none
 |.pick c x y=>match aA σ c with|some (.bool true)=>aA σ x|some (.bool false)=>aA σ y|_=>none
 |_=>none
theorem Ey {P:Program} {σ:List (Nat × Value)} {op:Op} {v:Value} (h:xQ σ op=some v):iZ op=false∧∀ g U,aD P op σ g U v U:=by
 unfold xQ at h
 split at h
 ·exact ⟨rfl,fun g U=>.RP h⟩
 ·exact ⟨rfl,fun g U=>.as h⟩
 ·split at h
  ·rename_i e;exact ⟨rfl,fun g U=>.extract e h⟩
  ·cases h
 ·split at h
  ·rename_i e;exact ⟨rfl,fun g U=>.SJ e h⟩
  ·rename_i e;exact ⟨rfl,fun g U=>.SI e h⟩
  ·cases h
 ·cases h
def Ex (ops:Array Oper) (n i:Nat) (σ:List (Nat × Value)):Option (Nat × Value) :=
 match xM ops i n with
 |some (d,op)=>match xQ σ op with|some v=>some (d,v)|none=>none
 |none=>match rX ops i n with
  |some (d,op,t,b)=>match look σ t with
   |some u=>match qK b u with
    |true=>(match iZ op with|false=>some (d,undef)|true=>none)
    |false=>match xQ σ op with|some v=>some (d,v)|none=>none
   |none=>none
  |none=>none
theorem JE {ops:Array Oper} {n i d:Nat} {σ:List (Nat × Value)} {v:Value} (h:Ex ops n i σ=some (d,v)) :
  (∃ op,bJ ops i n σ d op∧xQ σ op=some v)∨(∃ op t b u,rX ops i n=some (d,op,t,b)∧look σ t=some u∧qK b u=true∧iZ op=false∧v=undef):=by
 unfold Ex at h
 split at h
 ·rename_i e
  split at h
  ·rename_i e2;cases h;exact .inl ⟨_,.p e,e2⟩
  ·cases h
 ·split at h
  ·rename_i t b e
   split at h
   ·rename_i u e2
    split at h
    ·rename_i b6
     split at h
     ·rename_i mZ;cases h;exact .inr ⟨_,_,_,_,e,e2,b6,mZ,rfl⟩
     ·cases h
    ·rename_i b6
     split at h
     ·rename_i ff
      cases h
      have hu:u=.bool b:=by
       cases u<;>simp [qK] at b6
       rw [b6]
      subst hu;exact .inl ⟨_,.g e e2,ff⟩
     ·cases h
   ·cases h
  ·cases h
def xP (ops:Array Oper) (n:Nat):Nat→List Nat→List (Nat × Value)→Option (List Nat × List (Nat × Value))
 |0,l,σ=>some (l,σ)
 |k+1,i::l,σ=>match Ex ops n i σ with|some (d,v)=>xP ops n k l ((d,v)::σ)|none=>none
 |_+1,[],_=>none
section
variable {ro:Option Nat} {P:Program} {fn:Func} {n:Nat} {R:Ending→World→Prop} {k:List Item} {D:List Deferred} {g:bh} {U:List az} {ops:Array Oper}
theorem O.q:∀ (m:Nat) {l l' :List Nat} {σ σ' :List (Nat × Value)},xP ops n m l σ=some (l',σ')→O ro P fn n R ops l' k σ' D g U→O ro P fn n R ops l k σ D g U
 |0,_,_,_,_,h,hn=>by cases h;exact hn
 |m+1,[],_,_,_,h,_=>by cases h
 |m+1,i::l,_,σ,_,h,hn=>by
  simp only [xP] at h
  split at h
  ·rename_i d v e
   have r:=O.q m h hn
   rcases JE e with ⟨op,h1,h2⟩|⟨op,t,b,u,h1,h2,h3,h4,rfl⟩
   ·exact O.op h1 ((Ey h2).2 g U) r
   ·exact O.Sj h1 h2 h3 r
  ·cases h
theorem af.q:∀ (m:Nat) {l l' :List Nat} {σ σ' :List (Nat × Value)},xP ops n m l σ=some (l',σ')→af P fn n R ops k D g l' σ' U→af P fn n R ops k D g l σ U
 |0,_,_,_,_,h,hn=>by cases h;exact hn
 |m+1,[],_,_,_,h,_=>by cases h
 |m+1,i::l,_,σ,_,h,hn=>by
  simp only [xP] at h
  split at h
  ·rename_i d v e
   have r:=af.q m h hn
   rcases JE e with ⟨op,h1,h2⟩|⟨op,t,b,u,h1,h2,h3,h4,rfl⟩
   ·exact aK.quiet h1 (Ey (P:=P) h2).1 (fun U=>(Ey h2).2 g U) r
   ·exact aK.no h1 h4 h2 h3 r
  ·cases h
end
end Go.Sp
end
section
/- Texts of this proof. -/
namespace Go.Sp
def ag.Pure {α:Type} (T:ag α):Prop:=∀ (h:Fr) (cs:List Value) (a:α),T.rel h cs a→T.rel Fr.emp cs a
theorem Ae:ag.u8.Pure:=fun _ _ _ h=>h
theorem SU:ag.str.Pure:=fun _ _ _ h=>h
def av {α:Type} (T:ag α) (e:TypeId) (v:Value) (xs:List α):az:=fun h=>∃ ak:List (List Value),bY (T.rel Fr.emp) ak xs∧Own v T.k e xs.length ak.flatten h
theorem av.arr {α:Type} {T:ag α} {e:TypeId} {v:Value} {xs:List α} {h:Fr}:av T e v xs h→aj T h v xs
 |⟨ak,a,b⟩=>⟨ak,a.imp fun _ _=>T.mono (Fr.c4 _),b.sl⟩
theorem av.shape {α:Type} {T:ag α} {e:TypeId} {v:Value} {xs:List α} {h:Fr} (x:av T e v xs h):∃ a c,v=.slice a xs.length c:=x.arr.shape
theorem av.of {α:Type} {T:ag α} {e:TypeId} {v:Value} {xs:List α} {ak:List (List Value)} {m:Nat} {cs:List Value} (ha:bY (T.rel Fr.emp) ak xs) (hm:m=xs.length) (hc:cs=ak.flatten) {k:Nat} (hk:k=T.k) :
  ∀ h,Own v k e m cs h→av T e v xs h:=by subst hm hc hk;exact fun h x=>⟨ak,ha,x⟩
theorem FM {α:Type} {T:ag α} {f:α→List Value} (hf:∀ x,T.rel Fr.emp (f x) x):∀ xs:List α,bY (T.rel Fr.emp) (xs.map f) xs
 |[]=>trivial
 |x::xs=>⟨hf x,FM hf xs⟩
theorem bY.one {α:Type} {T:ag α} {h:Fr}:∀ {ak:List (List Value)} {xs:List α},bY (T.rel h) ak xs→∀ c∈ak.flatten,c.oneCell' =true
 |[],[],_,c,hc=>by cases hc
 |_::_,_::_,⟨x,y⟩,c,hc=>by
  simp only [List.flatten_cons,List.mem_append] at hc
  rcases hc with hc|hc
  ·exact T.one x c hc
  ·exact bY.one y c hc
section
variable {ro:Option Nat} {P:Program} {σ σ' :List (Nat × Value)} {g:bh} {U ax ζ aN:List az} {fn:Func} {n:Nat} {R:Ending→World→Prop} {k K:List Item} {D:List Deferred} {ops:Array Oper} {i d:Nat} {l:List Nat} {t e:TypeId} {x y:Operand} {todo:List Item}
theorem bE.cu {op:Op} {Q:Value→List az→Prop} {A:az} (s:bf U A ζ) (h:bE P op σ g (A::ζ) Q):bE P op σ g U Q:=fun o ρ w h1 h2 h3=>h o ρ w h1 h2 (h3.cu s)
theorem bE.borrow {op:Op} {Q:Value→List az→Prop} {A:az} (h:∀ m:Fr,A m→g.h.cI m→bE P op σ (g.add m) U Q):bE P op σ g (A::U) fun v ax =>∃ cN,Q v cN∧ax =A::cN :=
 fun o ρ w h1 h2 h3=>by
  obtain ⟨m,hm,hd,hw⟩:=h3.freeze;obtain ⟨v,w',cN,q,r,hw'⟩:=h m hm hd o ρ w h1 h2 hw;exact ⟨v,w',_,⟨cN,q,rfl⟩,r,hw'.oo hm hd⟩
theorem bE.pH {α:Type} {T:ag α} {ck:Nat} {z:List Value} {v u:Value} {xs ys:List α} (hT:T.Pure) (ht:P.underlying t=some (.slice e)) (he:dy P e T.k ck z) (hk:0<T.k) (hx:aA σ x=some v) (hy:aA σ y=some u)
  (hs:bf U (av T e v xs) ζ) (hu:aj T g.h u ys) (hb:(xs.length+ys.length)*ck≤140737488355328) (h63:xs.length+ys.length≤9223372036854775807) :
  bE P (.call ⟨.builtin .append,#[x,y],#[t,t]⟩) σ g U fun v' ax =>∃ a c,v' =.slice a (xs.length+ys.length) c∧ax =av T e v' (xs++ys)::ζ:=by
 intro o ρ w h1 h2 h3
 have hw:=h3.cu hs;obtain ⟨p1,p2,p3,K,hd,s1,s2,k1,k2,kd,t1,t2,⟨ak,ha,hown⟩,hr⟩:=hw;have hw' :Holds w g (Own v T.k e xs.length ak.flatten::ζ):=⟨p1,p2,p3,K,hd,s1,s2,k1,k2,kd,t1,t2,hown,hr⟩;obtain ⟨dP,hda,fD⟩:=hu;obtain ⟨v',w',ax,j0,hrun,hh⟩:=bE.append (g:=g) ht he hk hx hy .here fD (bY.one hda) hb h63 o ρ w h1 h2 hw';subst j0;have wP :Holds w' g (av T e v' (xs++ys)::ζ):=hh.imp fun _=>Sat.fe (av.of (ak:=ak++dP) (ha.append (hda.imp fun _ _ q=>hT _ _ _ q)) (by simp) (by simp) rfl) fun _ q=>q;obtain ⟨a,c,hv⟩:∃ a c,v' =.slice a (xs.length+ys.length) c:=by
  obtain ⟨_,_,_,_,_,_,_,k1,_,_,_,_,hA,_⟩:=wP;obtain ⟨a,c,h⟩:=hA.shape;exact ⟨a,c,by simpa using h⟩
 exact ⟨v',w',_,⟨a,c,hv,rfl⟩,hrun,wP⟩
theorem bE.Lh {α:Type} {T:ag α} {ck m:Nat} {z cs:List Value} {v u:Value} {xs ys:List α} {dP:List (List Value)} (ht:P.underlying t=some (.slice e)) (he:dy P e T.k ck z) (hk:0<T.k) (hx:aA σ x=some v) (hy:aA σ y=some u)
  (hl:bf U (Own u T.k e m cs) aN) (hs:bf aN (av T e v xs) ζ) (hm:m=ys.length) (hc:cs=dP.flatten) (hd:bY (T.rel Fr.emp) dP ys) (hb:(xs.length+ys.length)*ck≤140737488355328) (h63:xs.length+ys.length≤9223372036854775807) :
  bE P (.call ⟨.builtin .append,#[x,y],#[t,t]⟩) σ g U fun v' ax =>∃ a c,v' =.slice a (xs.length+ys.length) c∧ax =av T e v' (xs++ys)::ζ:=by
 subst hm hc
 intro o ρ w h1 h2 h3
 obtain ⟨m,hm,hdj,hw⟩:=(h3.cu hl).freeze;have hw:=hw.cu hs;obtain ⟨p1,p2,p3,K,nV,s1,s2,k1,k2,kd,t1,t2,⟨ak,ha,hown⟩,hr⟩:=hw;have hw' :Holds w (g.add m) (Own v T.k e xs.length ak.flatten::ζ):=⟨p1,p2,p3,K,nV,s1,s2,k1,k2,kd,t1,t2,hown,hr⟩;have fD:p_ (g.add m).h u T.k ys.length dP.flatten:=hm.sl.mono (Fr.dA hdj);obtain ⟨v',w',ax,j0,hrun,hh⟩:=bE.append (g:=g.add m) ht he hk hx hy .here fD (bY.one hd) hb h63 o ρ w h1 h2 hw';subst j0;have wP :Holds w' (g.add m) (av T e v' (xs++ys)::ζ):=hh.imp fun _=>Sat.fe (av.of (ak:=ak++dP) (ha.append hd) (by simp) (by simp) rfl) fun _ q=>q;obtain ⟨a,c,hv⟩:∃ a c,v' =.slice a (xs.length+ys.length) c:=by
  obtain ⟨_,_,_,_,_,_,_,k1,_,_,_,_,hA,_⟩:=wP;obtain ⟨a,c,h⟩:=hA.shape;exact ⟨a,c,by simpa using h⟩
 exact ⟨v',w',_,⟨a,c,hv,rfl⟩,hrun,(wP.oo hm hdj).drop⟩
def pF (v:Value) (k j:Nat) (p:Addr):Prop:=∃ b m c,v=.slice (some ⟨b,0,none⟩) m c∧p=⟨b,j*k,none⟩
theorem Holds.oe {α:Type} {T:ag α} {w:World} {v:Value} {xs:List α} (h:Holds w g (av T e v xs::ζ)) (hne:0<xs.length) :
  ∃ b cap cur ak,v=.slice (some ⟨b,0,none⟩) xs.length cap∧xs.length≤cap∧cap≤9223372036854775807∧cur.size=cap*T.k∧cur.toList.take (xs.length*T.k)=ak.flatten∧bY (T.rel Fr.emp) ak xs∧∃ fz,q4 fz (cap*T.k)∧Holds w g (blk b (.cells cur e fz)::ζ):=by
 obtain ⟨p1,p2,p3,K,nV,s1,s2,k1,k2,kd,t1,t2,⟨ak,ha,hl,hA⟩,hr⟩:=h
 rcases hA with ⟨_,h0⟩|⟨b,cap,cur,hv,⟨fz,hb,hz⟩,h1,h2,h3,h4⟩
 ·omega
 ·exact ⟨b,cap,cur,ak,hv,h1,h2,h3,h4,ha,fz,hz,p1,p2,p3,K,nV,s1,s2,k1,k2,kd,t1,t2,hb,hr⟩
theorem bE.oZ {α:Type} {T:ag α} {v:Value} {xs:List α} {j:Nat} {kd:IntKind} (ht:P.underlying t=some (.slice e)) (he:(P.info? e).map (·.size)=some T.k) (hx:aA σ x=some v) {cA:Int} (hy:aA σ y=some (.int kd cA)) (ev:cA=(j:Int))
  (hs:bf U (av T e v xs) ζ) (hj:j<xs.length):bE P (.indexAddr t x y) σ g U fun u ax =>∃ p,u=.pointer (some p)∧pF v T.k j p∧ax =U :=
 fun o ρ w ho hk hw=>by
  subst ev;obtain ⟨b,cap,cur,ak,rfl,_⟩:=(hw.cu hs).oe (by omega);refine ⟨.pointer (some ⟨b,j*T.k,none⟩),w,U,⟨_,rfl,⟨b,_,_,rfl,rfl⟩,rfl⟩,?_,hw⟩;have e1:(⟨b,0,none⟩:Addr).add (j*T.k)=⟨b,j*T.k,none⟩:=by rw [add_lit];simp
  simp [execOp,ho,hk x _ hx,hk y _ hy,Instr.indexAt,asIntOf,run_underlying ht,hj,run_sizeOf he,e1]
theorem Kc {α:Type} {T:ag α} {h:Fr} {ds:List Value} {a:α} (hd:T.rel h ds a):∀ {ak:List (List Value)} {xs:List α} (j:Nat),bY (T.rel h) ak xs→j<xs.length →
  bY (T.rel h) (ak.set j ds) (xs.set j a)∧(ak.set j ds).flatten=ak.flatten.take (j*T.k)++ds++ak.flatten.drop (j*T.k+T.k)
 |[],[],_,_,hj=>by simp at hj
 |c::ak,x::xs,0,⟨hc,hr⟩,_=>by
  have dY:=T.len hc;refine ⟨⟨hd,hr⟩,?_⟩
  simp [dY]
 |c::ak,x::xs,j+1,⟨hc,hr⟩,hj=>by
  have dY:=T.len hc;obtain ⟨h1,h2⟩:=Kc hd j hr (by simpa using hj);refine ⟨⟨hc,h1⟩,?_⟩;have e1:(c++ak.flatten).take ((j+1)*T.k)=c++ak.flatten.take (j*T.k):=by
   rw [Nat.succ_mul,List.take_append,List.take_of_length_le (l:=c) (by omega)]
   congr 2;omega
  have e2:(c++ak.flatten).drop ((j+1)*T.k+T.k)=ak.flatten.drop (j*T.k+T.k):=by
   rw [Nat.succ_mul,List.drop_append,List.drop_of_length_le (l:=c) (by omega),List.nil_append]
   congr 1;omega
  simp only [List.set_cons_succ,List.flatten_cons,h2];rw [e1,e2]
  simp
theorem j9.qR {α:Type} {T:ag α} {v u:Value} {xs:List α} {j:Nat} {p:Addr} {a:α} (hsz:(P.info? t).map (·.size)=some T.k) (hx:aA σ x=some (.pointer (some p))) (hp:pF v T.k j p) (hy:aA σ y=some u)
  (hs:bf U (av T e v xs) ζ) (hj:j<xs.length) (hu:T.rel Fr.emp u.cells.toList a):j9 P (.store t x y) σ g U (av T e v (xs.set j a)::ζ) :=
 fun o ρ w ho hk hw=>by
  obtain ⟨b,cap,cur,ak,rfl,h1,h2,h3,h4,ha,fz,hfz,jE⟩:=(hw.cu hs).oe (by omega);obtain ⟨b',m',c',he,rfl⟩:=hp
  cases he
  have nZ:u.cells.toList.length=T.k:=T.len hu;have hjm:j*T.k+T.k≤xs.length*T.k:=by rw [← Nat.succ_mul];exact Nat.mul_le_mul_right _ hj
  have zk:xs.length*T.k≤cur.size:=by rw [h3];exact Nat.mul_le_mul_right _ h1
  have hst:=r7 P b (j*T.k) e hfz u.cells.toList 0 cur w jE.block (by omega) (by omega) (T.one hu);simp only [Nat.add_zero,nZ] at hst;obtain ⟨q1,q2⟩:=Kc hu j ha hj;refine ⟨w.setRow b (cur.toList.take (j*T.k)++u.cells.toList++cur.toList.drop (j*T.k+T.k)).toArray,?_,?_⟩
  ·have hc:u.cells.size=T.k:=by rw [← nZ];simp
   simp only [List.append_assoc] at hst ⊢
   simp [execOp,ho,hk x _ hx,hk y _ hy,Instr.storeAt,Instr.sureAddr,storeVar,run_sizeOf hsz,hc,hst]
  ·refine (jE.setRow.tG hfz (k:=T.k) (m:=xs.length) (cap:=cap) (cs:=(ak.set j u.cells.toList).flatten) h1 h2 ?_ ?_).imp fun _=>Sat.fe (av.of q1 (by simp) rfl rfl) fun _ q=>q
   ·simp only [List.size_toArray,List.length_append,List.length_take,List.length_drop,Array.length_toList,nZ]
    omega
   ·rw [q2,← h4]
    have l1:(cur.toList.take (j*T.k)).length=j*T.k:=by simp;omega
    simp only [List.append_assoc];rw [List.take_append,l1,List.take_take,Nat.min_eq_right (by omega),List.take_append,nZ,List.take_take,Nat.min_eq_left (by omega)];rw [List.take_of_length_le (l:=u.cells.toList) (by omega)]
    congr 2
    rw [List.drop_take]
    congr 1
    omega
theorem aD.RB {α:Type} {T:ag α} {v:Value} {xs:List α} {j:Nat} {p:Addr} {u:Value} (ht:dR P t=true) (hx:aA σ x=some (.pointer (some p))) (hp:pF v T.k j p) (nX:T.k=1)
  (hs:bf U (av T e v xs) ζ) (hj:j<xs.length) (hu:∀ cs,T.rel Fr.emp cs xs[j]→cs=[u]):aD P (.load t x) σ g U u U :=
 fun o ρ w ho hk hw=>⟨w,by
  obtain ⟨b,cap,cur,ak,rfl,h1,h2,h3,h4,ha,fz,hfz,jE⟩:=(hw.cu hs).oe (by omega);obtain ⟨b',m',c',he,rfl⟩:=hp
  cases he
  have zi:j<ak.length:=by rw [ha.length];exact hj
  have hg:=ha.sL j zi;rw [hu _ (ha.get j zi hj),← h4,nX] at hg;have hb0:=jE.block;have hc:w.cell? ⟨b,j*T.k,none⟩=some u:=by
   rw [nX];simp only [World.cell?,hb0];have:(List.take 1 (List.drop (j*1) (cur.toList.take (xs.length*1))))[0]?=some u:=by rw [hg];rfl
   rw [List.getElem?_take_of_lt (by omega),List.getElem?_drop,List.getElem?_take_of_lt (by omega)] at this
   simpa using this
  simp [execOp,ho,hk x _ hx,Instr.loadAt,Instr.sureAddr,loadVar,r6 (ru ht),hc],hw⟩
theorem Ap {α:Type} {T:ag α} {z:List Value} {a:α} (hz:T.rel Fr.emp z a):∀ m:Nat,∃ ak,bY (T.rel Fr.emp) ak (List.replicate m a)∧ak.flatten=e9 z m
 |0=>⟨[],trivial,rfl⟩
 |m+1=>let ⟨ak,h1,h2⟩:=Ap hz m;⟨z::ak,⟨hz,h1⟩,by simp [e9,h2]⟩
theorem bE.zM {α:Type} {T:ag α} {ck:Nat} {z:List Value} (a:α) {m:Nat} {kx ky:IntKind} {yc yd:Int} (ht:P.underlying t=some (.slice e)) (he:dy P e T.k ck z) (hk:0<T.k) (hz:T.rel Fr.emp z a)
  (hx:aA σ x=some (.int kx yc)) (hy:aA σ y=some (.int ky yd)) (DO:yc=(m:Int)) (DP:yd=(m:Int)) (hb:ck*m≤281474976710656) (h63:m≤9223372036854775807) :
  bE P (.makeSlice t x y) σ g U fun v ax =>∃ a' c,v=.slice a' m c∧ax =av T e v (List.replicate m a)::U:=by
 subst DO DP
 intro o ρ w h1 h2 h3
 obtain ⟨v,w',ax,j0,hrun,hw⟩:=bE.make (g:=g) (U:=U) ht he hk hx hy hb h63 o ρ w h1 h2 h3;subst j0;obtain ⟨ak,q1,q2⟩:=Ap hz m;have hh:Holds w' g (av T e v (List.replicate m a)::U):=hw.imp fun _=>Sat.fe (av.of q1 (by simp) q2.symm rfl) fun _ q=>q;obtain ⟨a',c,hv⟩:∃ a' c,v=.slice a' m c:=by
  obtain ⟨_,_,_,_,_,_,_,k1,_,_,_,_,hA,_⟩:=hh;obtain ⟨a',c,h⟩:=hA.shape;exact ⟨a',c,by simpa using h⟩
 exact ⟨v,w',_,⟨a',c,hv,rfl⟩,hrun,hh⟩
theorem bE.IZ {α:Type} {T:ag α} {ck:Nat} {z:List Value} {c:Nat} {kx ky:IntKind} {yc yd:Int} (ht:P.underlying t=some (.slice e)) (he:dy P e T.k ck z)
  (hx:aA σ x=some (.int kx yc)) (hy:aA σ y=some (.int ky yd)) (DO:yc=0) (DP:yd=(c:Int)) (hb:ck*c≤281474976710656) (h63:c≤9223372036854775807) :
  bE P (.makeSlice t x y) σ g U fun v ax =>∃ a' c,v=.slice a' 0 c∧ax =av T e v []::U:=by
 subst DO DP
 intro o ρ w h1 h2 h3
 obtain ⟨v,w',ax,j0,hrun,hw⟩:=bE.RK (g:=g) (U:=U) ht he hx hy hb h63 o ρ w h1 h2 h3;subst j0;have hh:Holds w' g (av T e v []::U):=hw.imp fun _=>Sat.fe (av.of (T:=T) (xs:=[]) (ak:=[]) trivial (by simp) rfl rfl) fun _ q=>q;obtain ⟨a',c,hv⟩:∃ a' c,v=.slice a' 0 c:=by
  obtain ⟨_,_,_,_,_,_,_,k1,_,_,_,_,hA,_⟩:=hh;obtain ⟨a',c,h⟩:=hA.shape;exact ⟨a',c,by simpa using h⟩
 exact ⟨v,w',_,⟨a',c,hv,rfl⟩,hrun,hh⟩
theorem bE.cn {α:Type} {T:ag α} {ck len:Nat} {z:List Value} {parts:Array (Nat × Operand)} {vs:List Value} {ys:List α} (ht:P.underlying t=some (.slice e)) (he:dy P e T.k ck z) (hk:0<T.k)
  (hp:partsOf σ parts.toList 0=some vs) (hlen:parts.toList.length=len) (hvs:bY (T.rel Fr.emp) (vs.map (·.cells.toList)) ys) (jX:len*T.k≤16777216) :
  bE P (.buildSlice t len parts) σ g U fun v ax =>∃ a c,v=.slice a len c∧ax =av T e v ys::U:=by
 intro o ρ w h1 h2 h3
 have hl:vs.length=len:=by rw [Ep _ _ _ hp,hlen]
 have qD:ys.length=len:=by rw [← hvs.length,List.length_map,hl]
 have hall:vs.all (fun v=>Nat.beq v.cells.size T.k)=true:=by
  rw [List.all_eq_true]
  intro v hv
  obtain ⟨i,hi,rfl⟩:=List.mem_iff_getElem.1 hv;have:=T.len (hvs.get i (by simpa using hi) (by omega));have hs:vs[i].cells.size=T.k:=by simpa using this
  rw [hs];exact Nat.beq_refl _
 obtain ⟨v,w',ax,j0,hrun,hw⟩:=bE.lit (g:=g) (U:=U) ht he hk hp hlen hall jX o ρ w h1 h2 h3;subst j0;have hh:Holds w' g (av T e v ys::U):=hw.imp fun _=>Sat.fe (av.of hvs qD.symm rfl rfl) fun _ q=>q;obtain ⟨a',c,hv⟩:∃ a' c,v=.slice a' len c:=by
  obtain ⟨_,_,_,_,_,_,_,k1,_,_,_,_,hA,_⟩:=hh;obtain ⟨a',c,h⟩:=hA.shape;exact ⟨a',c,by simpa [qD] using h⟩
 exact ⟨v,w',_,⟨a',c,hv,rfl⟩,hrun,hh⟩
theorem bE.gJ {α:Type} {T:ag α} {ck:Nat} {z:List Value} {v u:Value} {xs ys:List α} (ht:P.underlying t=some (.slice e)) (he:dy P e T.k ck z) (hk:0<T.k) (hx:aA σ x=some v) (hy:aA σ y=some u)
  (hl:bf U (av T e u ys) aN) (hs:bf aN (av T e v xs) ζ) (hb:(xs.length+ys.length)*ck≤140737488355328) (h63:xs.length+ys.length≤9223372036854775807) :
  bE P (.call ⟨.builtin .append,#[x,y],#[t,t]⟩) σ g U fun v' ax =>∃ a c,v' =.slice a (xs.length+ys.length) c∧ax =av T e v' (xs++ys)::ζ:=by
 intro o ρ w h1 h2 h3
 obtain ⟨p1,p2,p3,K,nV,s1,s2,k1,k2,kd,t1,t2,⟨ak,ha,hown⟩,hr⟩:=h3.cu hl;have hw' :Holds w g (Own u T.k e ys.length ak.flatten::aN):=⟨p1,p2,p3,K,nV,s1,s2,k1,k2,kd,t1,t2,hown,hr⟩;exact bE.Lh (g:=g) ht he hk hx hy .here hs rfl rfl ha hb h63 o ρ w h1 h2 hw'
theorem zZ {α:Type} {T:ag α}:∀ h,av T e (.slice none 0 0) ([]:List α) h:=fun _=>⟨[],trivial,by simp,.inl ⟨rfl,rfl⟩⟩
theorem S.gd {α:Type} {T:ag α} (h:S ro P fn n R todo σ D g (av T e (.slice none 0 0) ([]:List α)::U)):S ro P fn n R todo σ D g U :=
 S.imp (ax :=av T e (.slice none 0 0) ([]:List α)::U) (fun m hm=>⟨Fr.emp,m,Fr.dW _,Fr.c4 _,Fr.bW _,zZ _,hm⟩) h
end
end Go.Sp
end
end
