/- Texts of this proof, one behind the other. -/
import Derived.Test.YtdjoggpacmpfnaaGreatDoorQSpDraw
import Derived.WalkSpells
section
/- Texts of this proof, one behind the other. -/
section
/- Texts of this proof. -/
namespace Go.Sp
def cG {α β:Type} (R:β→α→Prop):List β→List α→Prop
 |[],[]=>True
 |b::bs,a::as=>R b a∧cG R bs as
 |_,_=>False
theorem cG.imp {α β:Type} {R S:β→α→Prop} (h:∀ b a,R b a→S b a):∀ {bs:List β} {as:List α},cG R bs as→cG S bs as
 |[],[],_=>trivial
 |_::_,_::_,⟨x,y⟩=>⟨h _ _ x,cG.imp h y⟩
theorem cG.length {α β:Type} {R:β→α→Prop}:∀ {bs:List β} {as:List α},cG R bs as→bs.length=as.length
 |[],[],_=>rfl
 |_::_,_::_,⟨_,y⟩=>by simp [cG.length y]
theorem cG.get {α β:Type} {R:β→α→Prop}:∀ {bs:List β} {as:List α} (_:cG R bs as) (i:Nat) (hb:i<bs.length) (ha:i<as.length),R bs[i] as[i]
 |_::_,_::_,⟨x,_⟩,0,_,_=>x
 |_::_,_::_,⟨_,y⟩,i+1,hb,ha=>cG.get y i (by simpa using hb) (by simpa using ha)
theorem cG.append {α β:Type} {R:β→α→Prop}:∀ {bs cs:List β} {as ds:List α},cG R bs as→cG R cs ds→cG R (bs++cs) (as++ds)
 |[],_,[],_,_,h=>h
 |_::_,_,_::_,_,⟨x,y⟩,h=>⟨x,cG.append y h⟩
theorem cG.drop {α β:Type} {R:β→α→Prop}:∀ {bs:List β} {as:List α} (n:Nat),cG R bs as→cG R (bs.drop n) (as.drop n)
 |_,_,0,h=>h
 |[],[],_+1,_=>trivial
 |_::_,_::_,n+1,⟨_,y⟩=>cG.drop n y
theorem cG.take {α β:Type} {R:β→α→Prop}:∀ {bs:List β} {as:List α} (n:Nat),cG R bs as→cG R (bs.take n) (as.take n)
 |_,_,0,_=>trivial
 |[],[],_+1,_=>trivial
 |_::_,_::_,n+1,⟨x,y⟩=>⟨x,cG.take n y⟩
structure ag (α:Type) where
 k:Nat
 rel:Fr→List Value→α→Prop
 len:∀ {h:Fr} {cs:List Value} {a:α},rel h cs a→cs.length=k
 mono:∀ {h h' :Fr} {cs:List Value} {a:α},h.sub h' →rel h cs a→rel h' cs a
 one:∀ {h:Fr} {cs:List Value} {a:α},rel h cs a→∀ c∈cs,c.oneCell' =true
def av {α:Type} (T:ag α) (h:Fr) (v:Value) (xs:List α):Prop:=∃ aG:List (List Value),cG (T.rel h) aG xs∧qm h v T.k xs.length aG.flatten
section
variable {α:Type} {T:ag α} {h:Fr} {v:Value} {xs:List α}
theorem av.mono {h' :Fr} (s:h.sub h'):av T h v xs→av T h' v xs
 |⟨aG,a,b⟩=>⟨aG,a.imp fun _ _=>T.mono s,b.mono s⟩
theorem av.shape:av T h v xs→∃ a c,v=.slice a xs.length c
 |⟨_,_,a,c,hv,_⟩=>⟨a,c,hv⟩
theorem av.bound:av T h v xs→xs.length≤9223372036854775807
 |⟨_,_,b⟩=>b.bound
theorem cG.x2 {aG:List (List Value)} (ha:cG (T.rel h) aG xs) (i:Nat):aG.flatten.take (i*T.k)=(aG.take i).flatten:=by
 induction i generalizing aG xs with
 |zero=>simp
 |succ i ih =>
  cases aG with
  |nil=>simp
  |cons c aG =>
   cases xs with
   |nil=>exact ha.elim
   |cons x xs =>
    have hc:c.length=T.k:=T.len ha.1;simp only [List.flatten_cons,List.take_succ_cons];rw [Nat.succ_mul,List.take_append,List.take_of_length_le (by omega),show i*T.k+T.k - c.length=i*T.k from by omega,ih ha.2]
theorem cG.LX {aG:List (List Value)} (ha:cG (T.rel h) aG xs) (i:Nat):aG.flatten.drop (i*T.k)=(aG.drop i).flatten:=by
 induction i generalizing aG xs with
 |zero=>simp
 |succ i ih =>
  cases aG with
  |nil=>simp
  |cons c aG =>
   cases xs with
   |nil=>exact ha.elim
   |cons x xs =>
    have hc:c.length=T.k:=T.len ha.1;simp only [List.flatten_cons,List.drop_succ_cons];rw [Nat.succ_mul,List.drop_append,List.drop_eq_nil_of_le (by omega),List.nil_append,show i*T.k+T.k - c.length=i*T.k from by omega,ih ha.2]
theorem cG.FP {aG:List (List Value)} (ha:cG (T.rel h) aG xs) (i:Nat) (hi:i<aG.length):(aG.flatten.drop (i*T.k)).take T.k=aG[i]:=by
 rw [ha.LX,List.drop_eq_getElem_cons hi,List.flatten_cons,List.take_append];have hc:aG[i].length=T.k:=T.len (ha.get i hi (by rw [← ha.length];exact hi));rw [List.take_of_length_le (by omega),hc];simp
end
section
variable {ro:Option Nat} {P:Program} {σ:List (Nat × Value)} {g:bp} {aa ζ:List az} {fn:Func} {n:Nat} {R:Ending→World→Prop} {K:List Item} {D:List Deferred} {ops:Array Oper} {i d:Nat} {l:List Nat}
 {t e:TypeId} {x y:Operand} {v:Value} {kd:IntKind} {j:Nat}
theorem Nd {α:Type} {T:ag α} {xs:List α} (ht:P.underlying t=some (.slice e)) (he:(P.info? e).map (·.size)=some T.k) (hx:aE σ x=some v) {de:Int} (hy:aE σ y=some (.int kd de)) (eN:de=(j:Int))
  (hs:av T g.h v xs) (iz:0<T.k) (hm:j<xs.length):∃ p cs,(∀ aa,aK P (.indexAddr t x y) σ g aa (.pointer (some p)) aa)∧cg g.h p cs∧T.rel g.h cs xs[j]:=by
 subst eN;obtain ⟨aG,ha,iP⟩:=hs;obtain ⟨a,cap,rfl,h1,h2,h3,h4⟩:=iP
 cases a with
 |none =>
  have:0<aG.flatten.length:=by rw [h3];exact Nat.mul_pos (by omega) iz
  obtain ⟨p,hp,_⟩:=h4 0 this
  cases hp
 |some a =>
  have hj:j<aG.length:=by rw [ha.length];exact hm
  refine ⟨a.add (j*T.k),aG[j],fun aa=>.run fun o ρ w ho hk=>?_,?_,ha.get j hj hm⟩
  ·have hij:(j:Int)<(xs.length:Int):=by omega
   simp [execOp,ho,hk x _ hx,hk y _ hy,Instr.indexAt,asIntOf,run_underlying ht,hm,run_sizeOf he]
  ·rw [← ha.FP j hj]
   intro q hq
   rw [Addr.add_add];have Ht :j*T.k+q<aG.flatten.length:=by simp only [List.length_take,List.length_drop] at hq;omega
   obtain ⟨p,hp,hc⟩:=h4 _ Ht
   cases hp
   rw [hc];simp
theorem O.idx' {α:Type} {T:ag α} {xs:List α} (ho:cA ops i n σ d (.indexAddr t x y)) (ht:P.underlying t=some (.slice e)) (he:(P.info? e).map (·.size)=some T.k) (hx:aE σ x=some v)
  {de:Int} (hy:aE σ y=some (.int kd de)) (eN:de=(j:Int)) (hs:av T g.h v xs) (iz:0<T.k) (hm:j<xs.length)
  (h:∀ p cs,cg g.h p cs→T.rel g.h cs xs[j]→O ro P fn n R ops l K ((d,.pointer (some p))::σ) D g aa):O ro P fn n R ops (i::l) K σ D g aa:=by
 obtain ⟨p,cs,h1,h2,h3⟩:=Nd ht he hx hy eN hs iz hm;exact O.op ho (h1 aa) (h p cs h2 h3)
theorem ah.idx' {α:Type} {T:ag α} {xs:List α} (ho:cA ops i n σ d (.indexAddr t x y)) (ht:P.underlying t=some (.slice e)) (he:(P.info? e).map (·.size)=some T.k) (hx:aE σ x=some v)
  {de:Int} (hy:aE σ y=some (.int kd de)) (eN:de=(j:Int)) (hs:av T g.h v xs) (iz:0<T.k) (hm:j<xs.length)
  (h:∀ p cs,cg g.h p cs→T.rel g.h cs xs[j]→ah P fn n R ops K D g l ((d,.pointer (some p))::σ) aa):ah P fn n R ops K D g (i::l) σ aa:=by
 obtain ⟨p,cs,h1,h2,h3⟩:=Nd ht he hx hy eN hs iz hm;exact .quiet ho rfl h1 (h p cs h2 h3)
theorem Bj {α:Type} {T:ag α} {xs:List α} {r:Fr} {lo hi:Option Operand} {a b:Nat} {kl kh:IntKind} (ht:P.underlying t=some (.slice e)) (he:(P.info? e).map (·.size)=some T.k) (hx:aE σ x=some v)
  (hlo:∀ y,lo=some y→aE σ y=some (.int kl (a:Int))) (CW :lo=none→a=0) (hhi:∀ y,hi=some y→aE σ y=some (.int kh (b:Int))) (Ah :hi=none→b=xs.length)
  (hs:av T r v xs) (hab:a≤b) (hb:b≤xs.length):∃ u,(∀ aa,aK P (.slice t x lo hi none) σ g aa u aa)∧av T r u ((xs.take b).drop a):=by
 obtain ⟨aG,ha,iP⟩:=hs;obtain ⟨ad,cap,rfl,h1,h2,h3,h4⟩:=iP;refine ⟨.slice (if cap=a then ad else ad.map (·.add (a*T.k))) (b - a) (cap - a),fun aa=>.run fun o ρ w ho hk=>?_,(aG.take b).drop a,(ha.take b).drop a,?_⟩
 ·have e1:(a:Int)≤(b:Int):=by omega
  have e2:(b:Int)≤(cap:Int):=by omega
  have ML:lo=none→a=0:=CW
  cases lo with
  |none =>
   have:=CW rfl;subst this
   cases hi with
   |none=>have:=Ah rfl;subst this;simp [execOp,ho,hk x _ hx,Instr.sliceAt,run_underlying ht,Instr.slice,Instr.sliceBounds,run_sizeOf he]
   |some y =>
    have hb' :b≤cap:=by omega
    simp [execOp,ho,hk x _ hx,hk y _ (hhi y rfl),Instr.sliceAt,run_underlying ht,Instr.slice,Instr.sliceBounds,Instr.sliceBound,asIntOf,hb',run_sizeOf he]
  |some z =>
   cases hi with
   |none=>have:=Ah rfl;subst this;simp [execOp,ho,hk x _ hx,hk z _ (hlo z rfl),Instr.sliceAt,run_underlying ht,Instr.slice,Instr.sliceBounds,Instr.sliceBound,asIntOf,hab,run_sizeOf he]
   |some y =>
    have hb' :b≤cap:=by omega
    simp [execOp,ho,hk x _ hx,hk z _ (hlo z rfl),hk y _ (hhi y rfl),Instr.sliceAt,run_underlying ht,Instr.slice,Instr.sliceBounds,Instr.sliceBound,asIntOf,hab,hb',run_sizeOf he]
 ·have hlen:((xs.take b).drop a).length=b - a:=by simp;omega
  have hcs:((aG.take b).drop a).flatten=(aG.flatten.take (b*T.k)).drop (a*T.k):=by
   rw [ha.x2 b,(ha.take b).LX a]
  refine ⟨_,cap - a,by rw [hlen],by omega,⟨by omega,fun h=>?_⟩,?_,?_⟩
  ·cases ad with
   |none=>have:=h2.2 rfl;omega
   |some ad=>simp only [Option.map_some] at h;split at h<;>cases h
  ·rw [hcs,hlen,List.length_drop,List.length_take,h3,Nat.sub_mul,Nat.min_eq_left (Nat.mul_le_mul_right _ hb)]
  ·intro q hq
   rw [hcs] at hq;have Hw:a*T.k+q<aG.flatten.length:=by simp only [List.length_take,List.length_drop] at hq;omega
   obtain ⟨p,rfl,hc⟩:=h4 _ Hw;have hne:cap≠a:=by
    rintro rfl;have:aG.flatten.length≤cap*T.k:=by rw [h3];exact Nat.mul_le_mul_right _ (by omega)
    omega
   refine ⟨p.add (a*T.k),by simp [hne],?_⟩;rw [Addr.add_add,hc]
   simp [hcs]
end
section
variable {ro:Option Nat} {P:Program} {σ:List (Nat × Value)} {g:bp} {aa ζ:List az} {fn:Func} {n:Nat} {R:Ending→World→Prop} {K:List Item} {D:List Deferred} {ops:Array Oper} {i d:Nat} {l:List Nat}
 {t e:TypeId} {x y z:Operand} {v:Value} {ka kb:IntKind} {sL m6:Int} {a b:Nat} {α:Type} {T:ag α} {xs:List α} {r:Fr}
theorem O.sliceTo (ho:cA ops i n σ d (.slice t x none (some y) none)) (ht:P.underlying t=some (.slice e)) (he:(P.info? e).map (·.size)=some T.k) (hx:aE σ x=some v) (hy:aE σ y=some (.int kb m6)) (hs:av T r v xs) (hz:m6=(b:Int)) (hb:b≤xs.length)
  (h:∀ u,av T r u (xs.take b)→O ro P fn n R ops l K ((d,u)::σ) D g aa):O ro P fn n R ops (i::l) K σ D g aa:=by
 subst hz;obtain ⟨u,h1,h2⟩:=Bj (g:=g) (a:=0) (b:=b) (kl:=.i64) ht he hx (lo:=none) (hi:=some y) (fun _ h=>nomatch h) (fun _=>rfl) (fun _ h=>by cases h;exact hy) (fun h=>nomatch h) hs (Nat.zero_le _) hb;exact O.op ho (h1 aa) (h u h2)
theorem O.sliceFrom (ho:cA ops i n σ d (.slice t x (some y) none none)) (ht:P.underlying t=some (.slice e)) (he:(P.info? e).map (·.size)=some T.k) (hx:aE σ x=some v) (hy:aE σ y=some (.int ka sL)) (hs:av T r v xs) (hz:sL=(a:Int)) (ha:a≤xs.length)
  (h:∀ u,av T r u (xs.drop a)→O ro P fn n R ops l K ((d,u)::σ) D g aa):O ro P fn n R ops (i::l) K σ D g aa:=by
 subst hz;obtain ⟨u,h1,h2⟩:=Bj (g:=g) (a:=a) (b:=xs.length) (kh:=.i64) ht he hx (lo:=some y) (hi:=none) (fun _ h=>by cases h;exact hy) (fun h=>nomatch h) (fun _ h=>nomatch h) (fun _=>rfl) hs ha (Nat.le_refl _);exact O.op ho (h1 aa) (h u (by rw [List.take_length] at h2;exact h2))
theorem O.acG (ho:cA ops i n σ d (.slice t x (some y) (some z) none)) (ht:P.underlying t=some (.slice e)) (he:(P.info? e).map (·.size)=some T.k) (hx:aE σ x=some v) (hy:aE σ y=some (.int ka sL)) (hz:aE σ z=some (.int kb m6)) (hs:av T r v xs) (h1:sL=(a:Int)) (h2:m6=(b:Int)) (hab:a≤b) (hb:b≤xs.length)
  (h:∀ u,av T r u ((xs.take b).drop a)→O ro P fn n R ops l K ((d,u)::σ) D g aa):O ro P fn n R ops (i::l) K σ D g aa:=by
 subst h1;subst h2;obtain ⟨u,h1,h2⟩:=Bj (g:=g) (a:=a) (b:=b) ht he hx (lo:=some y) (hi:=some z) (fun _ h=>by cases h;exact hy) (fun h=>nomatch h) (fun _ h=>by cases h;exact hz) (fun h=>nomatch h) hs hab hb;exact O.op ho (h1 aa) (h u h2)
end
def aT (b:UInt8):Value:=.int .u8 b.toNat
def str (xs:List UInt8):ByteArray:=⟨xs.toArray⟩
@[simp] theorem P1 (xs:List UInt8):(str xs).toList=xs:=by rw [ByteArray.toList_eq];rfl
@[simp] theorem l5 (xs:List UInt8):(str xs).size=xs.length:=by simp [str,ByteArray.size]
def ag.u8:ag UInt8:={ k:=1,rel:=fun _ cs b=>cs=[aT b],len:=fun h=>by rw [h];rfl,mono:=fun _ h=>h,one:=fun h c hc=>by subst h;simp at hc;subst hc;rfl }
def aS (z:Int):Prop:= -9223372036854775808≤z∧z≤9223372036854775807
def ag.i64:ag Int:={ k:=1,rel:=fun _ cs z=>cs=[.int .i64 z]∧aS z,len:=fun h=>by rw [h.1];rfl,mono:=fun _ h=>h,one:=fun h c hc=>by rw [h.1] at hc;simp at hc;subst hc;rfl }
def ag.bool:ag Bool:={ k:=1,rel:=fun _ cs b=>cs=[.bool b],len:=fun h=>by rw [h];rfl,mono:=fun _ h=>h,one:=fun h c hc=>by subst h;simp at hc;subst hc;rfl }
def ag.str:ag (List UInt8):={ k:=1,rel:=fun _ cs s=>cs=[.string (Go.Sp.str s)]∧s.length≤9223372036854775807,len:=fun h=>by rw [h.1];rfl,mono:=fun _ h=>h,one:=fun h c hc=>by rw [h.1] at hc;simp at hc;subst hc;rfl }
def ag.slice {α:Type} (T:ag α):ag (List α):={ k:=1,rel:=fun h cs xs=>∃ v,cs=[v]∧av T h v xs,len:=fun ⟨_,h,_⟩=>by rw [h];rfl,mono:=fun s ⟨v,h,a⟩=>⟨v,h,a.mono s⟩,one:=fun ⟨v,h,a⟩ c hc=>by subst h;simp at hc;subst hc;obtain ⟨_,_,rfl⟩:=a.shape;rfl }
def ag.val:ag Value:={ k:=1,rel:=fun _ cs v=>cs=[v]∧v.oneCell' =true,len:=fun h=>by rw [h.1];rfl,mono:=fun _ h=>h,one:=fun h c hc=>by rw [h.1] at hc;simp at hc;subst hc;exact h.2 }
def ag.cells (k:Nat):ag (List Value):={ k:=k,rel:=fun _ cs c=>cs=c∧c.length=k∧∀ v∈c,v.oneCell' =true,len:=fun h=>by rw [h.1];exact h.2.1,mono:=fun _ h=>h,one:=fun h c hc=>by rw [h.1] at hc;exact h.2.2 c hc }
theorem av.rows {α:Type} {T:ag α} {h:Fr} {v:Value} {vs:List Value} {xss:List (List α)} (hv:av ag.val h v vs) (ha:cG (av T h) vs xss):av (ag.slice T) h v xss:=by
 obtain ⟨aG,h1,h2⟩:=hv;refine ⟨aG,?_,by rw [← ha.length];exact h2⟩;clear h2
 induction aG generalizing vs xss with
 |nil=>cases vs with
  |nil=>cases xss with
   |nil=>trivial
   |cons _ _=>exact ha.elim
  |cons _ _=>exact h1.elim
 |cons c aG ih=>cases vs with
  |nil=>exact h1.elim
  |cons v vs=>cases xss with
   |nil=>exact ha.elim
   |cons x xss=>exact ⟨⟨v,h1.1.1,ha.1⟩,ih ha.2 h1.2⟩
theorem av.nil {α:Type} {T:ag α} {h:Fr}:av T h (.slice none 0 0) ([]:List α):=⟨[],trivial,none,0,rfl,Nat.le_refl _,⟨by omega,fun _=>rfl⟩,by simp,fun j hj=>by simp at hj⟩
theorem av.Od {α:Type} {T:ag α} {h:Fr} {m c:Nat} {xs:List α} (hk:0<T.k):av T h (.slice none m c) xs→xs=[]∧m=0∧c=0
 |⟨aG,h1,a,c',h2,_,hc,h5,h6⟩=>by
  cases h2
  refine ⟨?_,?_,hc.2 rfl⟩
  rotate_left
  ·have:=hc.2 rfl;omega
  cases xs with
  |nil=>rfl
  |cons x xs =>
   have:0<aG.flatten.length:=by rw [h5];exact Nat.mul_pos (by simp) hk
   obtain ⟨p,hp,_⟩:=h6 0 this
   cases hp
end Go.Sp
end
section
/- Texts of this proof. -/
namespace Go.Sp
section
variable {ro:Option Nat} {P:Program} {σ σ' :List (Nat × Value)} {g:bp} {aa au ζ:List az} {fn:Func} {n:Nat} {R:Ending→World→Prop} {k K:List Item} {D:List Deferred} {ops:Array Oper} {i d:Nat} {l:List Nat} {t e:TypeId} {x y:Operand} {todo:List Item}
theorem aK.loadAt {p:Addr} {cs:List Value} {v:Value} (ht:gd P t=true) (hx:aE σ x=some (.pointer (some p))) (hp:cg g.h p cs) (hv:cs[0]?=some v):aK P (.load t x) σ g aa v aa :=
 .load ht hx (by have:=hp.at hv;rwa [Addr.add_zero] at this)
theorem dj.imp {op:Op} {A B:Value→List az→Prop} (h:dj P op σ g aa A) (hab:∀ v au,A v au →B v au):dj P op σ g aa B :=
 fun o ρ w h1 h2 h3=>let ⟨v,w',au,a,b,c⟩:=h o ρ w h1 h2 h3;⟨v,w',au,hab _ _ a,b,c⟩
theorem S.ev {ι:Type} {c:Code} (φ:ι→Prop) (σs:ι→List (Nat × Value)) (keep:List (Nat × Value)) (jC:ι→List az) (μ:ι→Nat) (jB:ι) (h₀:φ jB) (tG:Sub (σs jB) σ) (hk:Sub keep σ) (jJ:aa=jC jB)
  (round:∀ x,φ x→(∀ y,φ y→μ y<μ x→S ro P fn n R (.inLoop c::k) (σs y++keep) D g (jC y))→S ro P fn n R (.code c::.inLoop c::k) (σs x++keep) D g (jC x)) :
  S ro P fn n R (.code (.loop c)::k) σ D g aa:=by
 refine S.loop φ (fun x=>σs x++keep) jC μ jB h₀ ?_ jJ round
 intro t v hv
 have:∀ (l:List (Nat × Value)),look (l++keep) t=some v→look l t=some v∨look keep t=some v:=by
  intro l
  induction l with
  |nil=>exact .inr
  |cons p l ih =>
   intro h
   obtain ⟨s,u⟩:=p;simp only [List.cons_append,look] at h ⊢
   split at h
   ·exact .inl h
   ·exact ih h
 rcases this _ hv with h|h
 ·exact tG t v h
 ·exact hk t v h
theorem S.i_ {ι dy:Type} {c:Code} (φ:ι→dy→Prop) (σs:ι→dy→List (Nat × Value)) (keep:List (Nat × Value)) (jC:ι→dy→List az) (μ:ι→dy→Nat) (jB:ι) (oJ:dy) (h₀:φ jB oJ) (tG:Sub (σs jB oJ) σ) (hk:Sub keep σ) (jJ:aa=jC jB oJ)
  (round:∀ x y,φ x y→(∀ x' y',φ x' y' →μ x' y' <μ x y→S ro P fn n R (.inLoop c::k) (σs x' y' ++keep) D g (jC x' y'))→S ro P fn n R (.code c::.inLoop c::k) (σs x y++keep) D g (jC x y)) :
  S ro P fn n R (.code (.loop c)::k) σ D g aa :=
 S.ev (ι:=ι × dy) (fun p=>φ p.1 p.2) (fun p=>σs p.1 p.2) keep (fun p=>jC p.1 p.2) (fun p=>μ p.1 p.2) (jB,oJ) h₀ tG hk jJ fun p hp ih=>round p.1 p.2 hp fun x' y' h1 h2=>ih (x',y') h1 h2
theorem S.wE {ι dy gN:Type} {c:Code} (φ:ι→dy→gN→Prop) (σs:ι→dy→gN→List (Nat × Value)) (keep:List (Nat × Value)) (jC:ι→dy→gN→List az) (μ:ι→dy→gN→Nat) (jB:ι) (oJ:dy) (um:gN) (h₀:φ jB oJ um) (tG:Sub (σs jB oJ um) σ) (hk:Sub keep σ) (jJ:aa=jC jB oJ um)
  (round:∀ x y z,φ x y z→(∀ x' y' z',φ x' y' z' →μ x' y' z' <μ x y z→S ro P fn n R (.inLoop c::k) (σs x' y' z' ++keep) D g (jC x' y' z'))→S ro P fn n R (.code c::.inLoop c::k) (σs x y z++keep) D g (jC x y z)) :
  S ro P fn n R (.code (.loop c)::k) σ D g aa :=
 S.ev (ι:=ι × dy × gN) (fun p=>φ p.1 p.2.1 p.2.2) (fun p=>σs p.1 p.2.1 p.2.2) keep (fun p=>jC p.1 p.2.1 p.2.2) (fun p=>μ p.1 p.2.1 p.2.2) (jB,oJ,um) h₀ tG hk jJ fun p hp ih=>round p.1 p.2.1 p.2.2 hp fun x' y' z' h1 h2=>ih (x',y',z') h1 h2
theorem S.r0 {ι dy gN aL:Type} {c:Code} (φ:ι→dy→gN→aL→Prop) (σs:ι→dy→gN→aL→List (Nat × Value)) (keep:List (Nat × Value)) (jC:ι→dy→gN→aL→List az) (μ:ι→dy→gN→aL→Nat) (jB:ι) (oJ:dy) (um:gN) (D6:aL) (h₀:φ jB oJ um D6) (tG:Sub (σs jB oJ um D6) σ) (hk:Sub keep σ) (jJ:aa=jC jB oJ um D6)
  (round:∀ x y z u,φ x y z u→(∀ x' y' z' u',φ x' y' z' u' →μ x' y' z' u' <μ x y z u→S ro P fn n R (.inLoop c::k) (σs x' y' z' u' ++keep) D g (jC x' y' z' u'))→S ro P fn n R (.code c::.inLoop c::k) (σs x y z u++keep) D g (jC x y z u)) :
  S ro P fn n R (.code (.loop c)::k) σ D g aa :=
 S.ev (ι:=ι × dy × gN × aL) (fun p=>φ p.1 p.2.1 p.2.2.1 p.2.2.2) (fun p=>σs p.1 p.2.1 p.2.2.1 p.2.2.2) keep (fun p=>jC p.1 p.2.1 p.2.2.1 p.2.2.2) (fun p=>μ p.1 p.2.1 p.2.2.1 p.2.2.2) (jB,oJ,um,D6) h₀ tG hk jJ
  fun p hp ih=>round p.1 p.2.1 p.2.2.1 p.2.2.2 hp fun x' y' z' u' h1 h2=>ih (x',y',z',u') h1 h2
theorem Sub.Fu {v v' :Value} {s:Nat} {aL:List (Nat × Value)} (h:look σ s=some v) (e:v=v') (hs:Sub aL σ):Sub ((s,v')::aL) σ:=by subst e;exact Sub.cons h hs
theorem S.slot {v v' :Value} (s:Nat) (hl:look σ s=some v) (e:v=v') (h:S ro P fn n R todo ((s,v')::σ) D g aa):S ro P fn n R todo σ D g aa:=S.weaken (Sub.Fu hl e Sub.refl) h
theorem O.slot {v v' :Value} {L:List Nat} (s:Nat) (hl:look σ s=some v) (e:v=v') (h:O ro P fn n R ops L k ((s,v')::σ) D g aa):O ro P fn n R ops L k σ D g aa:=O.weaken (Sub.Fu hl e Sub.refl) h
theorem O.aN {f:FuncId} {xs:Array Operand} {ts:Array TypeId} {b9:List Value} {K' :Value→List az→Prop} {first cap:Array Value} (ho:cA ops i n σ d (.call ⟨.value x,xs,ts⟩)) (hx:aE σ x=some (.func (.func f) first cap)) (hc:ed P f=true)
  (hv:e8 σ xs.toList=some b9) {args:Array Value} (hargs:first++b9.toArray++cap=args) (con:aj P f args g.h [] (aF K'))
  (h:∀ v au,K' v au →O ro P fn n R ops l k ((d,v)::σ) D g (au ++aa)):O ro P fn n R ops (i::l) k σ D g aa:=O.call (aa:=[]) (ζ:=aa) ho hx hc hv hargs con h
theorem eo.aN {f:FuncId} {xs:Array Operand} {ts:Array TypeId} {b9:List Value} {K' :Value→List az→Prop} {first cap:Array Value} (ho:cA ops i n σ d (.call ⟨.value x,xs,ts⟩)) {bZ:Bool} (hd:fX bZ ops i l=true) (hx:aE σ x=some (.func (.func f) first cap)) (hc:ed P f=true)
  (hv:e8 σ xs.toList=some b9) {args:Array Value} (hargs:first++b9.toArray++cap=args) (con:aj P f args g.h [] (aF K'))
  (h:∀ v au,K' v au →ah P fn n R ops k D g l ((d,v)::σ) (au ++aa)):bt P fn n R ops k D g bZ (i::l) σ aa:=eo.call (aa:=[]) (ζ:=aa) ho hd hx hc hv hargs con h
theorem ah.aN {f:FuncId} {xs:Array Operand} {ts:Array TypeId} {b9:List Value} {K' :Value→List az→Prop} {first cap:Array Value} (ho:cA ops i n σ d (.call ⟨.value x,xs,ts⟩)) (hd:gG ops [i] l=true) (hx:aE σ x=some (.func (.func f) first cap)) (hc:ed P f=true) (hv:e8 σ xs.toList=some b9) {args:Array Value} (hargs:first++b9.toArray++cap=args) (con:aj P f args g.h [] (aF K')) (h:∀ v au,K' v au →ah P fn n R ops k D g l ((d,v)::σ) (au ++aa)):ah P fn n R ops k D g (i::l) σ aa:=eo.aN (bZ:=false) ho (by simpa [fX] using hd) hx hc hv hargs con h
theorem e3.aN {f:FuncId} {xs:Array Operand} {ts:Array TypeId} {b9:List Value} {K' :Value→List az→Prop} {first cap:Array Value} (ho:cA ops i n σ d (.call ⟨.value x,xs,ts⟩)) (_:true=true) (hx:aE σ x=some (.func (.func f) first cap)) (hc:ed P f=true) (hv:e8 σ xs.toList=some b9) {args:Array Value} (hargs:first++b9.toArray++cap=args) (con:aj P f args g.h [] (aF K')) (h:∀ v au,K' v au →ah P fn n R ops k D g l ((d,v)::σ) (au ++aa)):bt P fn n R ops k D g true (i::l) σ aa:=eo.aN (bZ:=true) ho rfl hx hc hv hargs con h
inductive lC:List az→List az→List az→Prop
 |nil {aa:List az}:lC aa [] aa
 |cons {aa ζ cL:List az} {A:az} {bs:List az}:bA aa A ζ→lC ζ bs cL→lC aa (A::bs) cL
theorem lC.perm {aa bs cL:List az} (s:lC aa bs cL):aa.Perm (bs++cL):=by
 induction s with
 |nil=>exact .refl _
 |cons s _ ih=>exact s.perm.trans (.cons _ ih)
theorem aj.Is {f:FuncId} {args:Array Value} {h:Fr} {bs:List az} {Post:Ending→List az→Prop} (con:∀ m:Fr,Sat bs m→h.ea m→aj P f args (h.add m) [] Post) :
  aj P f args h bs fun e au =>∃ eX,Post e eX∧au =eX++bs:=fun g hg w hw=>by
 obtain ⟨m,hm,hd,hw'⟩:=ax.CD (aa:=[]) (ζ:=bs) hw;have ny :h.ea m:=Fr.eG hd hg (Fr.bH _);refine (con m hm ny (g.add m) (Fr.iK (Fr.bQ hg (Fr.fi _ _)) (Fr.jw hd)) w hw').mono fun e w' ⟨au,x,y⟩=>⟨au ++bs,⟨au,x,rfl⟩,y.JZ hm hd⟩
theorem O.dh {f:FuncId} {xs:Array Operand} {ts:Array TypeId} {b9:List Value} {K' :Value→List az→Prop} {first cap:Array Value} (ho:cA ops i n σ d (.call ⟨.value x,xs,ts⟩)) (hx:aE σ x=some (.func (.func f) first cap)) (hc:ed P f=true)
  (hv:e8 σ xs.toList=some b9) {args:Array Value} (hargs:first++b9.toArray++cap=args) {bs:List az} (hb:lC aa bs ζ) (con:∀ m:Fr,Sat bs m→g.h.ea m→aj P f args (g.h.add m) [] (aF K'))
  (h:∀ v au,K' v au →O ro P fn n R ops l k ((d,v)::σ) D g (au ++(bs++ζ))):O ro P fn n R ops (i::l) k σ D g aa:=by
 have GJ:aj P f args g.h bs (aF fun v au =>∃ eX,K' v eX∧au =eX++bs):=(aj.Is con).mono fun e au ⟨eX,a,b⟩=>by
  cases e with
  |returned v=>exact ⟨eX,a,b⟩
  |panicked _=>exact a.elim
  |outgrown=>exact a.elim
 have:=O.call (ζ:=ζ) ho hx hc hv hargs GJ (R:=R) (l:=l) (k:=k) (D:=D) (fn:=fn) fun v au ⟨eX,a,b⟩=>by
  subst b;rw [List.append_assoc];exact h v eX a
 exact fun a w hf hd hw=>this a w hf hd (hw.perm hb.perm)
theorem bt.perm {bZ:Bool} {L:List Nat} (p:aa.Perm au) (h:bt P fn n R ops k D g bZ L σ au):bt P fn n R ops k D g bZ L σ aa:=by
 induction h generalizing aa with
 |nil h=>exact .nil (S.perm p h)
 |quiet ho hna eb h ih=>exact .quiet ho hna eb (ih p)
 |no ho hna hl uV h ih=>exact .no ho hna hl uV (ih p)
 |lazy ho hd hz h ih=>exact .lazy ho hd hz fun b=>ih b (p.cons _)
 |@mI i d l σ eX KA f x xs ts b9 K' X' first cap args ho hx hc hv hargs con hp h ih =>
  have RQ :aj P f args g.h aa (dg (fun v au =>∃ m7,K' v m7∧au =m7++KA) (fun ch au =>∃ m7,X' ch m7∧au =m7++KA)):=fun g' hg w hw=>((con.frame (ζ:=KA)) g' hg w (hw.perm p)).mono fun e w' ⟨au,a,b⟩=>⟨au,by
   cases e with
   |returned v=>exact a
   |panicked _=>exact a
   |outgrown=>obtain ⟨_,h1,_⟩:=a;exact h1.elim,b⟩
  have:=bt.mI (aa:=aa) (ζ:=[]) (l:=l) ho hx hc hv hargs RQ (fun a ch au w ⟨m7,h1,h2⟩ hw=>hp a ch m7 w h1 (by subst h2;simpa using hw)) fun v au ⟨m7,h1,h2⟩=>ih v m7 h1 (aa:=au ++[]) (by subst h2;simp)
  simpa using this
 |@kQ i d op l σ ai6 K' ho hna eb h ih =>
  exact .kQ ho hna (K:=K') (fun ζ o ρ w h1 h2 h3=>eb ζ o ρ w h1 h2 (h3.perm (p.append_right _))) fun v au a=>ih v au a (.refl _)
 |o7 ho hna eb h ih =>
  exact .o7 ho hna (fun ζ o ρ w h1 h2 h3=>eb ζ o ρ w h1 h2 (h3.perm (p.append_right _))) (ih (.refl _))
 |tK ho hna hl eb h=>exact .tK ho hna hl (fun o ρ w h1 h2 h3=>eb o ρ w h1 h2 (h3.perm p)) h
 |one hd h ih=>exact .one hd (ih p)
 |swap l' hp h ih=>exact .swap l' hp (ih p)
 |alt kn hok h ih=>exact .alt kn hok fun i hi=>ih i hi p
theorem ah.perm {L:List Nat} (p:aa.Perm au) (h:ah P fn n R ops k D g L σ au):ah P fn n R ops k D g L σ aa:=bt.perm p h
theorem eo.dh {f:FuncId} {xs:Array Operand} {ts:Array TypeId} {b9:List Value} {K' :Value→List az→Prop} {first cap:Array Value} (ho:cA ops i n σ d (.call ⟨.value x,xs,ts⟩)) {bZ:Bool} (hd:fX bZ ops i l=true) (hx:aE σ x=some (.func (.func f) first cap)) (hc:ed P f=true)
  (hv:e8 σ xs.toList=some b9) {args:Array Value} (hargs:first++b9.toArray++cap=args) {bs:List az} (hb:lC aa bs ζ) (con:∀ m:Fr,Sat bs m→g.h.ea m→aj P f args (g.h.add m) [] (aF K'))
  (h:∀ v au,K' v au →ah P fn n R ops k D g l ((d,v)::σ) (au ++(bs++ζ))):bt P fn n R ops k D g bZ (i::l) σ aa:=by
 have GJ:aj P f args g.h bs (aF fun v au =>∃ eX,K' v eX∧au =eX++bs):=(aj.Is con).mono fun e au ⟨eX,a,b⟩=>by
  cases e with
  |returned v=>exact ⟨eX,a,b⟩
  |panicked _=>exact a.elim
  |outgrown=>exact a.elim
 exact bt.perm hb.perm (eo.call (ζ:=ζ) ho hd hx hc hv hargs GJ fun v au ⟨eX,a,b⟩=>by
  subst b;rw [List.append_assoc];exact h v eX a)
theorem ah.dh {f:FuncId} {xs:Array Operand} {ts:Array TypeId} {b9:List Value} {K' :Value→List az→Prop} {first cap:Array Value} (ho:cA ops i n σ d (.call ⟨.value x,xs,ts⟩)) (hd:gG ops [i] l=true) (hx:aE σ x=some (.func (.func f) first cap)) (hc:ed P f=true) (hv:e8 σ xs.toList=some b9) {args:Array Value} (hargs:first++b9.toArray++cap=args) {bs:List az} (hb:lC aa bs ζ) (con:∀ m:Fr,Sat bs m→g.h.ea m→aj P f args (g.h.add m) [] (aF K')) (h:∀ v au,K' v au →ah P fn n R ops k D g l ((d,v)::σ) (au ++(bs++ζ))):ah P fn n R ops k D g (i::l) σ aa:=eo.dh (bZ:=false) ho (by simpa [fX] using hd) hx hc hv hargs hb con h
theorem e3.dh {f:FuncId} {xs:Array Operand} {ts:Array TypeId} {b9:List Value} {K' :Value→List az→Prop} {first cap:Array Value} (ho:cA ops i n σ d (.call ⟨.value x,xs,ts⟩)) (_:true=true) (hx:aE σ x=some (.func (.func f) first cap)) (hc:ed P f=true) (hv:e8 σ xs.toList=some b9) {args:Array Value} (hargs:first++b9.toArray++cap=args) {bs:List az} (hb:lC aa bs ζ) (con:∀ m:Fr,Sat bs m→g.h.ea m→aj P f args (g.h.add m) [] (aF K')) (h:∀ v au,K' v au →ah P fn n R ops k D g l ((d,v)::σ) (au ++(bs++ζ))):bt P fn n R ops k D g true (i::l) σ aa:=eo.dh (bZ:=true) ho rfl hx hc hv hargs hb con h
theorem O.rK {f:FuncId} {xs:Array Operand} {ts:Array TypeId} {b9:List Value} {K' :Value→List az→Prop} {first cap:Array Value} {A:az} (ho:cA ops i n σ d (.call ⟨.value x,xs,ts⟩)) (hx:aE σ x=some (.func (.func f) first cap)) (hc:ed P f=true)
  (hv:e8 σ xs.toList=some b9) {args:Array Value} (hargs:first++b9.toArray++cap=args) (hs:bA aa A ζ) (con:aj P f args g.h [A] (aF K'))
  (h:∀ v au,K' v au →O ro P fn n R ops l k ((d,v)::σ) D g (au ++ζ)):O ro P fn n R ops (i::l) k σ D g aa :=
 fun a w hf hd hw=>O.call (aa:=[A]) (ζ:=ζ) ho hx hc hv hargs con h a w hf hd (hw.eJ hs)
theorem eo.rK {f:FuncId} {xs:Array Operand} {ts:Array TypeId} {b9:List Value} {K' :Value→List az→Prop} {first cap:Array Value} {A:az} (ho:cA ops i n σ d (.call ⟨.value x,xs,ts⟩)) {bZ:Bool} (hd:fX bZ ops i l=true) (hx:aE σ x=some (.func (.func f) first cap)) (hc:ed P f=true)
  (hv:e8 σ xs.toList=some b9) {args:Array Value} (hargs:first++b9.toArray++cap=args) (hs:bA aa A ζ) (con:aj P f args g.h [A] (aF K'))
  (h:∀ v au,K' v au →ah P fn n R ops k D g l ((d,v)::σ) (au ++ζ)):bt P fn n R ops k D g bZ (i::l) σ aa :=
 bt.perm hs.perm (eo.call (aa:=[A]) (ζ:=ζ) ho hd hx hc hv hargs con h)
theorem ah.rK {f:FuncId} {xs:Array Operand} {ts:Array TypeId} {b9:List Value} {K' :Value→List az→Prop} {first cap:Array Value} {A:az} (ho:cA ops i n σ d (.call ⟨.value x,xs,ts⟩)) (hd:gG ops [i] l=true) (hx:aE σ x=some (.func (.func f) first cap)) (hc:ed P f=true) (hv:e8 σ xs.toList=some b9) {args:Array Value} (hargs:first++b9.toArray++cap=args) (hs:bA aa A ζ) (con:aj P f args g.h [A] (aF K')) (h:∀ v au,K' v au →ah P fn n R ops k D g l ((d,v)::σ) (au ++ζ)):ah P fn n R ops k D g (i::l) σ aa:=eo.rK (bZ:=false) ho (by simpa [fX] using hd) hx hc hv hargs hs con h
theorem O.perm {L:List Nat} (p:aa.Perm ζ) (h:O ro P fn n R ops L k σ D g ζ):O ro P fn n R ops L k σ D g aa:=fun a w hf hd hw=>h a w hf hd (hw.perm p)
theorem O.eJ {L:List Nat} {A:az} (s:bA aa A ζ) (h:O ro P fn n R ops L k σ D g (A::ζ)):O ro P fn n R ops L k σ D g aa:=fun a w hf hd hw=>h a w hf hd (hw.eJ s)
theorem O.imp {L:List Nat} (hs:∀ m,Sat aa m→Sat au m) (h:O ro P fn n R ops L k σ D g au):O ro P fn n R ops L k σ D g aa:=fun a w hf hd hw=>h a w hf hd (hw.imp hs)
theorem O.freeze {L:List Nat} {A:az} (h:∀ m:Fr,A m→g.h.ea m→O ro P fn n R ops L k σ D (g.add m) aa):O ro P fn n R ops L k σ D g (A::aa) :=
 fun a w hf hd hw=>by
  obtain ⟨m,hm,eR,hw'⟩:=hw.freeze;exact h m hm eR a w hf hd hw'
theorem O.panic {L:List Nat} {v:Value} {nP:TypeId} (ho:nN ops i=some (.panic x)) (hx:aE σ x=some (.iface nP v)) (h:∀ w,ax w g aa→R (.panicked [{ v:=.iface nP v,recovered:=false }]) w):O ro P fn n R ops (i::L) k σ [] g aa:=by
 intro a w hf hd hw
 obtain ⟨o,hi,iO,hop,hg⟩:=tS ho;have hrun:(execOp a.eval o).run P w=.halt (.panic (.iface nP v)) w:=by
  simp [execOp,hop,hf.eval hx,Instr.panic]
 refine O.vL hi (by simp [Region.wanted,hg]) (by rw [hop];intro c hc;cases hc) hrun ?_;rw [Oper.uponIn_panic];exact Post.panic hd (h w hw)
theorem run_equal_pointer_nil (ht:P.underlying t=some (.pointer e)) (a:Option Addr) (w:World):(Op.equal t (.pointer a) (.pointer none)).run P w=.ok a.isNone w:=by
 show (Op.equalIn (9999+1) t (.pointer a) (.pointer none)).run P w=_
 rw [Op.equalIn]
 cases a<;>simp [run_underlying ht]
theorem aK.FG {u:TypeId} {a:Option Addr} (ht:P.underlying t=some (.pointer e)) (hx:aE σ x=some (.pointer a)) (hy:aE σ y=some (.pointer none)):aK P (.binOp .eql t x y u) σ g aa (.bool a.isNone) aa :=
 .run fun o ρ w ho hk=>by simp [execOp,ho,hk x _ hx,hk y _ hy,eqGuard,Go.binOp,run_equal_pointer_nil ht]
theorem aK.Oc {u:TypeId} {a:Option Addr} (ht:P.underlying t=some (.pointer e)) (hx:aE σ x=some (.pointer a)) (hy:aE σ y=some (.pointer none)):aK P (.binOp .neq t x y u) σ g aa (.bool (!a.isNone)) aa :=
 .run fun o ρ w ho hk=>by simp [execOp,ho,hk x _ hx,hk y _ hy,eqGuard,Go.binOp,run_equal_pointer_nil ht]
theorem aK.LH {u:TypeId} {a:Option Addr} {m c:Nat} (ht:P.underlying t=some (.slice e)) (hx:aE σ x=some (.slice a m c)) (hy:aE σ y=some (.slice none 0 0)):aK P (.binOp .eql t x y u) σ g aa (.bool a.isNone) aa :=
 .run fun o ρ w ho hk=>by simp [execOp,ho,hk x _ hx,hk y _ hy,eqGuard,Go.binOp,run_equal_slice_nil w t e a m c ht]
def Oj:TypeDesc→Bool
 |.interface _=>false
 |_=>true
theorem aK.Di {v:Value} {dd:TypeDesc} (ht:P.underlying t=some dd) (hx:aE σ x=some v) (hn:Oj dd=true:=by rfl):aK P (.makeInterface t x) σ g aa (.iface t v) aa :=
 .run fun o ρ w ho hk=>by
  simp only [execOp,ho,hk x _ hx,Instr.makeInterface,Sem.run_bind,run_underlying ht,Result.andThen_ok]
  cases dd<;>first|(simp;done)|exact Bool.noConfusion hn
def placesOf (P:Program):List Field→Option (List (Nat × Nat))
 |[]=>some []
 |f::fs=>match (P.info? f.type).map (·.size),placesOf P fs with|some m,some ps=>some ((f.offset,m)::ps)|_,_=>none
theorem run_places:∀ (fs:List Field) (ps:List (Nat × Nat)),placesOf P fs=some ps→∀ w,(fs.mapM fun (f:Field)=>(do pure (f.offset,← sizeOf f.type):Sem (Nat × Nat))).run P w=.ok ps w
 |[],ps,h,w=>by cases h;simp
 |f::fs,ps,h,w=>by
  simp only [placesOf] at h
  split at h
  ·rename_i m wQ hm hq
   cases h
   have ih:=run_places fs wQ hq w;simp only [List.mapM_cons,Sem.run_bind,run_sizeOf hm,Result.andThen_ok,Sem.run_pure,ih]
  ·cases h
def Cz (σ:List (Nat × Value)):List (Nat × Operand)→Option (List (Nat × Value))
 |[]=>some []
 |(j,x)::r=>match aE σ x,Cz σ r with|some v,some vs=>some ((j,v)::vs)|_,_=>none
theorem LJ {ρ:Operand→Value} (hk:oN σ ρ):∀ {xs:List (Nat × Operand)} {vs:List (Nat × Value)},Cz σ xs=some vs→xs.map (fun p=>(p.1,ρ p.2))=vs
 |[],_,h=>by cases h;rfl
 |(j,x)::xs,vs,h=>by
  simp only [Cz] at h
  split at h
  ·rename_i v us hv gP;cases h;simp [hk x v hv,LJ hk gP]
  ·cases h
def setAt:List Value→Nat→List Value→List Value
 |[],_,_=>[]
 |c::z,n+1,vs=>c::setAt z n vs
 |c::z,0,[]=>c::z
 |_::z,0,v::vs=>v::setAt z 0 vs
theorem JR:∀ (z:List Value) (n:Nat) (vs:List Value),n+vs.length≤z.length→setAt z n vs=z.take n++vs++z.drop (n+vs.length)
 |[],n,vs,h=>by simp at h;obtain ⟨rfl,rfl⟩:=h;rfl
 |c::z,n+1,vs,h=>by
  have:=JR z n vs (by simp at h;omega);simp only [setAt,this,List.take_succ_cons,List.cons_append];rw [show n+1+vs.length=(n+vs.length)+1 from by omega,List.drop_succ_cons]
 |c::z,0,[],h=>by simp [setAt]
 |c::z,0,v::vs,h=>by
  have:=JR z 0 vs (by simp at h;omega);simp only [setAt,this]
  simp
def CA (ps:List (Nat × Nat)):List Value→List (Nat × List Value)→Option (List Value)
 |z,[]=>some z
 |z,(i,c)::r=>match ps[i]? with
  |some (off,m)=>match Nat.beq c.length m,Nat.ble (off+m) z.length with
   |true,true=>CA ps (setAt z off c) r
   |_,_=>none
  |none=>none
def Ce:List (Nat × Value)→List (Nat × List Value)
 |[]=>[]
 |(i,v)::r=>(i,v.cells.toList)::Ce r
theorem LO {ps:List (Nat × Nat)}:∀ (vs:List (Nat × Value)) (z cs:List Value),CA ps z (Ce vs)=some cs→Instr.fill (ps[·]?) z.toArray vs=some cs.toArray
 |[],z,cs,h=>by cases h;rfl
 |(i,v)::vs,z,cs,h=>by
  simp only [Ce,CA] at h
  split at h
  ·rename_i off m hp
   split at h
   ·rename_i hb hl
    have hb:=Nat.eq_of_beq_eq_true hb;have hl:=Nat.le_of_ble_eq_true hl;have hs:v.cells.size=m:=by simpa using hb
    simp only [Instr.fill,hp];have h2:(decide (v.cells.size≠m) ||decide (off+v.cells.size>z.toArray.size))=false:=by simp;omega
    have hf:(v.cells.zipIdx.foldl (fun cs (x:Value × Nat)=>cs.setIfInBounds (off+x.2) x.1) z.toArray)=(setAt z off v.cells.toList).toArray:=by
     rw [← Array.foldl_toList,Array.toList_zipIdx,JR _ _ _ (by simpa [hs] using hl)];refine FV v.cells.toList (z.take off) ((z.drop off).take m) (z.drop (off+v.cells.toList.length)) 0 off z.toArray ?_ ?_ ?_
     ·rw [hb,← List.drop_drop,List.append_assoc,List.take_append_drop,List.take_append_drop]
     ·simp [hs];omega
     ·simp;omega
    rw [if_neg (by rw [h2];exact Bool.false_ne_true)];refine (congrArg (fun c=>Instr.fill _ c _) hf).trans (LO vs _ cs h)
   ·cases h
  ·cases h
theorem aK.build {fs:Array Field} {z:Value} {zs:List Value} {ps:List (Nat × Nat)} {parts:Array (Nat × Operand)} {vs:List (Nat × Value)} {cs:List Value} (ht:P.underlying t=some (.struct fs)) (hz:zeroOf P t=some z) (hzs:z.cells.toList=zs) (hps:placesOf P fs.toList=some ps)
  (hp:Cz σ parts.toList=some vs) (hf:CA ps zs (Ce vs)=some cs):aK P (.build t parts) σ g aa (.agg cs.toArray) aa :=
 .run fun o ρ w ho hk=>by
  subst hzs;have hm:(parts.map fun (p:Nat × Operand)=>(p.1,ρ p.2)).toList=vs:=by rw [Array.toList_map];exact LJ hk hp
  have As:(fs.mapM fun (f:Field)=>(do pure (f.offset,← sizeOf f.type):Sem (Nat × Nat))).run P w=.ok ps.toArray w:=by
   rw [Array.mapM_eq_mapM_toList,Sem.run_map,run_places _ _ hps];rfl
  have hf' :Instr.fill (fun j=>ps.toArray[j]?) z.cells (parts.map fun (p:Nat × Operand)=>(p.1,ρ p.2)).toList=some cs.toArray:=by
   have:=LO vs _ _ hf;rw [hm];rw [Array.toArray_toList] at this;rw [← this];congr 1;funext j;simp
  have hb:(Instr.build t (parts.map fun (p:Nat × Operand)=>(p.1,ρ p.2))).run P w=.ok (.agg cs.toArray) w:=by
   simp only [Instr.build,Sem.run_bind,Pf hz,Result.andThen_ok,run_underlying ht,As,hf']
   rfl
  have e1:(parts.map fun x=>match x with|(i,x)=>(i,ρ x))=parts.map fun (p:Nat × Operand)=>(p.1,ρ p.2):=rfl;simp only [execOp,ho,Sem.run_bind];rw [e1,hb];rfl
end
theorem ae6 {aa:List az}:lC aa [] aa:=.nil
theorem ae5 {aa ζ cL:List az} {A:az} {bs:List az} (h:bA aa A ζ) (k:lC ζ bs cL):lC aa (A::bs) cL:=.cons h k
end Go.Sp
end
end
section
/- Texts of this proof, one behind the other. -/
section
/- Texts of this proof, one behind the other. -/
section
/- Texts of this proof. -/
namespace Go.Sp
def A6 (σ:List (Nat × Value)):Op→Option Value
 |.move x=>aE σ x
 |.assign x=>aE σ x
 |.extract x j=>match aE σ x with|some (.tuple vs)=>vs[j]?|_=>none
 |.pick c x y=>match aE σ c with|some (.bool true)=>aE σ x|some (.bool false)=>aE σ y|_=>none
 |_=>none
theorem Ji {P:Program} {σ:List (Nat × Value)} {op:Op} {v:Value} (h:A6 σ op=some v):jK op=false∧∀ g aa,aK P op σ g aa v aa:=by
 unfold A6 at h
 split at h
 ·exact ⟨rfl,fun g aa=>.Y7 h⟩
 ·exact ⟨rfl,fun g aa=>.as h⟩
 ·split at h
  ·rename_i e;exact ⟨rfl,fun g aa=>.extract e h⟩
  ·cases h
 ·split at h
  ·rename_i e;exact ⟨rfl,fun g aa=>.Z7 e h⟩
  ·rename_i e;exact ⟨rfl,fun g aa=>.Z6 e h⟩
  ·cases h
 ·cases h
def Jh (ops:Array Oper) (n i:Nat) (σ:List (Nat × Value)):Option (Nat × Value) :=
 match AZ ops i n with
 |some (d,op)=>match A6 σ op with|some v=>some (d,v)|none=>none
 |none=>match u0 ops i n with
  |some (d,op,t,b)=>match look σ t with
   |some u=>match tQ b u with
    |true=>(match jK op with|false=>some (d,undef)|true=>none)
    |false=>match A6 σ op with|some v=>some (d,v)|none=>none
   |none=>none
  |none=>none
theorem OI {ops:Array Oper} {n i d:Nat} {σ:List (Nat × Value)} {v:Value} (h:Jh ops n i σ=some (d,v)) :
  (∃ op,cA ops i n σ d op∧A6 σ op=some v)∨(∃ op t b u,u0 ops i n=some (d,op,t,b)∧look σ t=some u∧tQ b u=true∧jK op=false∧v=undef):=by
 unfold Jh at h
 split at h
 ·rename_i e
  split at h
  ·rename_i e2;cases h;exact .inl ⟨_,.p e,e2⟩
  ·cases h
 ·split at h
  ·rename_i t b e
   split at h
   ·rename_i u e2
    split at h
    ·rename_i cZ
     split at h
     ·rename_i lE;cases h;exact .inr ⟨_,_,_,_,e,e2,cZ,lE,rfl⟩
     ·cases h
    ·rename_i cZ
     split at h
     ·rename_i fV
      cases h
      have hu:u=.bool b:=by
       cases u<;>simp [tQ] at cZ
       rw [cZ]
      subst hu;exact .inl ⟨_,.g e e2,fV⟩
     ·cases h
   ·cases h
  ·cases h
def A5 (ops:Array Oper) (n:Nat):Nat→List Nat→List (Nat × Value)→Option (List Nat × List (Nat × Value))
 |0,l,σ=>some (l,σ)
 |k+1,i::l,σ=>match Jh ops n i σ with|some (d,v)=>A5 ops n k l ((d,v)::σ)|none=>none
 |_+1,[],_=>none
section
variable {ro:Option Nat} {P:Program} {fn:Func} {n:Nat} {R:Ending→World→Prop} {k:List Item} {D:List Deferred} {g:bp} {aa:List az} {ops:Array Oper}
theorem O.q:∀ (m:Nat) {l l' :List Nat} {σ σ' :List (Nat × Value)},A5 ops n m l σ=some (l',σ')→O ro P fn n R ops l' k σ' D g aa→O ro P fn n R ops l k σ D g aa
 |0,_,_,_,_,h,hn=>by cases h;exact hn
 |m+1,[],_,_,_,h,_=>by cases h
 |m+1,i::l,_,σ,_,h,hn=>by
  simp only [A5] at h
  split at h
  ·rename_i d v e
   have r:=O.q m h hn
   rcases OI e with ⟨op,h1,h2⟩|⟨op,t,b,u,h1,h2,h3,h4,rfl⟩
   ·exact O.op h1 ((Ji h2).2 g aa) r
   ·exact O.Zv h1 h2 h3 r
  ·cases h
theorem ah.q:∀ (m:Nat) {l l' :List Nat} {σ σ' :List (Nat × Value)},A5 ops n m l σ=some (l',σ')→ah P fn n R ops k D g l' σ' aa→ah P fn n R ops k D g l σ aa
 |0,_,_,_,_,h,hn=>by cases h;exact hn
 |m+1,[],_,_,_,h,_=>by cases h
 |m+1,i::l,_,σ,_,h,hn=>by
  simp only [A5] at h
  split at h
  ·rename_i d v e
   have r:=ah.q m h hn
   rcases OI e with ⟨op,h1,h2⟩|⟨op,t,b,u,h1,h2,h3,h4,rfl⟩
   ·exact bt.quiet h1 (Ji (P:=P) h2).1 (fun aa=>(Ji h2).2 g aa) r
   ·exact bt.no h1 h4 h2 h3 r
  ·cases h
end
end Go.Sp
end
section
/- Texts of this proof. -/
namespace Go.Sp
def ag.Pure {α:Type} (T:ag α):Prop:=∀ (h:Fr) (cs:List Value) (a:α),T.rel h cs a→T.rel Fr.emp cs a
theorem ox:ag.u8.Pure:=fun _ _ _ h=>h
def ak {α:Type} (T:ag α) (e:TypeId) (v:Value) (xs:List α):az:=fun h=>∃ aG:List (List Value),cG (T.rel Fr.emp) aG xs∧Own v T.k e xs.length aG.flatten h
theorem ak.arr {α:Type} {T:ag α} {e:TypeId} {v:Value} {xs:List α} {h:Fr}:ak T e v xs h→av T h v xs
 |⟨aG,a,b⟩=>⟨aG,a.imp fun _ _=>T.mono (Fr.dY _),b.sl⟩
theorem ak.shape {α:Type} {T:ag α} {e:TypeId} {v:Value} {xs:List α} {h:Fr} (x:ak T e v xs h):∃ a c,v=.slice a xs.length c:=x.arr.shape
theorem ak.of {α:Type} {T:ag α} {e:TypeId} {v:Value} {xs:List α} {aG:List (List Value)} {m:Nat} {cs:List Value} (ha:cG (T.rel Fr.emp) aG xs) (hm:m=xs.length) (hc:cs=aG.flatten) {k:Nat} (hk:k=T.k) :
  ∀ h,Own v k e m cs h→ak T e v xs h:=by subst hm hc hk;exact fun h x=>⟨aG,ha,x⟩
theorem EW {α:Type} {T:ag α} {f:α→List Value} (hf:∀ x,T.rel Fr.emp (f x) x):∀ xs:List α,cG (T.rel Fr.emp) (xs.map f) xs
 |[]=>trivial
 |x::xs=>⟨hf x,EW hf xs⟩
theorem cG.one {α:Type} {T:ag α} {h:Fr}:∀ {aG:List (List Value)} {xs:List α},cG (T.rel h) aG xs→∀ c∈aG.flatten,c.oneCell' =true
 |[],[],_,c,hc=>by cases hc
 |_::_,_::_,⟨x,y⟩,c,hc=>by
  simp only [List.flatten_cons,List.mem_append] at hc
  rcases hc with hc|hc
  ·exact T.one x c hc
  ·exact cG.one y c hc
section
variable {ro:Option Nat} {P:Program} {σ σ' :List (Nat × Value)} {g:bp} {aa au ζ cL:List az} {fn:Func} {n:Nat} {R:Ending→World→Prop} {k K:List Item} {D:List Deferred} {ops:Array Oper} {i d:Nat} {l:List Nat} {t e:TypeId} {x y:Operand} {todo:List Item}
theorem dj.mb {α:Type} {T:ag α} {dx:Nat} {z:List Value} {v u:Value} {xs ys:List α} (hT:T.Pure) (ht:P.underlying t=some (.slice e)) (he:cu P e T.k dx z) (hk:0<T.k) (hx:aE σ x=some v) (hy:aE σ y=some u)
  (hs:bA aa (ak T e v xs) ζ) (hu:av T g.h u ys) (hb:(xs.length+ys.length)*dx≤140737488355328) (h63:xs.length+ys.length≤9223372036854775807) :
  dj P (.call ⟨.builtin .append,#[x,y],#[t,t]⟩) σ g aa fun v' au =>∃ a c,v' =.slice a (xs.length+ys.length) c∧au =ak T e v' (xs++ys)::ζ:=by
 intro o ρ w h1 h2 h3
 have hw:=h3.eJ hs;obtain ⟨p1,p2,p3,K,hd,s1,s2,k1,k2,kd,t1,t2,⟨aG,ha,hown⟩,hr⟩:=hw;have hw' :ax w g (Own v T.k e xs.length aG.flatten::ζ):=⟨p1,p2,p3,K,hd,s1,s2,k1,k2,kd,t1,t2,hown,hr⟩;obtain ⟨cl,hda,iP⟩:=hu;obtain ⟨v',w',au,jJ,hrun,hh⟩:=dj.append (g:=g) ht he hk hx hy .here iP (cG.one hda) hb h63 o ρ w h1 h2 hw';subst jJ;have oZ :ax w' g (ak T e v' (xs++ys)::ζ):=hh.imp fun _=>Sat.g9 (ak.of (aG:=aG++cl) (ha.append (hda.imp fun _ _ q=>hT _ _ _ q)) (by simp) (by simp) rfl) fun _ q=>q;obtain ⟨a,c,hv⟩:∃ a c,v' =.slice a (xs.length+ys.length) c:=by
  obtain ⟨_,_,_,_,_,_,_,k1,_,_,_,_,hA,_⟩:=oZ;obtain ⟨a,c,h⟩:=hA.shape;exact ⟨a,c,by simpa using h⟩
 exact ⟨v',w',_,⟨a,c,hv,rfl⟩,hrun,oZ⟩
theorem dj.Q5 {α:Type} {T:ag α} {dx m:Nat} {z cs:List Value} {v u:Value} {xs ys:List α} {cl:List (List Value)} (ht:P.underlying t=some (.slice e)) (he:cu P e T.k dx z) (hk:0<T.k) (hx:aE σ x=some v) (hy:aE σ y=some u)
  (hl:bA aa (Own u T.k e m cs) cL) (hs:bA cL (ak T e v xs) ζ) (hm:m=ys.length) (hc:cs=cl.flatten) (hd:cG (T.rel Fr.emp) cl ys) (hb:(xs.length+ys.length)*dx≤140737488355328) (h63:xs.length+ys.length≤9223372036854775807) :
  dj P (.call ⟨.builtin .append,#[x,y],#[t,t]⟩) σ g aa fun v' au =>∃ a c,v' =.slice a (xs.length+ys.length) c∧au =ak T e v' (xs++ys)::ζ:=by
 subst hm hc
 intro o ρ w h1 h2 h3
 obtain ⟨m,hm,eR,hw⟩:=(h3.eJ hl).freeze;have hw:=hw.eJ hs;obtain ⟨p1,p2,p3,K,rS,s1,s2,k1,k2,kd,t1,t2,⟨aG,ha,hown⟩,hr⟩:=hw;have hw' :ax w (g.add m) (Own v T.k e xs.length aG.flatten::ζ):=⟨p1,p2,p3,K,rS,s1,s2,k1,k2,kd,t1,t2,hown,hr⟩;have iP:qm (g.add m).h u T.k ys.length cl.flatten:=hm.sl.mono (Fr.jw eR);obtain ⟨v',w',au,jJ,hrun,hh⟩:=dj.append (g:=g.add m) ht he hk hx hy .here iP (cG.one hd) hb h63 o ρ w h1 h2 hw';subst jJ;have oZ :ax w' (g.add m) (ak T e v' (xs++ys)::ζ):=hh.imp fun _=>Sat.g9 (ak.of (aG:=aG++cl) (ha.append hd) (by simp) (by simp) rfl) fun _ q=>q;obtain ⟨a,c,hv⟩:∃ a c,v' =.slice a (xs.length+ys.length) c:=by
  obtain ⟨_,_,_,_,_,_,_,k1,_,_,_,_,hA,_⟩:=oZ;obtain ⟨a,c,h⟩:=hA.shape;exact ⟨a,c,by simpa using h⟩
 exact ⟨v',w',_,⟨a,c,hv,rfl⟩,hrun,(oZ.wY hm eR).drop⟩
def uq (v:Value) (k j:Nat) (p:Addr):Prop:=∃ b m c,v=.slice (some ⟨b,0,none⟩) m c∧p=⟨b,j*k,none⟩
theorem ax.Dt {α:Type} {T:ag α} {w:World} {v:Value} {xs:List α} (h:ax w g (ak T e v xs::ζ)) (hne:0<xs.length) :
  ∃ b cap cur aG,v=.slice (some ⟨b,0,none⟩) xs.length cap∧xs.length≤cap∧cap≤9223372036854775807∧cur.size=cap*T.k∧cur.toList.take (xs.length*T.k)=aG.flatten∧cG (T.rel Fr.emp) aG xs∧∃ fz,ur fz (cap*T.k)∧ax w g (kg b (.cells cur e fz)::ζ):=by
 obtain ⟨p1,p2,p3,K,rS,s1,s2,k1,k2,kd,t1,t2,⟨aG,ha,hl,hA⟩,hr⟩:=h
 rcases hA with ⟨_,h0⟩|⟨b,cap,cur,hv,⟨fz,hb,hz⟩,h1,h2,h3,h4⟩
 ·omega
 ·exact ⟨b,cap,cur,aG,hv,h1,h2,h3,h4,ha,fz,hz,p1,p2,p3,K,rS,s1,s2,k1,k2,kd,t1,t2,hb,hr⟩
theorem dj.qP {α:Type} {T:ag α} {v:Value} {xs:List α} {j:Nat} {kd:IntKind} (ht:P.underlying t=some (.slice e)) (he:(P.info? e).map (·.size)=some T.k) (hx:aE σ x=some v) {de:Int} (hy:aE σ y=some (.int kd de)) (eN:de=(j:Int))
  (hs:bA aa (ak T e v xs) ζ) (hj:j<xs.length):dj P (.indexAddr t x y) σ g aa fun u au =>∃ p,u=.pointer (some p)∧uq v T.k j p∧au =aa :=
 fun o ρ w ho hk hw=>by
  subst eN;obtain ⟨b,cap,cur,aG,rfl,_⟩:=(hw.eJ hs).Dt (by omega);refine ⟨.pointer (some ⟨b,j*T.k,none⟩),w,aa,⟨_,rfl,⟨b,_,_,rfl,rfl⟩,rfl⟩,?_,hw⟩;have e1:(⟨b,0,none⟩:Addr).add (j*T.k)=⟨b,j*T.k,none⟩:=by rw [add_lit];simp
  simp [execOp,ho,hk x _ hx,hk y _ hy,Instr.indexAt,asIntOf,run_underlying ht,hj,run_sizeOf he,e1]
theorem PR {α:Type} {T:ag α} {h:Fr} {ds:List Value} {a:α} (hd:T.rel h ds a):∀ {aG:List (List Value)} {xs:List α} (j:Nat),cG (T.rel h) aG xs→j<xs.length →
  cG (T.rel h) (aG.set j ds) (xs.set j a)∧(aG.set j ds).flatten=aG.flatten.take (j*T.k)++ds++aG.flatten.drop (j*T.k+T.k)
 |[],[],_,_,hj=>by simp at hj
 |c::aG,x::xs,0,⟨hc,hr⟩,_=>by
  have nx:=T.len hc;refine ⟨⟨hd,hr⟩,?_⟩
  simp [nx]
 |c::aG,x::xs,j+1,⟨hc,hr⟩,hj=>by
  have nx:=T.len hc;obtain ⟨h1,h2⟩:=PR hd j hr (by simpa using hj);refine ⟨⟨hc,h1⟩,?_⟩;have e1:(c++aG.flatten).take ((j+1)*T.k)=c++aG.flatten.take (j*T.k):=by
   rw [Nat.succ_mul,List.take_append,List.take_of_length_le (l:=c) (by omega)]
   congr 2;omega
  have e2:(c++aG.flatten).drop ((j+1)*T.k+T.k)=aG.flatten.drop (j*T.k+T.k):=by
   rw [Nat.succ_mul,List.drop_append,List.drop_of_length_le (l:=c) (by omega),List.nil_append]
   congr 1;omega
  simp only [List.set_cons_succ,List.flatten_cons,h2];rw [e1,e2]
  simp
theorem mB.sj {α:Type} {T:ag α} {v u:Value} {xs:List α} {j:Nat} {p:Addr} {a:α} (hsz:(P.info? t).map (·.size)=some T.k) (hx:aE σ x=some (.pointer (some p))) (hp:uq v T.k j p) (hy:aE σ y=some u)
  (hs:bA aa (ak T e v xs) ζ) (hj:j<xs.length) (hu:T.rel Fr.emp u.cells.toList a):mB P (.store t x y) σ g aa (ak T e v (xs.set j a)::ζ) :=
 fun o ρ w ho hk hw=>by
  obtain ⟨b,cap,cur,aG,rfl,h1,h2,h3,h4,ha,fz,hfz,lK⟩:=(hw.eJ hs).Dt (by omega);obtain ⟨b',m',c',he,rfl⟩:=hp
  cases he
  have ku:u.cells.toList.length=T.k:=T.len hu;have agK:j*T.k+T.k≤xs.length*T.k:=by rw [← Nat.succ_mul];exact Nat.mul_le_mul_right _ hj
  have GZ:xs.length*T.k≤cur.size:=by rw [h3];exact Nat.mul_le_mul_right _ h1
  have hst:=DQ P b (j*T.k) e hfz u.cells.toList 0 cur w lK.block (by omega) (by omega) (T.one hu);simp only [Nat.add_zero,ku] at hst;obtain ⟨q1,bg⟩:=PR hu j ha hj;refine ⟨w.setRow b (cur.toList.take (j*T.k)++u.cells.toList++cur.toList.drop (j*T.k+T.k)).toArray,?_,?_⟩
  ·have hc:u.cells.size=T.k:=by rw [← ku];simp
   simp only [List.append_assoc] at hst ⊢
   simp [execOp,ho,hk x _ hx,hk y _ hy,Instr.storeAt,Instr.sureAddr,storeVar,run_sizeOf hsz,hc,hst]
  ·refine (lK.setRow.wO hfz (k:=T.k) (m:=xs.length) (cap:=cap) (cs:=(aG.set j u.cells.toList).flatten) h1 h2 ?_ ?_).imp fun _=>Sat.g9 (ak.of q1 (by simp) rfl rfl) fun _ q=>q
   ·simp only [List.size_toArray,List.length_append,List.length_take,List.length_drop,Array.length_toList,ku]
    omega
   ·rw [bg,← h4]
    have l1:(cur.toList.take (j*T.k)).length=j*T.k:=by simp;omega
    simp only [List.append_assoc];rw [List.take_append,l1,List.take_take,Nat.min_eq_right (by omega),List.take_append,ku,List.take_take,Nat.min_eq_left (by omega)];rw [List.take_of_length_le (l:=u.cells.toList) (by omega)]
    congr 2
    rw [List.drop_take]
    congr 1
    omega
theorem aK.YO {α:Type} {T:ag α} {v:Value} {xs:List α} {j:Nat} {p:Addr} {u:Value} (ht:gd P t=true) (hx:aE σ x=some (.pointer (some p))) (hp:uq v T.k j p) (uQ:T.k=1)
  (hs:bA aa (ak T e v xs) ζ) (hj:j<xs.length) (hu:∀ cs,T.rel Fr.emp cs xs[j]→cs=[u]):aK P (.load t x) σ g aa u aa :=
 fun o ρ w ho hk hw=>⟨w,by
  obtain ⟨b,cap,cur,aG,rfl,h1,h2,h3,h4,ha,fz,hfz,lK⟩:=(hw.eJ hs).Dt (by omega);obtain ⟨b',m',c',he,rfl⟩:=hp
  cases he
  have MJ:j<aG.length:=by rw [ha.length];exact hj
  have hg:=ha.FP j MJ;rw [hu _ (ha.get j MJ hj),← h4,uQ] at hg;have hb0:=lK.block;have hc:w.cell? ⟨b,j*T.k,none⟩=some u:=by
   rw [uQ];simp only [World.cell?,hb0];have:(List.take 1 (List.drop (j*1) (cur.toList.take (xs.length*1))))[0]?=some u:=by rw [hg];rfl
   rw [List.getElem?_take_of_lt (by omega),List.getElem?_drop,List.getElem?_take_of_lt (by omega)] at this
   simpa using this
  simp [execOp,ho,hk x _ hx,Instr.loadAt,Instr.sureAddr,loadVar,ve (uK ht),hc],hw⟩
theorem DK {α:Type} {T:ag α} {z:List Value} {a:α} (hz:T.rel Fr.emp z a):∀ m:Nat,∃ aG,cG (T.rel Fr.emp) aG (List.replicate m a)∧aG.flatten=lY z m
 |0=>⟨[],trivial,rfl⟩
 |m+1=>let ⟨aG,h1,h2⟩:=DK hz m;⟨z::aG,⟨hz,h1⟩,by simp [lY,h2]⟩
theorem dj.iR {α:Type} {T:ag α} {dx:Nat} {z:List Value} (a:α) {m:Nat} {rY ky:IntKind} {BF BG:Int} (ht:P.underlying t=some (.slice e)) (he:cu P e T.k dx z) (hk:0<T.k) (hz:T.rel Fr.emp z a)
  (hx:aE σ x=some (.int rY BF)) (hy:aE σ y=some (.int ky BG)) (HY:BF=(m:Int)) (HZ:BG=(m:Int)) (hb:dx*m≤281474976710656) (h63:m≤9223372036854775807) :
  dj P (.makeSlice t x y) σ g aa fun v au =>∃ a' c,v=.slice a' m c∧au =ak T e v (List.replicate m a)::aa:=by
 subst HY HZ
 intro o ρ w h1 h2 h3
 obtain ⟨v,w',au,jJ,hrun,hw⟩:=dj.make (g:=g) (aa:=aa) ht he hk hx hy hb h63 o ρ w h1 h2 h3;subst jJ;obtain ⟨aG,q1,bg⟩:=DK hz m;have hh:ax w' g (ak T e v (List.replicate m a)::aa):=hw.imp fun _=>Sat.g9 (ak.of q1 (by simp) bg.symm rfl) fun _ q=>q;obtain ⟨a',c,hv⟩:∃ a' c,v=.slice a' m c:=by
  obtain ⟨_,_,_,_,_,_,_,k1,_,_,_,_,hA,_⟩:=hh;obtain ⟨a',c,h⟩:=hA.shape;exact ⟨a',c,by simpa using h⟩
 exact ⟨v,w',_,⟨a',c,hv,rfl⟩,hrun,hh⟩
theorem dj.wF {α:Type} {T:ag α} {dx:Nat} {z:List Value} {c:Nat} {rY ky:IntKind} {BF BG:Int} (ht:P.underlying t=some (.slice e)) (he:cu P e T.k dx z)
  (hx:aE σ x=some (.int rY BF)) (hy:aE σ y=some (.int ky BG)) (HY:BF=0) (HZ:BG=(c:Int)) (hb:dx*c≤281474976710656) (h63:c≤9223372036854775807) :
  dj P (.makeSlice t x y) σ g aa fun v au =>∃ a' c,v=.slice a' 0 c∧au =ak T e v []::aa:=by
 subst HY HZ
 intro o ρ w h1 h2 h3
 obtain ⟨v,w',au,jJ,hrun,hw⟩:=dj.YV (g:=g) (aa:=aa) ht he hx hy hb h63 o ρ w h1 h2 h3;subst jJ;have hh:ax w' g (ak T e v []::aa):=hw.imp fun _=>Sat.g9 (ak.of (T:=T) (xs:=[]) (aG:=[]) trivial (by simp) rfl rfl) fun _ q=>q;obtain ⟨a',c,hv⟩:∃ a' c,v=.slice a' 0 c:=by
  obtain ⟨_,_,_,_,_,_,_,k1,_,_,_,_,hA,_⟩:=hh;obtain ⟨a',c,h⟩:=hA.shape;exact ⟨a',c,by simpa using h⟩
 exact ⟨v,w',_,⟨a',c,hv,rfl⟩,hrun,hh⟩
theorem dj.bw {α:Type} {T:ag α} {dx len:Nat} {z:List Value} {parts:Array (Nat × Operand)} {vs:List Value} {ys:List α} (ht:P.underlying t=some (.slice e)) (he:cu P e T.k dx z) (hk:0<T.k)
  (hp:partsOf σ parts.toList 0=some vs) (hlen:parts.toList.length=len) (hvs:cG (T.rel Fr.emp) (vs.map (·.cells.toList)) ys) (gJ:len*T.k≤16777216) :
  dj P (.buildSlice t len parts) σ g aa fun v au =>∃ a c,v=.slice a len c∧au =ak T e v ys::aa:=by
 intro o ρ w h1 h2 h3
 have hl:vs.length=len:=by rw [Jc _ _ _ hp,hlen]
 have M5:ys.length=len:=by rw [← hvs.length,List.length_map,hl]
 have hall:vs.all (fun v=>Nat.beq v.cells.size T.k)=true:=by
  rw [List.all_eq_true]
  intro v hv
  obtain ⟨i,hi,rfl⟩:=List.mem_iff_getElem.1 hv;have:=T.len (hvs.get i (by simpa using hi) (by omega));have hs:vs[i].cells.size=T.k:=by simpa using this
  rw [hs];exact Nat.beq_refl _
 obtain ⟨v,w',au,jJ,hrun,hw⟩:=dj.lit (g:=g) (aa:=aa) ht he hk hp hlen hall gJ o ρ w h1 h2 h3;subst jJ;have hh:ax w' g (ak T e v ys::aa):=hw.imp fun _=>Sat.g9 (ak.of hvs M5.symm rfl rfl) fun _ q=>q;obtain ⟨a',c,hv⟩:∃ a' c,v=.slice a' len c:=by
  obtain ⟨_,_,_,_,_,_,_,k1,_,_,_,_,hA,_⟩:=hh;obtain ⟨a',c,h⟩:=hA.shape;exact ⟨a',c,by simpa [M5] using h⟩
 exact ⟨v,w',_,⟨a',c,hv,rfl⟩,hrun,hh⟩
theorem dj.fH {α:Type} {T:ag α} {dx:Nat} {z:List Value} {v u:Value} {xs ys:List α} (ht:P.underlying t=some (.slice e)) (he:cu P e T.k dx z) (hk:0<T.k) (hx:aE σ x=some v) (hy:aE σ y=some u)
  (hl:bA aa (ak T e u ys) cL) (hs:bA cL (ak T e v xs) ζ) (hb:(xs.length+ys.length)*dx≤140737488355328) (h63:xs.length+ys.length≤9223372036854775807) :
  dj P (.call ⟨.builtin .append,#[x,y],#[t,t]⟩) σ g aa fun v' au =>∃ a c,v' =.slice a (xs.length+ys.length) c∧au =ak T e v' (xs++ys)::ζ:=by
 intro o ρ w h1 h2 h3
 obtain ⟨p1,p2,p3,K,rS,s1,s2,k1,k2,kd,t1,t2,⟨aG,ha,hown⟩,hr⟩:=h3.eJ hl;have hw' :ax w g (Own u T.k e ys.length aG.flatten::cL):=⟨p1,p2,p3,K,rS,s1,s2,k1,k2,kd,t1,t2,hown,hr⟩;exact dj.Q5 (g:=g) ht he hk hx hy .here hs rfl rfl ha hb h63 o ρ w h1 h2 hw'
theorem yA {α:Type} {T:ag α}:∀ h,ak T e (.slice none 0 0) ([]:List α) h:=fun _=>⟨[],trivial,by simp,.inl ⟨rfl,rfl⟩⟩
theorem S.l_ {α:Type} {T:ag α} (h:S ro P fn n R todo σ D g (ak T e (.slice none 0 0) ([]:List α)::aa)):S ro P fn n R todo σ D g aa :=
 S.imp (au :=ak T e (.slice none 0 0) ([]:List α)::aa) (fun m hm=>⟨Fr.emp,m,Fr.eA _,Fr.dY _,Fr.bH _,yA _,hm⟩) h
end
end Go.Sp
end
end
section
/- Texts of this proof, one behind the other. -/
section
/- Texts of this proof. -/
namespace Go.Sp
section
variable {ro:Option Nat} {P:Program} {σ σ' :List (Nat × Value)} {g:bp} {aa au ζ cL:List az} {t e:TypeId} {x y:Operand}
theorem aK.acH {k:Nat} {kh:IntKind} {m:Nat} (ht:P.underlying t=some (.slice e)) (he:(P.info? e).map (·.size)=some k) (hx:aE σ x=some (.slice none 0 0)) (hy:aE σ y=some (.int kh (m:Int))) (hm:m=0) :
  aK P (.slice t x none (some y) none) σ g aa (.slice none 0 0) aa:=by
 subst hm;exact .run fun o ρ w ho hk=>by simp [execOp,ho,hk x _ hx,hk y _ hy,Instr.sliceAt,run_underlying ht,Instr.slice,Instr.sliceBounds,Instr.sliceBound,asIntOf,run_sizeOf he]
theorem dj.Q7 {α:Type} {T:ag α} {dx:Nat} {z:List Value} {a:α} {m:Nat} {t2:TypeId} {Ik wD:IntKind} (ht:P.underlying t=some (.slice e)) (lJ:P.underlying t2=some (.int Ik)) (he:cu P e T.k dx z) (hk:0<T.k) (hz:T.rel Fr.emp z a)
  (hx:aE σ x=some (.slice none 0 0)) {de:Int} (hy:aE σ y=some (.int wD de)) (eN:de=(m:Int)) (hb:m*dx≤140737488355328) (h63:m≤9223372036854775807) (h0:0<m) :
  dj P (.call ⟨.builtin .append,#[x,y],#[t,t2]⟩) σ g aa fun v' au =>∃ a' c,v' =.slice a' m c∧au =ak T e v' (List.replicate m a)::aa:=by
 subst eN
 intro o ρ w ho hkn hw
 obtain ⟨i,ej,hi,C',hsz,hby,mS,hzl⟩:=he;subst hby mS;have hzs:ej.cells.size=T.k:=by simpa using hzl
 have wl:IntKind.i64.wrap (m:Int)=m:=by rw [IntKind.wrap_i64];omega
 have n1:¬ ((m:Int)<0):=by omega
 have n2:¬ (281474976710656<(m:Int)*(i.bytes:Int)):=by
  have:((m*i.bytes:Nat):Int)≤140737488355328:=by omega
  rw [Int.natCast_mul] at this;omega
 have eC:m≠0:=by omega
 have fy:¬ (9223372036854775807<(m:Int)):=by omega
 have o9:¬ (281474976710656<Builtin.nextslicecap m 0*i.bytes):=by rw [nextslicecap_zero h0];omega
 have qW:m*i.size≠0:=by rw [hsz];exact Nat.ne_of_gt (Nat.mul_pos h0 hk)
 have hge:=grownCap_ge w m 0 e;have j4:=grownCap_le_maxLen w m 0 e (by simpa [maxLen] using h63);have hrun:(Builtin.append_ #[t,t2] o.type #[.slice none 0 0,.int wD (m:Int)]).run P w=.ok (.slice (some ⟨w.heap.size,0,none⟩) m (grownCap w m 0 e)) (w.drew.alloc (.cells (Builtin.zeroCells ej.cells m++Builtin.zeroCells ej.cells (grownCap w m 0 e - m)) e)):=by
  simp [Builtin.append_,run_underlying ht,run_underlying lJ,sizeOf,typeInfo,zeroValue,hi,C',asInt,asIntOf,wl,n1,n2,eC,fy,o9,qW,Question.forced,Builtin.firstCells,newRow,grownCap]
 obtain ⟨aG,q1,bg⟩:=DK hz m;have C_:∀ q,(Builtin.zeroCells ej.cells q).toList=lY ej.cells.toList q:=fun q=>by
  have:=IJ ej.cells q (by omega);rw [← this];rfl
 refine ⟨_,_,_,⟨_,_,rfl,rfl⟩,oA ho (by rw [hkn x _ hx,hkn y _ hy];exact hrun),?_⟩;refine (((hw.drewN _ (Nat.le_add_right _ _)).alloc _).own (k:=T.k) (m:=m) (cap:=grownCap w m 0 e) (cs:=aG.flatten) hge (by simpa [maxLen] using j4) ?_ ?_).imp fun _=>Sat.g9 (ak.of q1 (by simp) rfl rfl) fun _ q=>q
 ·simp only [Array.size_append,size_zeroCells,hzs,← Nat.add_mul]
  congr 1;omega
 ·rw [Array.toList_append,C_,bg,List.take_append]
  rw [List.take_of_length_le (by rw [yp];simp [hzs]),yp]
  simp [hzs]
theorem dj.Sa {α:Type} {T:ag α} {v:Value} {xs:List α} {m:Nat} {kh:IntKind} {de:Int} (ht:P.underlying t=some (.slice e)) (he:(P.info? e).map (·.size)=some T.k) (hx:aE σ x=some v) (hy:aE σ y=some (.int kh de)) (eN:de=(m:Int))
  (hs:bA aa (ak T e v xs) ζ) (hm:m≤xs.length):dj P (.slice t x none (some y) none) σ g aa fun v' au =>∃ a c,v' =.slice a m c∧au =ak T e v' (xs.take m)::ζ:=by
 subst eN
 intro o ρ w ho hk hw
 obtain ⟨p1,p2,p3,K,rS,s1,s2,k1,k2,kd,t1,t2,⟨aG,ha,hl,hA⟩,hr⟩:=hw.eJ hs;have hml:m*T.k≤xs.length*T.k:=Nat.mul_le_mul_right _ hm;have hmin:min m xs.length=m:=Nat.min_eq_left hm
 rcases hA with ⟨rfl,h0⟩|⟨b,cap,cur,rfl,hb,h1,h2,h3,h4⟩
 ·have hm0:m=0:=by omega
  subst hm0;refine ⟨.slice none 0 0,w,_,⟨none,0,rfl,rfl⟩,?_,p1,p2,p3,K,rS,s1,s2,k1,k2,kd,t1,t2,⟨[],trivial,by simp,.inl ⟨rfl,by simp⟩⟩,hr⟩
  simp [execOp,ho,hk x _ hx,hk y _ hy,Instr.sliceAt,run_underlying ht,Instr.slice,Instr.sliceBounds,Instr.sliceBound,asIntOf,run_sizeOf he]
 ·have GZ:m≤cap:=by omega
  refine ⟨.slice (some ⟨b,0,none⟩) m cap,w,_,⟨_,_,rfl,rfl⟩,?_,p1,p2,p3,K,rS,s1,s2,k1,k2,kd,t1,t2,⟨aG.take m,ha.take m,?_,.inr ⟨b,cap,cur,?_,hb,?_,h2,h3,?_⟩⟩,hr⟩
  ·have e1:(⟨b,0,none⟩:Addr).add 0=⟨b,0,none⟩:=rfl
   simp [execOp,ho,hk x _ hx,hk y _ hy,Instr.sliceAt,run_underlying ht,Instr.slice,Instr.sliceBounds,Instr.sliceBound,asIntOf,run_sizeOf he,GZ,e1]
  ·rw [← ha.x2,List.length_take,hl,List.length_take,hmin];exact Nat.min_eq_left hml
  ·rw [List.length_take,hmin]
  ·rw [List.length_take,hmin];exact GZ
  ·rw [List.length_take,hmin,← ha.x2,← h4,List.take_take,Nat.min_eq_left hml]
end
theorem Sat.tail' {A:az} {aa:List az} {m:Fr}:Sat (A::aa) m→Sat aa m:=fun ⟨_,_,_,_,s,_,y⟩=>Sat.mono s y
theorem qY {b:Nat} {T:TypeId} {cs:List Value} {m:Fr} (h:obj b T cs m):cg m ⟨b,0,none⟩ cs:=fun j hj=>by
 rw [add_lit];have:m b=some (.cells cs.toArray T (0,0)):=h
 simp [Fr.cell,this,hj]
theorem ax.jo {w:World} {g:bp} {aa:List az} {k:Fr} (h:ax w (g.add k) aa) (hd:g.h.ea k):ax w g aa:=(h.wY (A:=fun _=>True) trivial hd).drop
inductive j_:List az→List az→Prop
 |all {aa:List az}:j_ aa aa
 |nil {aa:List az}:j_ aa []
 |cons {aa ζ bs:List az} {A:az} (h:bA aa A ζ) (h2:j_ ζ bs):j_ aa (A::bs)
 |skip {aa bs:List az} {A:az} (h:j_ aa bs):j_ (A::aa) bs
theorem Sat.jr {aa bs:List az} (p:j_ aa bs):∀ {h:Fr},Sat aa h→Sat bs h:=by
 induction p with
 |all=>exact fun x=>x
 |nil=>exact fun _=>trivial
 |cons s p ih=>exact fun x=>Sat.g9 (fun _ y=>y) (fun _=>ih) (Sat.perm s.perm x)
 |skip p ih=>exact fun x=>ih x.tail'
theorem ax.jr {w:World} {g:bp} {aa bs:List az} (h:ax w g aa) (p:j_ aa bs):ax w g bs:=h.imp fun _=>Sat.jr p
theorem ax.end_ {w:World} {g:bp} {aa:List az} {Post:Ending→List az→Prop} {R:Ending→World→Prop} {e:Ending} (hR:∀ e au w',Post e au →ax w' g au →R e w') (hw:ax w g aa) (h:∃ au,Post e au ∧j_ aa au):R e w :=
 let ⟨_,p,q⟩:=h;hR _ _ w p (hw.jr q)
theorem ax.fst {w:World} {g:bp} {A:az} {aa:List az} (h:ax w g (A::aa)):ax w g [A]:=h.imp fun _=>Sat.g9 (fun _ x=>x) fun _ _=>trivial
theorem ax.TN {w:World} {g:bp} {A B:az} {aa:List az} (h:ax w g (A::B::aa)):ax w g [A,B]:=h.imp fun _=>Sat.g9 (fun _ x=>x) fun _=>Sat.g9 (fun _ x=>x) fun _ _=>trivial
theorem Sat.arr {α:Type} {T:ag α} {e:TypeId} {v:Value} {xs:List α} {aa:List az} {m:Fr}:Sat (ak T e v xs::aa) m→av T m v xs
 |⟨_,_,_,s,_,x,_⟩=>(ak.arr x).mono s
theorem Sat.tail {A:az} {aa:List az} {m:Fr}:Sat (A::aa) m→Sat aa m
 |⟨_,_,_,_,s,_,y⟩=>y.mono s
theorem av.left {α:Type} {T:ag α} {v:Value} {xs:List α} {h m:Fr} (x:av T h v xs):av T (h.add m) v xs:=x.mono (Fr.fi _ _)
theorem av.right {α:Type} {T:ag α} {v:Value} {xs:List α} {h m:Fr} (x:av T m v xs) (hd:h.ea m):av T (h.add m) v xs:=x.mono (Fr.jw hd)
theorem a_ {g g' :bp} {Post:Ending→List az→Prop} {R:Ending→World→Prop} (hR:∀ e au w',Post e au →ax w' g au →R e w') (hm:∀ w ζ,ax w g' ζ→ax w g ζ) :
  ∀ e au w',Post e au →ax w' g' au →R e w' :=fun e au w' p h=>hR e au w' p (hm w' au h)
theorem eT {g g' Mb :bp} (h1:∀ w ζ,ax w g' ζ→ax w g ζ) (h2:∀ w ζ,ax w Mb ζ→ax w g' ζ):∀ w ζ,ax w Mb ζ→ax w g ζ:=fun w ζ h=>h1 w ζ (h2 w ζ h)
theorem bS {g:bp}:∀ w ζ,ax w g ζ→ax w g ζ:=fun _ _ h=>h
section
variable {ro:Option Nat} {P:Program} {fn:Func} {n:Nat} {R:Ending→World→Prop} {k:List Item} {σ:List (Nat × Value)} {D:List Deferred} {g:bp} {aa ζ:List az} {ops:Array Oper} {L:List Nat}
theorem S.jo {g' :bp} {todo:List Item} (hm:∀ w ζ,ax w g' ζ→ax w g ζ) (h:S ro P fn n R todo σ D g aa):S ro P fn n R todo σ D g' aa:=fun a w hf hd hw=>h a w hf hd (hm _ _ hw)
theorem S.pk {todo:List Item} (p:j_ aa ζ) (h:S ro P fn n R todo σ D g ζ):S ro P fn n R todo σ D g aa:=fun a w hf hd hw=>h a w hf hd (hw.jr p)
theorem S.fW {todo:List Item} {A:az} (s:bA aa A ζ) (h:∀ g' :bp,g.h.sub g'.h→(∀ w ζ,ax w g' ζ→ax w g ζ)→(∃ m:Fr,A m∧m.sub g'.h)→S ro P fn n R todo σ D g' ζ):S ro P fn n R todo σ D g aa :=
 S.eJ s (S.freeze fun m hm hd=>h (g.add m) (Fr.fi _ _) (fun _ _ x=>x.jo hd) ⟨m,hm,Fr.jw hd⟩)
theorem O.fW {A:az} (s:bA aa A ζ) (h:∀ g' :bp,g.h.sub g'.h→(∀ w ζ,ax w g' ζ→ax w g ζ)→(∃ m:Fr,A m∧m.sub g'.h)→O ro P fn n R ops L k σ D g' ζ):O ro P fn n R ops L k σ D g aa :=
 O.eJ s (O.freeze fun m hm hd=>h (g.add m) (Fr.fi _ _) (fun _ _ x=>x.jo hd) ⟨m,hm,Fr.jw hd⟩)
theorem S.gH {todo:List Item} {α:Type} {T:ag α} {e:TypeId} {v:Value} {xs:List α} (s:bA aa (ak T e v xs) ζ) (h:∀ g' :bp,g.h.sub g'.h→(∀ w ζ,ax w g' ζ→ax w g ζ)→av T g'.h v xs→S ro P fn n R todo σ D g' ζ):S ro P fn n R todo σ D g aa :=
 S.fW s fun g' h1 h2 ⟨_,h3,h4⟩=>h g' h1 h2 (h3.arr.mono h4)
theorem O.gH {α:Type} {T:ag α} {e:TypeId} {v:Value} {xs:List α} (s:bA aa (ak T e v xs) ζ) (h:∀ g' :bp,g.h.sub g'.h→(∀ w ζ,ax w g' ζ→ax w g ζ)→av T g'.h v xs→O ro P fn n R ops L k σ D g' ζ):O ro P fn n R ops L k σ D g aa :=
 O.fW s fun g' h1 h2 ⟨_,h3,h4⟩=>h g' h1 h2 (h3.arr.mono h4)
theorem O.TM {α:Type} {T:ag α} {v:Value} {xs:List α} (s:bA aa (fun m=>av T m v xs) ζ) (h:∀ g' :bp,g.h.sub g'.h→(∀ w ζ,ax w g' ζ→ax w g ζ)→av T g'.h v xs→O ro P fn n R ops L k σ D g' ζ):O ro P fn n R ops L k σ D g aa :=
 O.fW s fun g' h1 h2 ⟨_,h3,h4⟩=>h g' h1 h2 (h3.mono h4)
theorem S.cy {todo:List Item} {b:Nat} {T:TypeId} {cs:List Value} (s:bA aa (obj b T cs) ζ) (h:∀ g' :bp,g.h.sub g'.h→(∀ w ζ,ax w g' ζ→ax w g ζ)→cg g'.h ⟨b,0,none⟩ cs→S ro P fn n R todo σ D g' ζ):S ro P fn n R todo σ D g aa :=
 S.fW s fun g' h1 h2 ⟨_,h3,h4⟩=>h g' h1 h2 ((qY h3).mono h4)
theorem O.cy {b:Nat} {T:TypeId} {cs:List Value} (s:bA aa (obj b T cs) ζ) (h:∀ g' :bp,g.h.sub g'.h→(∀ w ζ,ax w g' ζ→ax w g ζ)→cg g'.h ⟨b,0,none⟩ cs→O ro P fn n R ops L k σ D g' ζ):O ro P fn n R ops L k σ D g aa :=
 O.fW s fun g' h1 h2 ⟨_,h3,h4⟩=>h g' h1 h2 ((qY h3).mono h4)
end
theorem gX {aa:List az}:j_ aa aa:=.all
theorem gZ {aa:List az}:j_ aa []:=.nil
theorem gY {aa ζ cL:List az} {A:az} (h:bA aa A ζ) (k:j_ ζ cL):j_ aa (A::cL):=.cons h k
theorem g5 {A:az} {aa cL:List az} (k:j_ aa cL):j_ (A::aa) cL:=.skip k
end Go.Sp
end
section
/- Texts of this proof. -/
namespace Go.Sp
theorem Ir {P:Program} {fn:Func} {tmps:Array Value} {R:Ending→World→Prop}:∀ (ds:List Deferred) (u:FrameMode) (w:World) (fr:Frame)
  (cs:List Frame),fr.mode=u→fr.defers=ds→fr.tmps=tmps→P.funcs[fr.fn]?=some fn→fr.kind=.deferred→gE P fn tmps R ds u w →
  ∃ e w' fr',R e w' ∧Comes P (lone fr cs w) (lone fr' cs w') e∧fr'.kind=.deferred∧fr'.going P w' e:=by
 intro ds
 induction ds with
 |nil =>
  intro u w fr cs hu hd ht hf hk h
  cases u with
  |run=>exact h.elim
  |returning =>
   obtain ⟨v,hr,hR⟩:=h;exact ⟨.returned v,w,fr,hR,Steps.refl P _,hk,hu,hd,fn,hf,ht ▸ hr⟩
  |panicking chain=>exact ⟨.panicked chain,w,fr,h,Steps.refl P _,hk,hu,hd,fn,hf⟩
 |cons d ds ih =>
  intro u w fr cs hu hd ht hf hk h
  obtain ⟨hrun,h⟩:=h
  rcases h with ⟨r,w',wo,HS,HH⟩|⟨fv,cap,f,args,wo,hinv,vU⟩
  ·have h1:=step_collected (cs:=cs) (hu ▸ hrun) hd wo HS
   obtain ⟨e',w'',fr',qG,hs',qJ,hl'⟩:=ih u w' { fr with defers:=[]++ds } cs hu rfl ht hf hk HH;exact ⟨e',w'',fr',qG,Comes.of_steps (.one h1) hs',qJ,hl'⟩
  have h1:=step_defer (cs:=cs) (hu ▸ hrun) hd wo hinv;obtain ⟨e,u',w',Tq,hR,wk,GQ,Ag⟩:=vU { fr with defers:=ds } cs hu
  cases e with
  |returned v =>
   have h2:=step_going_returned (c:={ { fr with defers:=ds } with mode:=u' }) (cs:=cs) GQ Ag;obtain ⟨e',w'',fr',qG,hs',qJ,hl'⟩:=ih (settle u') w' { { { fr with defers:=ds } with mode:=u' } with mode:=settle u' } cs rfl rfl ht hf hk hR;exact ⟨e',w'',fr',qG,Comes.of_steps (.head h1 (Steps.trans wk (.one h2))) hs',qJ,hl'⟩
  |panicked chain =>
   have h2:=step_going_panicked (c:={ { fr with defers:=ds } with mode:=u' }) (cs:=cs) Ag;obtain ⟨e',w'',fr',qG,hs',qJ,hl'⟩:=ih (raised u' chain) w' { { { fr with defers:=ds } with mode:=u' } with mode:=raised u' chain } cs rfl rfl ht hf hk hR;exact ⟨e',w'',fr',qG,Comes.of_steps (.head h1 (Steps.trans wk (.one h2))) hs',qJ,hl'⟩
  |outgrown=>exact ⟨.outgrown,w',fr,hR,Outgrown.of_steps (.one h1) wk,hk,trivial⟩
def oz:FrameMode→Value
 |.panicking ({ v,recovered:=false,goexit:=false }::_)=>v
 |_=>.nilIface
def mU:FrameMode→FrameMode
 |.panicking ({ v,recovered:=false,goexit:=false }::older)=>.panicking ({ v,recovered:=true }::older)
 |u=>u
def O4 (ops:Array Oper) (n:Nat):Option (Nat × Nat) :=
 match (ops[0]?:Option Oper),(ops[1]?:Option Oper),(ops[2]?:Option Oper) with
 |some ⟨some d,.call ⟨.builtin .recover,_,_⟩,_,_,_,none⟩,some ⟨some e,.assign (.tmp d'),_,_,_,none⟩,none =>
  match Nat.beq d d',Nat.blt d n,Nat.blt e n with|true,true,true=>some (d,e)|_,_,_=>none
 |_,_,_=>none
theorem abv (c:Frame) (cs:List Frame):recoverD (c::cs)=none∧oz c.mode=.nilIface∧mU c.mode=c.mode∨recoverD (c::cs)=some (oz c.mode,{ c with mode:=mU c.mode }::cs):=by
 obtain ⟨fn,tmps,todo,defers,mode,kind,ro⟩:=c;unfold recoverD oz mU
 cases mode with
 |run=>left;simp
 |returning=>left;simp
 |panicking ch =>
  cases ch with
  |nil=>left;simp
  |cons p older =>
   obtain ⟨v,r,ge⟩:=p
   cases r<;>cases ge<;>simp
theorem n9 {P:Program} {f:FuncId} {fn:Func} {id:Nat} {ops:Array Oper} {rest:Code} {args:Array Value} {u:FrameMode} {w:World} {R:Ending→World→Prop} {n d e:Nat} (vs:List Value) (ha:args=vs.toArray)
  (hf:P.funcs[f]?=some fn) (hb:fn.body=some (.seq (.region id ops false) rest)) (hn:fn.ntmps=n) (hle:Nat.ble vs.length n=true) (uT:O4 ops n=some (d,e))
  {g:bp} {aa:List az} (hw:ax w g aa)
  (h:S none P fn n R [.code rest] ((e,oz u)::(d,oz u)::slots vs 0) [] g aa) :
  CallsD P f args u w fun e' u' w' =>u' =mU u∧R e' w' :=by
 intro c cs U6
 let b:Frame:={ (default:Frame) with fn:=f,kind:=.deferred }
 subst ha hn
 let a₀:Act:={ tmps:=vs.toArray++Array.replicate (fn.ntmps - vs.toArray.size) undef,defers:=[] }
 have GK:Frame.enter P f vs.toArray .deferred=b.at a₀ [.code (.seq (.region id ops false) rest)]:=by
  simp [Frame.enter,Frame.at,hf,hb,b,a₀]
 have hfit:Fits a₀ fn.ntmps (slots vs 0):=by
  refine ⟨?_,?_⟩
  ·have:vs.length≤fn.ntmps:=Nat.le_of_ble_eq_true hle
   simp [a₀];omega
  ·intro t v hl
   obtain ⟨_,h2⟩:=IF vs 0 t v hl;simp only [Nat.sub_zero] at h2;have:t<vs.length:=by
    rcases Nat.lt_or_ge t vs.length with q|q
    ·exact q
    ·rw [List.getElem?_eq_none q] at h2;cases h2
   simp only [a₀];rw [Array.getElem?_append_left (by simpa using this)]
   simpa using h2
 unfold O4 at uT
 split at uT
 case h_2=>cases uT
 rename_i d1 aen ady air pos1 afh e1 afR ais pos2 afi Vr rU o3
 split at uT
 case h_2=>cases uT
 rename_i V4 Hw V6
 cases uT
 have:=Nat.eq_of_beq_eq_true V4;subst this;have hsz:ops.size=2:=by
  have h1:=(Array.getElem?_eq_some_iff.1 rU).1;have h2:=Array.getElem?_eq_none_iff.1 o3
  omega
 let a₁:Act:=a₀.put (some d) (oz u)
 let a₂:Act:=a₁.put (some e) (oz u)
 have vW:Fits a₁ fn.ntmps ((d,oz u)::slots vs 0):=hfit.put Hw;have U':Fits a₂ fn.ntmps ((e,oz u)::(d,oz u)::slots vs 0):=vW.put V6;have G_:wpOpsS P ops (fun x a' cs' w' =>x=.normal∧a' =a₂∧cs' ={ c with mode:=mU u }::cs∧w' =w) [0,1] a₀ (c::cs) w:=by
  have MD:a₁.eval (.tmp d)=oz u:=vW.eval (x:=.tmp d) (by simp [aE,look]);have j4:{ c with mode:=mU u }=c∨True:=.inr trivial;simp only [wpOpsS,Vr,rU,Region.wanted,if_true];have WD:∀ o:Oper,o.op=.call ⟨.builtin .recover,aen,ady⟩→(execOp a₀.eval o).run P w=.ok .recover w:=fun o ho=>by
   simp [execOp,ho,resolve,invoke,builtin]
  rw [WD _ rfl];subst U6
  rcases abv c cs with ⟨q1,bg,ei⟩|q1
  ·simp only [q1]
   have HN:∀ o:Oper,o.op=.assign (.tmp d)→(execOp (a₀.put (some d) .nilIface).eval o).run P w=.ok (.value (oz c.mode)) w:=fun o ho=>by
    rw [← bg];simp [execOp,ho];exact MD
   rw [HN _ rfl];simp only [Oper.upon_value];refine ⟨trivial,?_,?_,trivial⟩
   ·simp only [a₂,a₁,bg]
   ·rw [ei]
  ·simp only [q1]
   have HN:∀ o:Oper,o.op=.assign (.tmp d)→(execOp (a₀.put (some d) (oz c.mode)).eval o).run P w=.ok (.value (oz c.mode)) w:=fun o ho=>by
    simp [execOp,ho];exact MD
   rw [HN _ rfl];simp only [Oper.upon_value];exact ⟨trivial,rfl,trivial,trivial⟩
 obtain ⟨x,a',cs',w',⟨rfl,rfl,rfl,rfl⟩,kP⟩:=wp_opsS (P:=P) (Q:=fun x a' cs' w' =>x=.normal∧a' =a₂∧cs' ={ c with mode:=mU u }::cs∧w' =w) [0,1] a₀ (c::cs) w G_ b [.code rest] rfl rfl;have hstart:Steps P (lone (Frame.enter P f vs.toArray .deferred) (c::cs) w') (lone (b.at a₂ [.code rest]) ({ c with mode:=mU u }::cs) w'):=by
  rw [GK];have hr:List.range ops.size=[0,1]:=by rw [hsz];rfl
  exact .head step_seq (.head step_region (by rw [hr];exact kP))
 obtain ⟨x,a',w'',hq,vR⟩:=h a₂ w' U' rfl hw b ({ c with mode:=mU u }::cs) rfl ⟨fn,hf⟩;have vR:=(arrivesIn_iff (I:=Machine.fenced P Fence.wide) (fun _ _=>stepsIn_wide) rfl).1 vR;rw [Frame.atR_of_none rfl] at vR
 cases x with
 |normal =>
  obtain ⟨e',w3,fr',hR,hs,hk,hg⟩:=Ir a'.defers .returning w'' { b.at a' [] with mode:=.returning } ({ c with mode:=mU u }::cs) rfl rfl rfl hf rfl hq;exact ⟨e',mU u,w3,fr',⟨rfl,hR⟩,Comes.of_steps (hstart.trans (Steps.trans vR (.one step_end))) hs,hk,hg⟩
 |ret =>
  obtain ⟨todo,wm⟩:=vR;obtain ⟨e',w3,fr',hR,hs,hk,hg⟩:=Ir a'.defers .returning w'' { b.at a' todo with mode:=.returning } ({ c with mode:=mU u }::cs) rfl rfl rfl hf rfl hq;exact ⟨e',mU u,w3,fr',⟨rfl,hR⟩,Comes.of_steps (hstart.trans wm) hs,hk,hg⟩
 |panic chain =>
  obtain ⟨todo,wm⟩:=vR;obtain ⟨e',w3,fr',hR,hs,hk,hg⟩:=Ir a'.defers (.panicking chain) w'' { b.at a' todo with mode:=.panicking chain } ({ c with mode:=mU u }::cs) rfl rfl rfl hf rfl hq;exact ⟨e',mU u,w3,fr',⟨rfl,hR⟩,Comes.of_steps (hstart.trans wm) hs,hk,hg⟩
 |exit _=>exact hq.elim
 |goto _=>exact hq.elim
 |outgrown=>exact ⟨.outgrown,mU u,w'',b,⟨rfl,hq⟩,Outgrown.of_steps hstart (vR.resolve_left (by simp [b])),rfl,trivial⟩
section
variable {ro:Option Nat} {P:Program} {fn:Func} {n:Nat} {R:Ending→World→Prop} {k:List Item} {σ:List (Nat × Value)} {D:List Deferred} {g:bp} {aa ζ:List az}
 {ops:Array Oper} {i d:Nat} {l:List Nat} {f:FuncId} {x y:Operand} {xs:Array Operand} {ts:Array TypeId} {b9:List Value} {K:Value→List az→Prop} {t:TypeId}
theorem O.defer {first cap:Array Value} (ho:nN ops i=some (.defer ⟨.value x,xs,ts⟩)) (hx:aE σ x=some (.func (.func f) first cap)) (hv:e8 σ xs.toList=some b9) {args:Array Value} (hargs:first++b9.toArray=args)
  (h:O none P fn n R ops l k σ (⟨.fn (.func f) cap,args⟩::D) g aa):O none P fn n R ops (i::l) k σ D g aa:=by
 intro a w hf hd hw
 obtain ⟨o,hi,iO,hop,hg⟩:=tS ho;simp only [wpOpsIn,hi,Region.wanted,hg,if_true];refine ⟨fun _ _=>trivial,?_⟩;have hm:xs.map a.eval=b9.toArray:=by rw [← uJ hf.rX hv,← Array.toList_map]
 have hrun:(execOp a.eval o).run P w=.ok (.defer ⟨.fn (.func f) cap,args⟩) w:=by
  simp [execOp,hop,resolve,hf.eval hx,Deferred.ofValue,hm,hargs]
 show o.uponIn (pE none) 0 P a _ _ ((o.semAt none a.eval).run P w)
 rw [Oper.semAt_none,hrun,Oper.uponIn_defer,iO];exact h _ w ⟨hf.1,hf.2⟩ (by simp [Act.put,hd]) hw
def y4 (g:bp) (b:Nat) (R:Ending→World→Prop) (e:Ending) (u:FrameMode) (w:World):Prop :=
 (∃ v,e=.returned v)∧settle u=.returning∧∃ T v aa,ax w g (obj b T [v]::aa)∧R (.returned v) w
theorem De {a:Act} {w:World} {u:FrameMode} {nP b:Nat} {ty:TypeId} {cap args:Array Value} (hr:fn.results=#[.cell nP ty]) (wq:gd P ty=true) (hf:Fits a n σ) (hl:look σ nP=some (.pointer (some ⟨b,0,none⟩)))
  (hu:u≠.run) (hc:ed P f=true) (vU:CallsD P f (args++cap) u w (y4 g b R)):gE P fn a.tmps R [⟨.fn (.func f) cap,args⟩] u w:=by
 refine gE.of (leaves_cons hu (by simp [invoke,JO hc]) (vU.mono ?_));rintro e u' w' ⟨⟨v,rfl⟩,hs,T,v',au,hw,hR⟩
 show Leaves P fn a.tmps R [] (settle u') w'
 rw [hs];refine ⟨v',?_,hR⟩;have hc0:w'.cell? ⟨b,0,none⟩=some v' :=hw.wL (by rfl);have hl' :=hf.2 nP _ hl
 simp [results,hr,Array.getD_eq_getD_getElem?,hl',asAddr,loadVar,ve (uK wq),hc0]
theorem S.r6 (h:∀ a w,Fits a n σ→a.defers=D→ax w g aa→gE P fn a.tmps R D .returning w):S none P fn n R (.code .ret::k) σ D g aa:=by
 intro a w hf hd hw
 refine .ret ?_
 show gE P fn a.tmps R a.defers .returning w
 rw [hd];exact h a w hf hd hw
theorem S.O6 {nP b:Nat} {ty T:TypeId} {v:Value} (hr:fn.results=#[.cell nP ty]) (wq:gd P ty=true) (hl:look σ nP=some (.pointer (some ⟨b,0,none⟩))) (hs:bA aa (obj b T [v]) ζ)
  (h:∀ w,ax w g (obj b T [v]::ζ)→R (.returned v) w):S none P fn n R (.code .ret::k) σ [] g aa:=by
 refine S.r6 fun a w hf hd hw=>?_;have hw' :=hw.eJ hs;refine ⟨v,?_,h w hw'⟩;have hc0:w.cell? ⟨b,0,none⟩=some v:=hw'.wL (by rfl);have hl' :=hf.2 nP _ hl
 simp [results,hr,Array.getD_eq_getD_getElem?,hl',asAddr,loadVar,ve (uK wq),hc0]
theorem O.Ll {first cap:Array Value} {X:List PanicEntry→List az→Prop} (ho:cA ops i n σ d (.call ⟨.value x,xs,ts⟩)) (hx:aE σ x=some (.func (.func f) first cap)) (hc:ed P f=true)
  (hv:e8 σ xs.toList=some b9) {args:Array Value} (hargs:first++b9.toArray++cap=args) (con:aj P f args g.h aa (dg K X))
  (hp:∀ a ch au w,Fits a n σ→X ch au →ax w g (au ++ζ)→gE P fn a.tmps R D (.panicking ch) w)
  (h:∀ v au,K v au →O none P fn n R ops l k ((d,v)::σ) D g (au ++ζ)):O none P fn n R ops (i::l) k σ D g (aa++ζ):=by
 intro a w hf hd hw
 obtain ⟨o,hi,iO,hop,hg,hb⟩:=ho.spec;have hm:xs.map a.eval=b9.toArray:=by rw [← uJ hf.rX hv,← Array.toList_map]
 refine O.vL hi (hg a hf) (by rw [hop];intro c hc;cases hc) (DO hop (hf.rX x _ hx) hc w) ?_;rw [Oper.uponIn_enter,hm,hargs];refine Fq ?_;refine (con.frame (ζ:=ζ) g (Fr.bH _) w hw).mono fun e w' hh=>?_;obtain ⟨au,⟨eX,hq,rfl⟩,hw'⟩:=hh
 cases e with
 |returned v =>
  show wpOpsIn (pE none) 0 P ops _ l (a.put o.dst v) w'
  rw [iO];exact h v eX hq _ _ (hf.put hb) hd hw'
 |panicked ch =>
  show gE P fn a.tmps R a.defers (.panicking ch) w'
  rw [hd];exact hp a ch eX w' hf hq hw'
 |outgrown=>exact hq.elim
theorem O.nr {first cap:Array Value} {X:List PanicEntry→List az→Prop} {A:az} (ho:cA ops i n σ d (.call ⟨.value x,xs,ts⟩)) (hx:aE σ x=some (.func (.func f) first cap)) (hc:ed P f=true)
  (hv:e8 σ xs.toList=some b9) {args:Array Value} (hargs:first++b9.toArray++cap=args) (hs:bA aa A ζ) (con:aj P f args g.h [A] (dg K X))
  (hp:∀ ch au w,X ch au →ax w g (au ++ζ)→R (.panicked ch) w)
  (h:∀ v au,K v au →O ro P fn n R ops l k ((d,v)::σ) [] g (au ++ζ)):O ro P fn n R ops (i::l) k σ [] g aa :=
 fun a w hf hd hw=>O.Fp (aa:=[A]) (ζ:=ζ) ho hx hc hv hargs con hp h a w hf hd (hw.eJ hs)
theorem O.cV {first cap:Array Value} {X:List PanicEntry→List az→Prop} (ho:cA ops i n σ d (.call ⟨.value x,xs,ts⟩)) (hx:aE σ x=some (.func (.func f) first cap)) (hc:ed P f=true)
  (hv:e8 σ xs.toList=some b9) {args:Array Value} (hargs:first++b9.toArray++cap=args) (con:aj P f args g.h [] (dg K X))
  (hp:∀ ch au w,X ch au →ax w g (au ++aa)→R (.panicked ch) w)
  (h:∀ v au,K v au →O ro P fn n R ops l k ((d,v)::σ) [] g (au ++aa)):O ro P fn n R ops (i::l) k σ [] g aa :=
 O.Fp (aa:=[]) (ζ:=aa) ho hx hc hv hargs con hp h
theorem O.Lm {first cap:Array Value} {X:List PanicEntry→List az→Prop} {A:az} (ho:cA ops i n σ d (.call ⟨.value x,xs,ts⟩)) (hx:aE σ x=some (.func (.func f) first cap)) (hc:ed P f=true)
  (hv:e8 σ xs.toList=some b9) {args:Array Value} (hargs:first++b9.toArray++cap=args) (hs:bA aa A ζ) (con:aj P f args g.h [A] (dg K X))
  (hp:∀ a ch au w,Fits a n σ→X ch au →ax w g (au ++ζ)→gE P fn a.tmps R D (.panicking ch) w)
  (h:∀ v au,K v au →O none P fn n R ops l k ((d,v)::σ) D g (au ++ζ)):O none P fn n R ops (i::l) k σ D g aa :=
 fun a w hf hd hw=>O.Ll (aa:=[A]) (ζ:=ζ) ho hx hc hv hargs con hp h a w hf hd (hw.eJ hs)
theorem O.zE {first cap:Array Value} {X:List PanicEntry→List az→Prop} (ho:cA ops i n σ d (.call ⟨.value x,xs,ts⟩)) (hx:aE σ x=some (.func (.func f) first cap)) (hc:ed P f=true)
  (hv:e8 σ xs.toList=some b9) {args:Array Value} (hargs:first++b9.toArray++cap=args) (con:aj P f args g.h [] (dg K X))
  (hp:∀ a ch au w,Fits a n σ→X ch au →ax w g (au ++aa)→gE P fn a.tmps R D (.panicking ch) w)
  (h:∀ v au,K v au →O none P fn n R ops l k ((d,v)::σ) D g (au ++aa)):O none P fn n R ops (i::l) k σ D g aa :=
 O.Ll (aa:=[]) (ζ:=aa) ho hx hc hv hargs con hp h
theorem ah.nr {first cap:Array Value} {X:List PanicEntry→List az→Prop} {A:az} (ho:cA ops i n σ d (.call ⟨.value x,xs,ts⟩)) (hd:gG ops [i] l=true) (hx:aE σ x=some (.func (.func f) first cap)) (hc:ed P f=true)
  (hv:e8 σ xs.toList=some b9) {args:Array Value} (hargs:first++b9.toArray++cap=args) (hs:bA aa A ζ) (con:aj P f args g.h [A] (dg K X))
  (hp:∀ ch au w,X ch au →ax w g (au ++ζ)→R (.panicked ch) w)
  (h:∀ v au,K v au →ah P fn n R ops k [] g l ((d,v)::σ) (au ++ζ)):ah P fn n R ops k [] g (i::l) σ aa :=
 ah.perm hs.perm (ah.mI (aa:=[A]) (ζ:=ζ) ho hd hx hc hv hargs con (fun _ ch au w hX hW=>hp ch au w hX hW) h)
theorem ah.cV {first cap:Array Value} {X:List PanicEntry→List az→Prop} (ho:cA ops i n σ d (.call ⟨.value x,xs,ts⟩)) (hd:gG ops [i] l=true) (hx:aE σ x=some (.func (.func f) first cap)) (hc:ed P f=true)
  (hv:e8 σ xs.toList=some b9) {args:Array Value} (hargs:first++b9.toArray++cap=args) (con:aj P f args g.h [] (dg K X))
  (hp:∀ ch au w,X ch au →ax w g (au ++aa)→R (.panicked ch) w)
  (h:∀ v au,K v au →ah P fn n R ops k [] g l ((d,v)::σ) (au ++aa)):ah P fn n R ops k [] g (i::l) σ aa :=
 ah.mI (aa:=[]) (ζ:=aa) ho hd hx hc hv hargs con (fun _ ch au w hX hW=>hp ch au w hX hW) h
theorem abO {ms:Array (String × TypeId)} {u:TypeId} {v:Value} (ht:P.underlying t=some (.interface ms)) (w:World):(Op.equal t (.iface u v) .nilIface).run P w=.ok false w:=by
 show (Op.equalIn (9999+1) t (.iface u v) .nilIface).run P w=_
 rw [Op.equalIn];simp [run_underlying ht]
theorem abP {ms:Array (String × TypeId)} (ht:P.underlying t=some (.interface ms)) (w:World):(Op.equal t .nilIface .nilIface).run P w=.ok true w:=by
 show (Op.equalIn (9999+1) t .nilIface .nilIface).run P w=_
 rw [Op.equalIn];simp [run_underlying ht]
theorem aK.wH {u:TypeId} {ms:Array (String × TypeId)} {v:Value} {adz:TypeId} (ht:P.underlying t=some (.interface ms)) (hx:aE σ x=some (.iface adz v)):aK P (.binOp .neq t x (.const .nilIface) u) σ g aa (.bool true) aa :=
 .run fun o ρ w ho hk=>by simp [execOp,ho,hk x _ hx,hk (.const .nilIface) _ rfl,eqGuard,Go.binOp,abO ht]
theorem aK.wG {u:TypeId} {ms:Array (String × TypeId)} (ht:P.underlying t=some (.interface ms)) (hx:aE σ x=some .nilIface):aK P (.binOp .neq t x (.const .nilIface) u) σ g aa (.bool false) aa :=
 .run fun o ρ w ho hk=>by simp [execOp,ho,hk x _ hx,hk (.const .nilIface) _ rfl,eqGuard,Go.binOp,abP ht]
theorem aK.vE {ti ta:TypeId} {v:Value} {dd:TypeDesc} (ht:P.underlying ta=some dd) (hx:aE σ x=some (.iface ta v)) (hn:Oj dd=true:=by rfl):aK P (.typeAssert x ti ta true) σ g aa (.tuple #[v,.bool true]) aa :=
 .run fun o ρ w ho hk=>by
  simp only [execOp,ho,hk x _ hx,Instr.typeAssert,Sem.run_bind,run_underlying ht,Result.andThen_ok]
  cases dd<;>first|(simp;done)|exact Bool.noConfusion hn
end
end Go.Sp
end
end
end
