/- Texts of this proof, one behind the other. -/
import Derived.Test.YtojafegjlahajaaGreatDoorQSpDraw
import Derived.WalkSpells
set_option linter.unusedSectionVars false
section
/- Texts of this proof. -/
namespace Go.Sp
def All2 {α β:Type} (R:β→α→Prop):List β→List α→Prop
 |[],[]=>True
 |b::bs,a::as=>R b a∧All2 R bs as
 |_,_=>False
theorem All2.imp {α β:Type} {R S:β→α→Prop} (h:∀ b a,R b a→S b a):∀ {bs:List β} {as:List α},All2 R bs as→All2 S bs as
 |[],[],_=>trivial
 |_::_,_::_,⟨x,y⟩=>⟨h _ _ x,All2.imp h y⟩
theorem All2.length {α β:Type} {R:β→α→Prop}:∀ {bs:List β} {as:List α},All2 R bs as→bs.length=as.length
 |[],[],_=>rfl
 |_::_,_::_,⟨_,y⟩=>by simp [All2.length y]
theorem All2.get {α β:Type} {R:β→α→Prop}:∀ {bs:List β} {as:List α} (_:All2 R bs as) (i:Nat) (hb:i<bs.length) (ha:i<as.length),R bs[i] as[i]
 |_::_,_::_,⟨x,_⟩,0,_,_=>x
 |_::_,_::_,⟨_,y⟩,i+1,hb,ha=>All2.get y i (by simpa using hb) (by simpa using ha)
theorem All2.append {α β:Type} {R:β→α→Prop}:∀ {bs cs:List β} {as ds:List α},All2 R bs as→All2 R cs ds→All2 R (bs++cs) (as++ds)
 |[],_,[],_,_,h=>h
 |_::_,_,_::_,_,⟨x,y⟩,h=>⟨x,All2.append y h⟩
theorem All2.drop {α β:Type} {R:β→α→Prop}:∀ {bs:List β} {as:List α} (n:Nat),All2 R bs as→All2 R (bs.drop n) (as.drop n)
 |_,_,0,h=>h
 |[],[],_+1,_=>trivial
 |_::_,_::_,n+1,⟨_,y⟩=>All2.drop n y
theorem All2.take {α β:Type} {R:β→α→Prop}:∀ {bs:List β} {as:List α} (n:Nat),All2 R bs as→All2 R (bs.take n) (as.take n)
 |_,_,0,_=>trivial
 |[],[],_+1,_=>trivial
 |_::_,_::_,n+1,⟨x,y⟩=>⟨x,All2.take n y⟩
structure Rp (α:Type) where
 k:Nat
 rel:Fr→List Value→α→Prop
 len:∀ {h:Fr} {cs:List Value} {a:α},rel h cs a→cs.length=k
 mono:∀ {h h' :Fr} {cs:List Value} {a:α},h.sub h' →rel h cs a→rel h' cs a
 one:∀ {h:Fr} {cs:List Value} {a:α},rel h cs a→∀ c∈cs,c.oneCell' =true
def Arr {α:Type} (T:Rp α) (h:Fr) (v:Value) (xs:List α):Prop:=∃ css:List (List Value),All2 (T.rel h) css xs∧Sl h v T.k xs.length css.flatten
section
variable {α:Type} {T:Rp α} {h:Fr} {v:Value} {xs:List α}
theorem Arr.mono {h' :Fr} (s:h.sub h'):Arr T h v xs→Arr T h' v xs
 |⟨css,a,b⟩=>⟨css,a.imp fun _ _=>T.mono s,b.mono s⟩
theorem Arr.shape:Arr T h v xs→∃ a c,v=.slice a xs.length c
 |⟨_,_,a,c,hv,_⟩=>⟨a,c,hv⟩
theorem Arr.bound:Arr T h v xs→xs.length≤9223372036854775807
 |⟨_,_,b⟩=>b.bound
theorem All2.flat_take {css:List (List Value)} (ha:All2 (T.rel h) css xs) (i:Nat):css.flatten.take (i*T.k)=(css.take i).flatten:=by
 induction i generalizing css xs with
 |zero=>simp
 |succ i ih =>
  cases css with
  |nil=>simp
  |cons c css =>
   cases xs with
   |nil=>exact ha.elim
   |cons x xs =>
    have hc:c.length=T.k:=T.len ha.1;simp only [List.flatten_cons,List.take_succ_cons];rw [Nat.succ_mul,List.take_append,List.take_of_length_le (by omega),show i*T.k+T.k - c.length=i*T.k from by omega,ih ha.2]
theorem All2.flat_drop {css:List (List Value)} (ha:All2 (T.rel h) css xs) (i:Nat):css.flatten.drop (i*T.k)=(css.drop i).flatten:=by
 induction i generalizing css xs with
 |zero=>simp
 |succ i ih =>
  cases css with
  |nil=>simp
  |cons c css =>
   cases xs with
   |nil=>exact ha.elim
   |cons x xs =>
    have hc:c.length=T.k:=T.len ha.1;simp only [List.flatten_cons,List.drop_succ_cons];rw [Nat.succ_mul,List.drop_append,List.drop_eq_nil_of_le (by omega),List.nil_append,show i*T.k+T.k - c.length=i*T.k from by omega,ih ha.2]
theorem All2.flat_get {css:List (List Value)} (ha:All2 (T.rel h) css xs) (i:Nat) (hi:i<css.length):(css.flatten.drop (i*T.k)).take T.k=css[i]:=by
 rw [ha.flat_drop,List.drop_eq_getElem_cons hi,List.flatten_cons,List.take_append];have hc:css[i].length=T.k:=T.len (ha.get i hi (by rw [← ha.length];exact hi));rw [List.take_of_length_le (by omega),hc];simp
end
section
variable {ro:Option Nat} {P:Program} {σ:List (Nat × Value)} {g:Gr} {η ζ:List SProp} {fn:Func} {n:Nat} {R:Ending→World→Prop} {K:List Item} {D:List Deferred} {ops:Array Oper} {i d:Nat} {l:List Nat}
 {t e:TypeId} {x y:Operand} {v:Value} {kd:IntKind} {j:Nat}
theorem idx_does {α:Type} {T:Rp α} {xs:List α} (ht:P.underlying t=some (.slice e)) (he:(P.info? e).map (·.size)=some T.k) (hx:ev σ x=some v) {zi:Int} (hy:ev σ y=some (.int kd zi)) (hzi:zi=(j:Int))
  (hs:Arr T g.h v xs) (hk0:0<T.k) (hm:j<xs.length):∃ p cs,(∀ η,Does P (.indexAddr t x y) σ g η (.pointer (some p)) η)∧At g.h p cs∧T.rel g.h cs xs[j]:=by
 subst hzi;obtain ⟨css,ha,hsl⟩:=hs;obtain ⟨a,cap,rfl,h1,h2,h3,h4⟩:=hsl
 cases a with
 |none =>
  have:0<css.flatten.length:=by rw [h3];exact Nat.mul_pos (by omega) hk0
  obtain ⟨p,hp,_⟩:=h4 0 this
  cases hp
 |some a =>
  have hj:j<css.length:=by rw [ha.length];exact hm
  refine ⟨a.add (j*T.k),css[j],fun η=>.run fun o ρ w ho hk=>?_,?_,ha.get j hj hm⟩
  ·have hij:(j:Int)<(xs.length:Int):=by omega
   simp [execOp,ho,hk x _ hx,hk y _ hy,Instr.indexAt,asIntOf,run_underlying ht,hm,run_sizeOf he]
  ·rw [← ha.flat_get j hj]
   intro q hq
   rw [Addr.add_add];have hq' :j*T.k+q<css.flatten.length:=by simp only [List.length_take,List.length_drop] at hq;omega
   obtain ⟨p,hp,hc⟩:=h4 _ hq'
   cases hp
   rw [hc];simp
theorem O.idx' {α:Type} {T:Rp α} {xs:List α} (ho:Fires ops i n σ d (.indexAddr t x y)) (ht:P.underlying t=some (.slice e)) (he:(P.info? e).map (·.size)=some T.k) (hx:ev σ x=some v)
  {zi:Int} (hy:ev σ y=some (.int kd zi)) (hzi:zi=(j:Int)) (hs:Arr T g.h v xs) (hk0:0<T.k) (hm:j<xs.length)
  (h:∀ p cs,At g.h p cs→T.rel g.h cs xs[j]→O ro P fn n R ops l K ((d,.pointer (some p))::σ) D g η):O ro P fn n R ops (i::l) K σ D g η:=by
 obtain ⟨p,cs,h1,h2,h3⟩:=idx_does ht he hx hy hzi hs hk0 hm;exact O.op ho (h1 η) (h p cs h2 h3)
theorem OD.idx' {α:Type} {T:Rp α} {xs:List α} (ho:Fires ops i n σ d (.indexAddr t x y)) (ht:P.underlying t=some (.slice e)) (he:(P.info? e).map (·.size)=some T.k) (hx:ev σ x=some v)
  {zi:Int} (hy:ev σ y=some (.int kd zi)) (hzi:zi=(j:Int)) (hs:Arr T g.h v xs) (hk0:0<T.k) (hm:j<xs.length)
  (h:∀ p cs,At g.h p cs→T.rel g.h cs xs[j]→OD P fn n R ops K D g l ((d,.pointer (some p))::σ) η):OD P fn n R ops K D g (i::l) σ η:=by
 obtain ⟨p,cs,h1,h2,h3⟩:=idx_does ht he hx hy hzi hs hk0 hm;exact .quiet ho rfl h1 (h p cs h2 h3)
theorem slice_does {α:Type} {T:Rp α} {xs:List α} {r:Fr} {lo hi:Option Operand} {a b:Nat} {kl kh:IntKind} (ht:P.underlying t=some (.slice e)) (he:(P.info? e).map (·.size)=some T.k) (hx:ev σ x=some v)
  (hlo:∀ y,lo=some y→ev σ y=some (.int kl (a:Int))) (hlo' :lo=none→a=0) (hhi:∀ y,hi=some y→ev σ y=some (.int kh (b:Int))) (hhi' :hi=none→b=xs.length)
  (hs:Arr T r v xs) (hab:a≤b) (hb:b≤xs.length):∃ u,(∀ η,Does P (.slice t x lo hi none) σ g η u η)∧Arr T r u ((xs.take b).drop a):=by
 obtain ⟨css,ha,hsl⟩:=hs;obtain ⟨ad,cap,rfl,h1,h2,h3,h4⟩:=hsl;refine ⟨.slice (if cap=a then ad else ad.map (·.add (a*T.k))) (b - a) (cap - a),fun η=>.run fun o ρ w ho hk=>?_,(css.take b).drop a,(ha.take b).drop a,?_⟩
 ·have e1:(a:Int)≤(b:Int):=by omega
  have e2:(b:Int)≤(cap:Int):=by omega
  have hl0:lo=none→a=0:=hlo'
  cases lo with
  |none =>
   have:=hlo' rfl;subst this
   cases hi with
   |none=>have:=hhi' rfl;subst this;simp [execOp,ho,hk x _ hx,Instr.sliceAt,run_underlying ht,Instr.slice,Instr.sliceBounds,run_sizeOf he]
   |some y =>
    have hb' :b≤cap:=by omega
    simp [execOp,ho,hk x _ hx,hk y _ (hhi y rfl),Instr.sliceAt,run_underlying ht,Instr.slice,Instr.sliceBounds,Instr.sliceBound,asIntOf,hb',run_sizeOf he]
  |some z =>
   cases hi with
   |none=>have:=hhi' rfl;subst this;simp [execOp,ho,hk x _ hx,hk z _ (hlo z rfl),Instr.sliceAt,run_underlying ht,Instr.slice,Instr.sliceBounds,Instr.sliceBound,asIntOf,hab,run_sizeOf he]
   |some y =>
    have hb' :b≤cap:=by omega
    simp [execOp,ho,hk x _ hx,hk z _ (hlo z rfl),hk y _ (hhi y rfl),Instr.sliceAt,run_underlying ht,Instr.slice,Instr.sliceBounds,Instr.sliceBound,asIntOf,hab,hb',run_sizeOf he]
 ·have hlen:((xs.take b).drop a).length=b - a:=by simp;omega
  have hcs:((css.take b).drop a).flatten=(css.flatten.take (b*T.k)).drop (a*T.k):=by
   rw [ha.flat_take b,(ha.take b).flat_drop a]
  refine ⟨_,cap - a,by rw [hlen],by omega,⟨by omega,fun h=>?_⟩,?_,?_⟩
  ·cases ad with
   |none=>have:=h2.2 rfl;omega
   |some ad=>simp only [Option.map_some] at h;split at h<;>cases h
  ·rw [hcs,hlen,List.length_drop,List.length_take,h3,Nat.sub_mul,Nat.min_eq_left (Nat.mul_le_mul_right _ hb)]
  ·intro q hq
   rw [hcs] at hq;have hq2:a*T.k+q<css.flatten.length:=by simp only [List.length_take,List.length_drop] at hq;omega
   obtain ⟨p,rfl,hc⟩:=h4 _ hq2;have hne:cap≠a:=by
    rintro rfl;have:css.flatten.length≤cap*T.k:=by rw [h3];exact Nat.mul_le_mul_right _ (by omega)
    omega
   refine ⟨p.add (a*T.k),by simp [hne],?_⟩;rw [Addr.add_add,hc]
   simp [hcs]
end
section
variable {ro:Option Nat} {P:Program} {σ:List (Nat × Value)} {g:Gr} {η ζ:List SProp} {fn:Func} {n:Nat} {R:Ending→World→Prop} {K:List Item} {D:List Deferred} {ops:Array Oper} {i d:Nat} {l:List Nat}
 {t e:TypeId} {x y z:Operand} {v:Value} {ka kb:IntKind} {za zb:Int} {a b:Nat} {α:Type} {T:Rp α} {xs:List α} {r:Fr}
theorem O.sliceTo (ho:Fires ops i n σ d (.slice t x none (some y) none)) (ht:P.underlying t=some (.slice e)) (he:(P.info? e).map (·.size)=some T.k) (hx:ev σ x=some v) (hy:ev σ y=some (.int kb zb)) (hs:Arr T r v xs) (hz:zb=(b:Int)) (hb:b≤xs.length)
  (h:∀ u,Arr T r u (xs.take b)→O ro P fn n R ops l K ((d,u)::σ) D g η):O ro P fn n R ops (i::l) K σ D g η:=by
 subst hz;obtain ⟨u,h1,h2⟩:=slice_does (g:=g) (a:=0) (b:=b) (kl:=.i64) ht he hx (lo:=none) (hi:=some y) (fun _ h=>nomatch h) (fun _=>rfl) (fun _ h=>by cases h;exact hy) (fun h=>nomatch h) hs (Nat.zero_le _) hb;exact O.op ho (h1 η) (h u h2)
theorem O.sliceFrom (ho:Fires ops i n σ d (.slice t x (some y) none none)) (ht:P.underlying t=some (.slice e)) (he:(P.info? e).map (·.size)=some T.k) (hx:ev σ x=some v) (hy:ev σ y=some (.int ka za)) (hs:Arr T r v xs) (hz:za=(a:Int)) (ha:a≤xs.length)
  (h:∀ u,Arr T r u (xs.drop a)→O ro P fn n R ops l K ((d,u)::σ) D g η):O ro P fn n R ops (i::l) K σ D g η:=by
 subst hz;obtain ⟨u,h1,h2⟩:=slice_does (g:=g) (a:=a) (b:=xs.length) (kh:=.i64) ht he hx (lo:=some y) (hi:=none) (fun _ h=>by cases h;exact hy) (fun h=>nomatch h) (fun _ h=>nomatch h) (fun _=>rfl) hs ha (Nat.le_refl _);exact O.op ho (h1 η) (h u (by rw [List.take_length] at h2;exact h2))
theorem O.sliceMid (ho:Fires ops i n σ d (.slice t x (some y) (some z) none)) (ht:P.underlying t=some (.slice e)) (he:(P.info? e).map (·.size)=some T.k) (hx:ev σ x=some v) (hy:ev σ y=some (.int ka za)) (hz:ev σ z=some (.int kb zb)) (hs:Arr T r v xs) (h1:za=(a:Int)) (h2:zb=(b:Int)) (hab:a≤b) (hb:b≤xs.length)
  (h:∀ u,Arr T r u ((xs.take b).drop a)→O ro P fn n R ops l K ((d,u)::σ) D g η):O ro P fn n R ops (i::l) K σ D g η:=by
 subst h1;subst h2;obtain ⟨u,h1,h2⟩:=slice_does (g:=g) (a:=a) (b:=b) ht he hx (lo:=some y) (hi:=some z) (fun _ h=>by cases h;exact hy) (fun h=>nomatch h) (fun _ h=>by cases h;exact hz) (fun h=>nomatch h) hs hab hb;exact O.op ho (h1 η) (h u h2)
end
def byteV (b:UInt8):Value:=.int .u8 b.toNat
def str (xs:List UInt8):ByteArray:=⟨xs.toArray⟩
@[simp] theorem str_toList (xs:List UInt8):(str xs).toList=xs:=by rw [ByteArray.toList_eq];rfl
@[simp] theorem str_size (xs:List UInt8):(str xs).size=xs.length:=by simp [str,ByteArray.size]
def Rp.u8:Rp UInt8:={ k:=1,rel:=fun _ cs b=>cs=[byteV b],len:=fun h=>by rw [h];rfl,mono:=fun _ h=>h,one:=fun h c hc=>by subst h;simp at hc;subst hc;rfl }
def InI64 (z:Int):Prop:= -9223372036854775808≤z∧z≤9223372036854775807
def Rp.i64:Rp Int:={ k:=1,rel:=fun _ cs z=>cs=[.int .i64 z]∧InI64 z,len:=fun h=>by rw [h.1];rfl,mono:=fun _ h=>h,one:=fun h c hc=>by rw [h.1] at hc;simp at hc;subst hc;rfl }
def Rp.bool:Rp Bool:={ k:=1,rel:=fun _ cs b=>cs=[.bool b],len:=fun h=>by rw [h];rfl,mono:=fun _ h=>h,one:=fun h c hc=>by subst h;simp at hc;subst hc;rfl }
def Rp.str:Rp (List UInt8):={ k:=1,rel:=fun _ cs s=>cs=[.string (Go.Sp.str s)]∧s.length≤9223372036854775807,len:=fun h=>by rw [h.1];rfl,mono:=fun _ h=>h,one:=fun h c hc=>by rw [h.1] at hc;simp at hc;subst hc;rfl }
def Rp.slice {α:Type} (T:Rp α):Rp (List α):={ k:=1,rel:=fun h cs xs=>∃ v,cs=[v]∧Arr T h v xs,len:=fun ⟨_,h,_⟩=>by rw [h];rfl,mono:=fun s ⟨v,h,a⟩=>⟨v,h,a.mono s⟩,one:=fun ⟨v,h,a⟩ c hc=>by subst h;simp at hc;subst hc;obtain ⟨_,_,rfl⟩:=a.shape;rfl }
def Rp.val:Rp Value:={ k:=1,rel:=fun _ cs v=>cs=[v]∧v.oneCell' =true,len:=fun h=>by rw [h.1];rfl,mono:=fun _ h=>h,one:=fun h c hc=>by rw [h.1] at hc;simp at hc;subst hc;exact h.2 }
def Rp.cells (k:Nat):Rp (List Value):={ k:=k,rel:=fun _ cs c=>cs=c∧c.length=k∧∀ v∈c,v.oneCell' =true,len:=fun h=>by rw [h.1];exact h.2.1,mono:=fun _ h=>h,one:=fun h c hc=>by rw [h.1] at hc;exact h.2.2 c hc }
theorem Arr.rows {α:Type} {T:Rp α} {h:Fr} {v:Value} {vs:List Value} {xss:List (List α)} (hv:Arr Rp.val h v vs) (ha:All2 (Arr T h) vs xss):Arr (Rp.slice T) h v xss:=by
 obtain ⟨css,h1,h2⟩:=hv;refine ⟨css,?_,by rw [← ha.length];exact h2⟩;clear h2
 induction css generalizing vs xss with
 |nil=>cases vs with
  |nil=>cases xss with
   |nil=>trivial
   |cons _ _=>exact ha.elim
  |cons _ _=>exact h1.elim
 |cons c css ih=>cases vs with
  |nil=>exact h1.elim
  |cons v vs=>cases xss with
   |nil=>exact ha.elim
   |cons x xss=>exact ⟨⟨v,h1.1.1,ha.1⟩,ih ha.2 h1.2⟩
theorem Arr.nil {α:Type} {T:Rp α} {h:Fr}:Arr T h (.slice none 0 0) ([]:List α):=⟨[],trivial,none,0,rfl,Nat.le_refl _,⟨by omega,fun _=>rfl⟩,by simp,fun j hj=>by simp at hj⟩
theorem Arr.nil_of {α:Type} {T:Rp α} {h:Fr} {m c:Nat} {xs:List α} (hk:0<T.k):Arr T h (.slice none m c) xs→xs=[]∧m=0∧c=0
 |⟨css,h1,a,c',h2,_,hc,h5,h6⟩=>by
  cases h2
  refine ⟨?_,?_,hc.2 rfl⟩
  rotate_left
  ·have:=hc.2 rfl;omega
  cases xs with
  |nil=>rfl
  |cons x xs =>
   have:0<css.flatten.length:=by rw [h5];exact Nat.mul_pos (by simp) hk
   obtain ⟨p,hp,_⟩:=h6 0 this
   cases hp
end Go.Sp
end
section
/- Texts of this proof. -/
namespace Go.Sp
section
variable {ro:Option Nat} {P:Program} {σ σ' :List (Nat × Value)} {g:Gr} {η η' ζ:List SProp} {fn:Func} {n:Nat} {R:Ending→World→Prop} {k K:List Item} {D:List Deferred} {ops:Array Oper} {i d:Nat} {l:List Nat} {t e:TypeId} {x y:Operand} {todo:List Item}
theorem Does.loadAt {p:Addr} {cs:List Value} {v:Value} (ht:flat1 P t=true) (hx:ev σ x=some (.pointer (some p))) (hp:At g.h p cs) (hv:cs[0]?=some v):Does P (.load t x) σ g η v η :=
 .load ht hx (by have:=hp.at hv;rwa [Addr.add_zero] at this)
theorem DoesE.imp {op:Op} {A B:Value→List SProp→Prop} (h:DoesE P op σ g η A) (hab:∀ v η',A v η' →B v η'):DoesE P op σ g η B :=
 fun o ρ w h1 h2 h3=>let ⟨v,w',η',a,b,c⟩:=h o ρ w h1 h2 h3;⟨v,w',η',hab _ _ a,b,c⟩
theorem S.loopK {ι:Type} {c:Code} (φ:ι→Prop) (σs:ι→List (Nat × Value)) (keep:List (Nat × Value)) (ηs:ι→List SProp) (μ:ι→Nat) (x₀:ι) (h₀:φ x₀) (hσ:Sub (σs x₀) σ) (hk:Sub keep σ) (hη:η=ηs x₀)
  (round:∀ x,φ x→(∀ y,φ y→μ y<μ x→S ro P fn n R (.inLoop c::k) (σs y++keep) D g (ηs y))→S ro P fn n R (.code c::.inLoop c::k) (σs x++keep) D g (ηs x)) :
  S ro P fn n R (.code (.loop c)::k) σ D g η:=by
 refine S.loop φ (fun x=>σs x++keep) ηs μ x₀ h₀ ?_ hη round
 intro t v hv
 have:∀ (l:List (Nat × Value)),look (l++keep) t=some v→look l t=some v∨look keep t=some v:=by
  intro l
  induction l with
  |nil=>exact .inr
  |cons p l ih =>
   intro h
   obtain ⟨s,u⟩:=p;simp only [List.cons_append,look] at h ⊢
   split at h
   ·exact .inl h
   ·exact ih h
 rcases this _ hv with h|h
 ·exact hσ t v h
 ·exact hk t v h
theorem S.loopK2 {ι κ:Type} {c:Code} (φ:ι→κ→Prop) (σs:ι→κ→List (Nat × Value)) (keep:List (Nat × Value)) (ηs:ι→κ→List SProp) (μ:ι→κ→Nat) (x₀:ι) (y₀:κ) (h₀:φ x₀ y₀) (hσ:Sub (σs x₀ y₀) σ) (hk:Sub keep σ) (hη:η=ηs x₀ y₀)
  (round:∀ x y,φ x y→(∀ x' y',φ x' y' →μ x' y' <μ x y→S ro P fn n R (.inLoop c::k) (σs x' y' ++keep) D g (ηs x' y'))→S ro P fn n R (.code c::.inLoop c::k) (σs x y++keep) D g (ηs x y)) :
  S ro P fn n R (.code (.loop c)::k) σ D g η :=
 S.loopK (ι:=ι × κ) (fun p=>φ p.1 p.2) (fun p=>σs p.1 p.2) keep (fun p=>ηs p.1 p.2) (fun p=>μ p.1 p.2) (x₀,y₀) h₀ hσ hk hη fun p hp ih=>round p.1 p.2 hp fun x' y' h1 h2=>ih (x',y') h1 h2
theorem S.loopK3 {ι κ υ:Type} {c:Code} (φ:ι→κ→υ→Prop) (σs:ι→κ→υ→List (Nat × Value)) (keep:List (Nat × Value)) (ηs:ι→κ→υ→List SProp) (μ:ι→κ→υ→Nat) (x₀:ι) (y₀:κ) (z₀:υ) (h₀:φ x₀ y₀ z₀) (hσ:Sub (σs x₀ y₀ z₀) σ) (hk:Sub keep σ) (hη:η=ηs x₀ y₀ z₀)
  (round:∀ x y z,φ x y z→(∀ x' y' z',φ x' y' z' →μ x' y' z' <μ x y z→S ro P fn n R (.inLoop c::k) (σs x' y' z' ++keep) D g (ηs x' y' z'))→S ro P fn n R (.code c::.inLoop c::k) (σs x y z++keep) D g (ηs x y z)) :
  S ro P fn n R (.code (.loop c)::k) σ D g η :=
 S.loopK (ι:=ι × κ × υ) (fun p=>φ p.1 p.2.1 p.2.2) (fun p=>σs p.1 p.2.1 p.2.2) keep (fun p=>ηs p.1 p.2.1 p.2.2) (fun p=>μ p.1 p.2.1 p.2.2) (x₀,y₀,z₀) h₀ hσ hk hη fun p hp ih=>round p.1 p.2.1 p.2.2 hp fun x' y' z' h1 h2=>ih (x',y',z') h1 h2
theorem S.loopK4 {ι κ υ τ:Type} {c:Code} (φ:ι→κ→υ→τ→Prop) (σs:ι→κ→υ→τ→List (Nat × Value)) (keep:List (Nat × Value)) (ηs:ι→κ→υ→τ→List SProp) (μ:ι→κ→υ→τ→Nat) (x₀:ι) (y₀:κ) (z₀:υ) (u₀:τ) (h₀:φ x₀ y₀ z₀ u₀) (hσ:Sub (σs x₀ y₀ z₀ u₀) σ) (hk:Sub keep σ) (hη:η=ηs x₀ y₀ z₀ u₀)
  (round:∀ x y z u,φ x y z u→(∀ x' y' z' u',φ x' y' z' u' →μ x' y' z' u' <μ x y z u→S ro P fn n R (.inLoop c::k) (σs x' y' z' u' ++keep) D g (ηs x' y' z' u'))→S ro P fn n R (.code c::.inLoop c::k) (σs x y z u++keep) D g (ηs x y z u)) :
  S ro P fn n R (.code (.loop c)::k) σ D g η :=
 S.loopK (ι:=ι × κ × υ × τ) (fun p=>φ p.1 p.2.1 p.2.2.1 p.2.2.2) (fun p=>σs p.1 p.2.1 p.2.2.1 p.2.2.2) keep (fun p=>ηs p.1 p.2.1 p.2.2.1 p.2.2.2) (fun p=>μ p.1 p.2.1 p.2.2.1 p.2.2.2) (x₀,y₀,z₀,u₀) h₀ hσ hk hη
  fun p hp ih=>round p.1 p.2.1 p.2.2.1 p.2.2.2 hp fun x' y' z' u' h1 h2=>ih (x',y',z',u') h1 h2
theorem Sub.consE {v v' :Value} {s:Nat} {τ:List (Nat × Value)} (h:look σ s=some v) (e:v=v') (hs:Sub τ σ):Sub ((s,v')::τ) σ:=by subst e;exact Sub.cons h hs
theorem S.slot {v v' :Value} (s:Nat) (hl:look σ s=some v) (e:v=v') (h:S ro P fn n R todo ((s,v')::σ) D g η):S ro P fn n R todo σ D g η:=S.weaken (Sub.consE hl e Sub.refl) h
theorem O.slot {v v' :Value} {L:List Nat} (s:Nat) (hl:look σ s=some v) (e:v=v') (h:O ro P fn n R ops L k ((s,v')::σ) D g η):O ro P fn n R ops L k σ D g η:=O.weaken (Sub.consE hl e Sub.refl) h
theorem O.call0 {f:FuncId} {xs:Array Operand} {ts:Array TypeId} {vals:List Value} {K' :Value→List SProp→Prop} {first cap:Array Value} (ho:Fires ops i n σ d (.call ⟨.value x,xs,ts⟩)) (hx:ev σ x=some (.func (.func f) first cap)) (hc:callable P f=true)
  (hv:evs σ xs.toList=some vals) {args:Array Value} (hargs:first++vals.toArray++cap=args) (con:Con P f args g.h [] (Ret K'))
  (h:∀ v η',K' v η' →O ro P fn n R ops l k ((d,v)::σ) D g (η' ++η)):O ro P fn n R ops (i::l) k σ D g η:=O.call (η:=[]) (ζ:=η) ho hx hc hv hargs con h
theorem ODg.call0 {f:FuncId} {xs:Array Operand} {ts:Array TypeId} {vals:List Value} {K' :Value→List SProp→Prop} {first cap:Array Value} (ho:Fires ops i n σ d (.call ⟨.value x,xs,ts⟩)) {fl:Bool} (hd:hdOk fl ops i l=true) (hx:ev σ x=some (.func (.func f) first cap)) (hc:callable P f=true)
  (hv:evs σ xs.toList=some vals) {args:Array Value} (hargs:first++vals.toArray++cap=args) (con:Con P f args g.h [] (Ret K'))
  (h:∀ v η',K' v η' →OD P fn n R ops k D g l ((d,v)::σ) (η' ++η)):ODx P fn n R ops k D g fl (i::l) σ η:=ODg.call (η:=[]) (ζ:=η) ho hd hx hc hv hargs con h
theorem OD.call0 {f:FuncId} {xs:Array Operand} {ts:Array TypeId} {vals:List Value} {K' :Value→List SProp→Prop} {first cap:Array Value} (ho:Fires ops i n σ d (.call ⟨.value x,xs,ts⟩)) (hd:descOk ops [i] l=true) (hx:ev σ x=some (.func (.func f) first cap)) (hc:callable P f=true) (hv:evs σ xs.toList=some vals) {args:Array Value} (hargs:first++vals.toArray++cap=args) (con:Con P f args g.h [] (Ret K')) (h:∀ v η',K' v η' →OD P fn n R ops k D g l ((d,v)::σ) (η' ++η)):OD P fn n R ops k D g (i::l) σ η:=ODg.call0 (fl:=false) ho (by simpa [hdOk] using hd) hx hc hv hargs con h
theorem ODt.call0 {f:FuncId} {xs:Array Operand} {ts:Array TypeId} {vals:List Value} {K' :Value→List SProp→Prop} {first cap:Array Value} (ho:Fires ops i n σ d (.call ⟨.value x,xs,ts⟩)) (_:true=true) (hx:ev σ x=some (.func (.func f) first cap)) (hc:callable P f=true) (hv:evs σ xs.toList=some vals) {args:Array Value} (hargs:first++vals.toArray++cap=args) (con:Con P f args g.h [] (Ret K')) (h:∀ v η',K' v η' →OD P fn n R ops k D g l ((d,v)::σ) (η' ++η)):ODx P fn n R ops k D g true (i::l) σ η:=ODg.call0 (fl:=true) ho rfl hx hc hv hargs con h
inductive Sels:List SProp→List SProp→List SProp→Prop
 |nil {η:List SProp}:Sels η [] η
 |cons {η ζ θ:List SProp} {A:SProp} {bs:List SProp}:Sel η A ζ→Sels ζ bs θ→Sels η (A::bs) θ
theorem Sels.perm {η bs θ:List SProp} (s:Sels η bs θ):η.Perm (bs++θ):=by
 induction s with
 |nil=>exact .refl _
 |cons s _ ih=>exact s.perm.trans (.cons _ ih)
theorem Con.lent {f:FuncId} {args:Array Value} {h:Fr} {bs:List SProp} {Post:Ending→List SProp→Prop} (con:∀ m:Fr,Sat bs m→h.disj m→Con P f args (h.add m) [] Post) :
  Con P f args h bs fun e η' =>∃ η₁,Post e η₁∧η' =η₁++bs:=fun g hg w hw=>by
 obtain ⟨m,hm,hd,hw'⟩:=Holds.freezeAll (η:=[]) (ζ:=bs) hw;have hd' :h.disj m:=Fr.disj_sub hd hg (Fr.sub_refl _);refine (con m hm hd' (g.add m) (Fr.add_sub (Fr.sub_trans hg (Fr.sub_add_left _ _)) (Fr.sub_add_right hd)) w hw').mono fun e w' ⟨η',x,y⟩=>⟨η' ++bs,⟨η',x,rfl⟩,y.thawAll hm hd⟩
theorem O.callB {f:FuncId} {xs:Array Operand} {ts:Array TypeId} {vals:List Value} {K' :Value→List SProp→Prop} {first cap:Array Value} (ho:Fires ops i n σ d (.call ⟨.value x,xs,ts⟩)) (hx:ev σ x=some (.func (.func f) first cap)) (hc:callable P f=true)
  (hv:evs σ xs.toList=some vals) {args:Array Value} (hargs:first++vals.toArray++cap=args) {bs:List SProp} (hb:Sels η bs ζ) (con:∀ m:Fr,Sat bs m→g.h.disj m→Con P f args (g.h.add m) [] (Ret K'))
  (h:∀ v η',K' v η' →O ro P fn n R ops l k ((d,v)::σ) D g (η' ++(bs++ζ))):O ro P fn n R ops (i::l) k σ D g η:=by
 have hcon:Con P f args g.h bs (Ret fun v η' =>∃ η₁,K' v η₁∧η' =η₁++bs):=(Con.lent con).mono fun e η' ⟨η₁,a,b⟩=>by
  cases e with
  |returned v=>exact ⟨η₁,a,b⟩
  |panicked _=>exact a.elim
  |outgrown=>exact a.elim
 have:=O.call (ζ:=ζ) ho hx hc hv hargs hcon (R:=R) (l:=l) (k:=k) (D:=D) (fn:=fn) fun v η' ⟨η₁,a,b⟩=>by
  subst b;rw [List.append_assoc];exact h v η₁ a
 exact fun a w hf hd hw=>this a w hf hd (hw.perm hb.perm)
theorem ODx.perm {fl:Bool} {L:List Nat} (p:η.Perm η') (h:ODx P fn n R ops k D g fl L σ η'):ODx P fn n R ops k D g fl L σ η:=by
 induction h generalizing η with
 |nil h=>exact .nil (S.perm p h)
 |quiet ho hna hdo h ih=>exact .quiet ho hna hdo (ih p)
 |no ho hna hl hvb h ih=>exact .no ho hna hl hvb (ih p)
 |lazy ho hd hz h ih=>exact .lazy ho hd hz fun b=>ih b (p.cons _)
 |@callT i d l σ η₁ ζ₁ f x xs ts vals K' X' first cap args ho hx hc hv hargs con hp h ih =>
  have con' :Con P f args g.h η (RetP (fun v η' =>∃ η₂,K' v η₂∧η' =η₂++ζ₁) (fun ch η' =>∃ η₂,X' ch η₂∧η' =η₂++ζ₁)):=fun g' hg w hw=>((con.frame (ζ:=ζ₁)) g' hg w (hw.perm p)).mono fun e w' ⟨η',a,b⟩=>⟨η',by
   cases e with
   |returned v=>exact a
   |panicked _=>exact a
   |outgrown=>obtain ⟨_,h1,_⟩:=a;exact h1.elim,b⟩
  have:=ODx.callT (η:=η) (ζ:=[]) (l:=l) ho hx hc hv hargs con' (fun a ch η' w ⟨η₂,h1,h2⟩ hw=>hp a ch η₂ w h1 (by subst h2;simpa using hw)) fun v η' ⟨η₂,h1,h2⟩=>ih v η₂ h1 (η:=η' ++[]) (by subst h2;simp)
  simpa using this
 |@loudE i d op l σ η₀ K' ho hna hdo h ih =>
  exact .loudE ho hna (K:=K') (fun ζ o ρ w h1 h2 h3=>hdo ζ o ρ w h1 h2 (h3.perm (p.append_right _))) fun v η' a=>ih v η' a (.refl _)
 |loudU ho hna hdo h ih =>
  exact .loudU ho hna (fun ζ o ρ w h1 h2 h3=>hdo ζ o ρ w h1 h2 (h3.perm (p.append_right _))) (ih (.refl _))
 |lastU ho hna hl hdo h=>exact .lastU ho hna hl (fun o ρ w h1 h2 h3=>hdo o ρ w h1 h2 (h3.perm p)) h
 |one hd h ih=>exact .one hd (ih p)
 |swap l' hp h ih=>exact .swap l' hp (ih p)
 |alt cands hok h ih=>exact .alt cands hok fun i hi=>ih i hi p
theorem OD.perm {L:List Nat} (p:η.Perm η') (h:OD P fn n R ops k D g L σ η'):OD P fn n R ops k D g L σ η:=ODx.perm p h
theorem ODg.callB {f:FuncId} {xs:Array Operand} {ts:Array TypeId} {vals:List Value} {K' :Value→List SProp→Prop} {first cap:Array Value} (ho:Fires ops i n σ d (.call ⟨.value x,xs,ts⟩)) {fl:Bool} (hd:hdOk fl ops i l=true) (hx:ev σ x=some (.func (.func f) first cap)) (hc:callable P f=true)
  (hv:evs σ xs.toList=some vals) {args:Array Value} (hargs:first++vals.toArray++cap=args) {bs:List SProp} (hb:Sels η bs ζ) (con:∀ m:Fr,Sat bs m→g.h.disj m→Con P f args (g.h.add m) [] (Ret K'))
  (h:∀ v η',K' v η' →OD P fn n R ops k D g l ((d,v)::σ) (η' ++(bs++ζ))):ODx P fn n R ops k D g fl (i::l) σ η:=by
 have hcon:Con P f args g.h bs (Ret fun v η' =>∃ η₁,K' v η₁∧η' =η₁++bs):=(Con.lent con).mono fun e η' ⟨η₁,a,b⟩=>by
  cases e with
  |returned v=>exact ⟨η₁,a,b⟩
  |panicked _=>exact a.elim
  |outgrown=>exact a.elim
 exact ODx.perm hb.perm (ODg.call (ζ:=ζ) ho hd hx hc hv hargs hcon fun v η' ⟨η₁,a,b⟩=>by
  subst b;rw [List.append_assoc];exact h v η₁ a)
theorem OD.callB {f:FuncId} {xs:Array Operand} {ts:Array TypeId} {vals:List Value} {K' :Value→List SProp→Prop} {first cap:Array Value} (ho:Fires ops i n σ d (.call ⟨.value x,xs,ts⟩)) (hd:descOk ops [i] l=true) (hx:ev σ x=some (.func (.func f) first cap)) (hc:callable P f=true) (hv:evs σ xs.toList=some vals) {args:Array Value} (hargs:first++vals.toArray++cap=args) {bs:List SProp} (hb:Sels η bs ζ) (con:∀ m:Fr,Sat bs m→g.h.disj m→Con P f args (g.h.add m) [] (Ret K')) (h:∀ v η',K' v η' →OD P fn n R ops k D g l ((d,v)::σ) (η' ++(bs++ζ))):OD P fn n R ops k D g (i::l) σ η:=ODg.callB (fl:=false) ho (by simpa [hdOk] using hd) hx hc hv hargs hb con h
theorem ODt.callB {f:FuncId} {xs:Array Operand} {ts:Array TypeId} {vals:List Value} {K' :Value→List SProp→Prop} {first cap:Array Value} (ho:Fires ops i n σ d (.call ⟨.value x,xs,ts⟩)) (_:true=true) (hx:ev σ x=some (.func (.func f) first cap)) (hc:callable P f=true) (hv:evs σ xs.toList=some vals) {args:Array Value} (hargs:first++vals.toArray++cap=args) {bs:List SProp} (hb:Sels η bs ζ) (con:∀ m:Fr,Sat bs m→g.h.disj m→Con P f args (g.h.add m) [] (Ret K')) (h:∀ v η',K' v η' →OD P fn n R ops k D g l ((d,v)::σ) (η' ++(bs++ζ))):ODx P fn n R ops k D g true (i::l) σ η:=ODg.callB (fl:=true) ho rfl hx hc hv hargs hb con h
theorem O.callS {f:FuncId} {xs:Array Operand} {ts:Array TypeId} {vals:List Value} {K' :Value→List SProp→Prop} {first cap:Array Value} {A:SProp} (ho:Fires ops i n σ d (.call ⟨.value x,xs,ts⟩)) (hx:ev σ x=some (.func (.func f) first cap)) (hc:callable P f=true)
  (hv:evs σ xs.toList=some vals) {args:Array Value} (hargs:first++vals.toArray++cap=args) (hs:Sel η A ζ) (con:Con P f args g.h [A] (Ret K'))
  (h:∀ v η',K' v η' →O ro P fn n R ops l k ((d,v)::σ) D g (η' ++ζ)):O ro P fn n R ops (i::l) k σ D g η :=
 fun a w hf hd hw=>O.call (η:=[A]) (ζ:=ζ) ho hx hc hv hargs con h a w hf hd (hw.sel hs)
theorem ODg.callS {f:FuncId} {xs:Array Operand} {ts:Array TypeId} {vals:List Value} {K' :Value→List SProp→Prop} {first cap:Array Value} {A:SProp} (ho:Fires ops i n σ d (.call ⟨.value x,xs,ts⟩)) {fl:Bool} (hd:hdOk fl ops i l=true) (hx:ev σ x=some (.func (.func f) first cap)) (hc:callable P f=true)
  (hv:evs σ xs.toList=some vals) {args:Array Value} (hargs:first++vals.toArray++cap=args) (hs:Sel η A ζ) (con:Con P f args g.h [A] (Ret K'))
  (h:∀ v η',K' v η' →OD P fn n R ops k D g l ((d,v)::σ) (η' ++ζ)):ODx P fn n R ops k D g fl (i::l) σ η :=
 ODx.perm hs.perm (ODg.call (η:=[A]) (ζ:=ζ) ho hd hx hc hv hargs con h)
theorem OD.callS {f:FuncId} {xs:Array Operand} {ts:Array TypeId} {vals:List Value} {K' :Value→List SProp→Prop} {first cap:Array Value} {A:SProp} (ho:Fires ops i n σ d (.call ⟨.value x,xs,ts⟩)) (hd:descOk ops [i] l=true) (hx:ev σ x=some (.func (.func f) first cap)) (hc:callable P f=true) (hv:evs σ xs.toList=some vals) {args:Array Value} (hargs:first++vals.toArray++cap=args) (hs:Sel η A ζ) (con:Con P f args g.h [A] (Ret K')) (h:∀ v η',K' v η' →OD P fn n R ops k D g l ((d,v)::σ) (η' ++ζ)):OD P fn n R ops k D g (i::l) σ η:=ODg.callS (fl:=false) ho (by simpa [hdOk] using hd) hx hc hv hargs hs con h
theorem ODt.callS {f:FuncId} {xs:Array Operand} {ts:Array TypeId} {vals:List Value} {K' :Value→List SProp→Prop} {first cap:Array Value} {A:SProp} (ho:Fires ops i n σ d (.call ⟨.value x,xs,ts⟩)) (_:true=true) (hx:ev σ x=some (.func (.func f) first cap)) (hc:callable P f=true) (hv:evs σ xs.toList=some vals) {args:Array Value} (hargs:first++vals.toArray++cap=args) (hs:Sel η A ζ) (con:Con P f args g.h [A] (Ret K')) (h:∀ v η',K' v η' →OD P fn n R ops k D g l ((d,v)::σ) (η' ++ζ)):ODx P fn n R ops k D g true (i::l) σ η:=ODg.callS (fl:=true) ho rfl hx hc hv hargs hs con h
theorem O.perm {L:List Nat} (p:η.Perm ζ) (h:O ro P fn n R ops L k σ D g ζ):O ro P fn n R ops L k σ D g η:=fun a w hf hd hw=>h a w hf hd (hw.perm p)
theorem O.sel {L:List Nat} {A:SProp} (s:Sel η A ζ) (h:O ro P fn n R ops L k σ D g (A::ζ)):O ro P fn n R ops L k σ D g η:=fun a w hf hd hw=>h a w hf hd (hw.sel s)
theorem O.imp {L:List Nat} (hs:∀ m,Sat η m→Sat η' m) (h:O ro P fn n R ops L k σ D g η'):O ro P fn n R ops L k σ D g η:=fun a w hf hd hw=>h a w hf hd (hw.imp hs)
theorem O.freeze {L:List Nat} {A:SProp} (h:∀ m:Fr,A m→g.h.disj m→O ro P fn n R ops L k σ D (g.add m) η):O ro P fn n R ops L k σ D g (A::η) :=
 fun a w hf hd hw=>by
  obtain ⟨m,hm,hdj,hw'⟩:=hw.freeze;exact h m hm hdj a w hf hd hw'
theorem O.panic {L:List Nat} {v:Value} {tt:TypeId} (ho:opAtU ops i=some (.panic x)) (hx:ev σ x=some (.iface tt v)) (h:∀ w,Holds w g η→R (.panicked [{ v:=.iface tt v,recovered:=false }]) w):O ro P fn n R ops (i::L) k σ [] g η:=by
 intro a w hf hd hw
 obtain ⟨o,hi,hdst,hop,hg⟩:=opAtU_spec ho;have hrun:(execOp a.eval o).run P w=.halt (.panic (.iface tt v)) w:=by
  simp [execOp,hop,hf.eval hx,Instr.panic]
 refine O.fire hi (by simp [Region.wanted,hg]) (by rw [hop];intro c hc;cases hc) hrun ?_;rw [Oper.uponIn_panic];exact Post.panic hd (h w hw)
theorem run_equal_pointer_nil (ht:P.underlying t=some (.pointer e)) (a:Option Addr) (w:World):(Op.equal t (.pointer a) (.pointer none)).run P w=.ok a.isNone w:=by
 show (Op.equalIn (9999+1) t (.pointer a) (.pointer none)).run P w=_
 rw [Op.equalIn]
 cases a<;>simp [run_underlying ht]
theorem Does.eqlP {u:TypeId} {a:Option Addr} (ht:P.underlying t=some (.pointer e)) (hx:ev σ x=some (.pointer a)) (hy:ev σ y=some (.pointer none)):Does P (.binOp .eql t x y u) σ g η (.bool a.isNone) η :=
 .run fun o ρ w ho hk=>by simp [execOp,ho,hk x _ hx,hk y _ hy,eqGuard,Go.binOp,run_equal_pointer_nil ht]
theorem Does.neqP {u:TypeId} {a:Option Addr} (ht:P.underlying t=some (.pointer e)) (hx:ev σ x=some (.pointer a)) (hy:ev σ y=some (.pointer none)):Does P (.binOp .neq t x y u) σ g η (.bool (!a.isNone)) η :=
 .run fun o ρ w ho hk=>by simp [execOp,ho,hk x _ hx,hk y _ hy,eqGuard,Go.binOp,run_equal_pointer_nil ht]
theorem Does.eqlNil {u:TypeId} {a:Option Addr} {m c:Nat} (ht:P.underlying t=some (.slice e)) (hx:ev σ x=some (.slice a m c)) (hy:ev σ y=some (.slice none 0 0)):Does P (.binOp .eql t x y u) σ g η (.bool a.isNone) η :=
 .run fun o ρ w ho hk=>by simp [execOp,ho,hk x _ hx,hk y _ hy,eqGuard,Go.binOp,run_equal_slice_nil w t e a m c ht]
def notIface:TypeDesc→Bool
 |.interface _=>false
 |_=>true
theorem Does.mkIface {v:Value} {dd:TypeDesc} (ht:P.underlying t=some dd) (hx:ev σ x=some v) (hn:notIface dd=true:=by rfl):Does P (.makeInterface t x) σ g η (.iface t v) η :=
 .run fun o ρ w ho hk=>by
  simp only [execOp,ho,hk x _ hx,Instr.makeInterface,Sem.run_bind,run_underlying ht,Result.andThen_ok]
  cases dd<;>first|(simp;done)|exact Bool.noConfusion hn
def placesOf (P:Program):List Field→Option (List (Nat × Nat))
 |[]=>some []
 |f::fs=>match (P.info? f.type).map (·.size),placesOf P fs with|some m,some ps=>some ((f.offset,m)::ps)|_,_=>none
theorem run_places:∀ (fs:List Field) (ps:List (Nat × Nat)),placesOf P fs=some ps→∀ w,(fs.mapM fun (f:Field)=>(do pure (f.offset,← sizeOf f.type):Sem (Nat × Nat))).run P w=.ok ps w
 |[],ps,h,w=>by cases h;simp
 |f::fs,ps,h,w=>by
  simp only [placesOf] at h
  split at h
  ·rename_i m qs hm hq
   cases h
   have ih:=run_places fs qs hq w;simp only [List.mapM_cons,Sem.run_bind,run_sizeOf hm,Result.andThen_ok,Sem.run_pure,ih]
  ·cases h
def evps (σ:List (Nat × Value)):List (Nat × Operand)→Option (List (Nat × Value))
 |[]=>some []
 |(j,x)::r=>match ev σ x,evps σ r with|some v,some vs=>some ((j,v)::vs)|_,_=>none
theorem evps_spec {ρ:Operand→Value} (hk:Knows σ ρ):∀ {xs:List (Nat × Operand)} {vs:List (Nat × Value)},evps σ xs=some vs→xs.map (fun p=>(p.1,ρ p.2))=vs
 |[],_,h=>by cases h;rfl
 |(j,x)::xs,vs,h=>by
  simp only [evps] at h
  split at h
  ·rename_i v us hv hus;cases h;simp [hk x v hv,evps_spec hk hus]
  ·cases h
def setAt:List Value→Nat→List Value→List Value
 |[],_,_=>[]
 |c::z,n+1,vs=>c::setAt z n vs
 |c::z,0,[]=>c::z
 |_::z,0,v::vs=>v::setAt z 0 vs
theorem setAt_eq:∀ (z:List Value) (n:Nat) (vs:List Value),n+vs.length≤z.length→setAt z n vs=z.take n++vs++z.drop (n+vs.length)
 |[],n,vs,h=>by simp at h;obtain ⟨rfl,rfl⟩:=h;rfl
 |c::z,n+1,vs,h=>by
  have:=setAt_eq z n vs (by simp at h;omega);simp only [setAt,this,List.take_succ_cons,List.cons_append];rw [show n+1+vs.length=(n+vs.length)+1 from by omega,List.drop_succ_cons]
 |c::z,0,[],h=>by simp [setAt]
 |c::z,0,v::vs,h=>by
  have:=setAt_eq z 0 vs (by simp at h;omega);simp only [setAt,this]
  simp
def fillL (ps:List (Nat × Nat)):List Value→List (Nat × List Value)→Option (List Value)
 |z,[]=>some z
 |z,(i,c)::r=>match ps[i]? with
  |some (off,m)=>match Nat.beq c.length m,Nat.ble (off+m) z.length with
   |true,true=>fillL ps (setAt z off c) r
   |_,_=>none
  |none=>none
def cellsL:List (Nat × Value)→List (Nat × List Value)
 |[]=>[]
 |(i,v)::r=>(i,v.cells.toList)::cellsL r
theorem fill_L {ps:List (Nat × Nat)}:∀ (vs:List (Nat × Value)) (z cs:List Value),fillL ps z (cellsL vs)=some cs→Instr.fill (ps[·]?) z.toArray vs=some cs.toArray
 |[],z,cs,h=>by cases h;rfl
 |(i,v)::vs,z,cs,h=>by
  simp only [cellsL,fillL] at h
  split at h
  ·rename_i off m hp
   split at h
   ·rename_i hb hl
    have hb:=Nat.eq_of_beq_eq_true hb;have hl:=Nat.le_of_ble_eq_true hl;have hs:v.cells.size=m:=by simpa using hb
    simp only [Instr.fill,hp];have h2:(decide (v.cells.size≠m) ||decide (off+v.cells.size>z.toArray.size))=false:=by simp;omega
    have hf:(v.cells.zipIdx.foldl (fun cs (x:Value × Nat)=>cs.setIfInBounds (off+x.2) x.1) z.toArray)=(setAt z off v.cells.toList).toArray:=by
     rw [← Array.foldl_toList,Array.toList_zipIdx,setAt_eq _ _ _ (by simpa [hs] using hl)];refine foldl_set v.cells.toList (z.take off) ((z.drop off).take m) (z.drop (off+v.cells.toList.length)) 0 off z.toArray ?_ ?_ ?_
     ·rw [hb,← List.drop_drop,List.append_assoc,List.take_append_drop,List.take_append_drop]
     ·simp [hs];omega
     ·simp;omega
    rw [if_neg (by rw [h2];exact Bool.false_ne_true)];refine (congrArg (fun c=>Instr.fill _ c _) hf).trans (fill_L vs _ cs h)
   ·cases h
  ·cases h
theorem Does.build {fs:Array Field} {z:Value} {zs:List Value} {ps:List (Nat × Nat)} {parts:Array (Nat × Operand)} {vs:List (Nat × Value)} {cs:List Value} (ht:P.underlying t=some (.struct fs)) (hz:zeroOf P t=some z) (hzs:z.cells.toList=zs) (hps:placesOf P fs.toList=some ps)
  (hp:evps σ parts.toList=some vs) (hf:fillL ps zs (cellsL vs)=some cs):Does P (.build t parts) σ g η (.agg cs.toArray) η :=
 .run fun o ρ w ho hk=>by
  subst hzs;have hm:(parts.map fun (p:Nat × Operand)=>(p.1,ρ p.2)).toList=vs:=by rw [Array.toList_map];exact evps_spec hk hp
  have hpl:(fs.mapM fun (f:Field)=>(do pure (f.offset,← sizeOf f.type):Sem (Nat × Nat))).run P w=.ok ps.toArray w:=by
   rw [Array.mapM_eq_mapM_toList,Sem.run_map,run_places _ _ hps];rfl
  have hf' :Instr.fill (fun j=>ps.toArray[j]?) z.cells (parts.map fun (p:Nat × Operand)=>(p.1,ρ p.2)).toList=some cs.toArray:=by
   have:=fill_L vs _ _ hf;rw [hm];rw [Array.toArray_toList] at this;rw [← this];congr 1;funext j;simp
  have hb:(Instr.build t (parts.map fun (p:Nat × Operand)=>(p.1,ρ p.2))).run P w=.ok (.agg cs.toArray) w:=by
   simp only [Instr.build,Sem.run_bind,run_zeroOf hz,Result.andThen_ok,run_underlying ht,hpl,hf']
   rfl
  have e1:(parts.map fun x=>match x with|(i,x)=>(i,ρ x))=parts.map fun (p:Nat × Operand)=>(p.1,ρ p.2):=rfl;simp only [execOp,ho,Sem.run_bind];rw [e1,hb];rfl
end
theorem zsn {η:List SProp}:Sels η [] η:=.nil
theorem zsc {η ζ θ:List SProp} {A:SProp} {bs:List SProp} (h:Sel η A ζ) (k:Sels ζ bs θ):Sels η (A::bs) θ:=.cons h k
end Go.Sp
end
