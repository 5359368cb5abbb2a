/- Texts of this proof, one behind the other. -/
import Derived.Test.YtodhbhanmdfdeaaGreatQSpRd
import Derived.Test.YtodhbhanmdfdeaaGreatQSpImg
section
/- Texts of this proof. -/
namespace Go.Sp
def dotsP:Nat→RS→List DotT × RS
 |0,s=>([],s)
 |n+1,s=>((dotsP n s).1++[((dotsP n s).2.num.1,(dotsP n s).2.num.2.num.1,())],(dotsP n s).2.num.2.num.2)
@[simp] theorem dotsP_length (n:Nat) (s:RS):(dotsP n s).1.length=n:=by induction n<;>simp [dotsP, *]
def dot64 (d:DotT):Prop:=InI64 d.1∧InI64 d.2.1
theorem dotsP_in (n:Nat) (s:RS):∀ d∈(dotsP n s).1,dot64 d:=by
 induction n with
 |zero=>intro d hd;simp [dotsP] at hd
 |succ n ih =>
  intro d hd
  simp only [dotsP,List.mem_append,List.mem_singleton] at hd
  rcases hd with hd|rfl
  ·exact ih d hd
  ·exact ⟨RS.num_in _,RS.num_in _⟩
theorem dotsP_len (n:Nat) (s:RS):(dotsP n s).2.rest.length≤s.rest.length:=by
 induction n with
 |zero=>exact Nat.le_refl _
 |succ n ih=>exact Nat.le_trans (RS.num_len _) (Nat.le_trans (RS.num_len _) ih)
theorem dotsP_be:∀ (l:List DotT) (t:List UInt8),(∀ d∈l,dot64 d)→dotsP l.length ⟨true,dotsB l++t⟩=(l,⟨true,t⟩):=by
 have key:∀ (k:Nat) (l:List DotT) (t:List UInt8),(∀ d∈l,dot64 d)→k≤l.length→dotsP k ⟨true,dotsB l++t⟩=(l.take k,⟨true,dotsB (l.drop k)++t⟩):=by
  intro k
  induction k with
  |zero=>intro l t _ _;simp [dotsP]
  |succ k ih =>
   intro l t hl hk
   have h1:=ih l t hl (by omega);have hd:l.drop k=l[k]::l.drop (k+1):=List.drop_eq_getElem_cons hk;have hq:=hl _ (List.getElem_mem (l:=l) (n:=k) (by omega));rw [dotsP,h1]
   simp only
   rw [hd,dotsB_cons,List.append_assoc,RS.num_be hq.1]
   simp only
   rw [List.append_assoc,RS.num_be hq.2,List.take_succ_eq_append_getElem hk]
 intro l t hl
 rw [key l.length l t hl (Nat.le_refl _)];simp
theorem dotsP_good {n:Nat} {s:RS} (h:(dotsP n s).2.good=true):s.good=true∧s.rest=dotsB (dotsP n s).1++(dotsP n s).2.rest:=by
 induction n with
 |zero=>exact ⟨h,by simp [dotsP]⟩
 |succ n ih =>
  obtain ⟨h1,_,e1⟩:=RS.num_good (s:=(dotsP n s).2.num.2) h;obtain ⟨h2,_,e2⟩:=RS.num_good (s:=(dotsP n s).2) h1;obtain ⟨h3,e3⟩:=ih h2;refine ⟨h3,?_⟩;rw [e3,e2,e1]
  simp [dotsP,dotsB_snoc]
structure RecQ where
 kind:UInt8
 key:List UInt8
 client:Int
 seq:Int
 dots:List DotT
 gone:UInt8
 value:List UInt8
 s:RS
def recQ (b:List UInt8):RecQ :=
 let k:=(RS.mk true b).byte
 let y:=k.2.bytes 64
 let c:=y.2.num
 let q:=c.2.num
 let n:=q.2.count 8
 let d:=dotsP n.1.toNat n.2
 let g:=d.2.byte
 let v:=g.2.bytes 1024
 ⟨k.1,y.1,c.1,q.1,d.1,g.1,v.1,v.2⟩
def RecQ.make (q:RecQ) (g:Bool) (sig:List UInt8):RecT:=(q.key,q.client,q.seq,q.dots,g,q.value,sig,())
theorem vec64 {l:List DotT} (h:vecOk l=true):∀ d∈l,dot64 d:=fun d hd=>by
 have:=dotOk_iff.1 ((vecOk_iff.1 h).1 d hd);exact ⟨⟨by omega,by omega⟩,⟨by omega,by omega⟩⟩
theorem recQ_text {x:RecT} (h:shaped x=true) (t:List UInt8):recQ (recText x++t)=⟨1,x.1,x.2.1,x.2.2.1,x.2.2.2.1,goneB x.2.2.2.2.1,x.2.2.2.2.2.1,⟨true,t⟩⟩:=by
 obtain ⟨h1,h2,h3,h4,h5,h6,h7⟩:=shaped_iff.1 h;have hd:=dotOk_iff.1 h3;simp only [rDot] at hd;have hl:=rises_len h4;have i1:InI64 x.2.1:=⟨by omega,by omega⟩;have i2:InI64 x.2.2.1:=⟨by omega,by omega⟩;have i3:InI64 (x.2.2.2.1.length:Int):=⟨by omega,by omega⟩;have e0:recText x++t=(1:UInt8)::(bytesOf x.1++(be x.2.1++(be x.2.2.1++(be x.2.2.2.1.length++(dotsB x.2.2.2.1++(goneB x.2.2.2.2.1::(bytesOf x.2.2.2.2.2.1++t))))))):=by
  simp [recText]
 unfold recQ;rw [e0];simp only [RS.byte_cons];rw [RS.bytes_of (by omega) (by omega)]
 simp only
 rw [RS.num_be i1]
 simp only
 rw [RS.num_be i2]
 simp only
 rw [RS.count_be i3 (by omega) (by omega)];simp only [Int.toNat_natCast];rw [dotsP_be _ _ (vec64 h4)];simp only [RS.byte_cons];rw [RS.bytes_of (by omega) (by omega)]
theorem recQ_good {b:List UInt8} (h:(recQ b).s.good=true) (hk:(recQ b).kind=1) (g:Bool) (hg:(recQ b).gone=goneB g) (sig:List UInt8):b=recText ((recQ b).make g sig)++(recQ b).s.rest:=by
 unfold recQ at h hk hg ⊢;simp only at h hk hg ⊢;generalize hK:(RS.mk true b).byte=k at *;generalize hY:k.2.bytes 64=y at *;generalize hC:y.2.num=c at *;generalize hQ:c.2.num=q at *;generalize hN:q.2.count 8=n at *;generalize hD:dotsP n.1.toNat n.2=d at *;generalize hG:d.2.byte=g2 at *;generalize hV:g2.2.bytes 1024=v at *;obtain ⟨a8,_,e8⟩:=RS.bytes_good (s:=g2.2) (most:=1024) (by rw [hV];exact h);rw [hV] at e8;obtain ⟨a7,e7⟩:=RS.byte_good (s:=d.2) (by rw [hG];exact a8);rw [hG] at e7;obtain ⟨a6,e6⟩:=dotsP_good (n:=n.1.toNat) (s:=n.2) (by rw [hD];exact a7);have l6:=dotsP_length n.1.toNat n.2;rw [hD] at e6 l6;obtain ⟨a5,b5,_,e5⟩:=RS.count_good (s:=q.2) (most:=8) (by rw [hN];exact a6);rw [hN] at e5 b5;obtain ⟨a4,_,e4⟩:=RS.num_good (s:=c.2) (by rw [hQ];exact a5);rw [hQ] at e4;obtain ⟨a3,_,e3⟩:=RS.num_good (s:=y.2) (by rw [hC];exact a4);rw [hC] at e3;obtain ⟨a2,_,e2⟩:=RS.bytes_good (s:=k.2) (most:=64) (by rw [hY];exact a3);rw [hY] at e2;obtain ⟨_,e1⟩:=RS.byte_good (s:=RS.mk true b) (by rw [hK];exact a2);rw [hK] at e1;have en:n.1=(d.1.length:Int):=by rw [l6];omega
 have e1:b=k.1::k.2.rest:=e1;rw [e1,e2,e3,e4,e5,e6,e7,e8,hk,hg,en]
 simp [RecQ.make,recText]
noncomputable def recGet (b:List UInt8):Option RecT:=by
 classical exact if h:∃ x,recOk x=true∧recB x=b then some h.choose else none
theorem recGet_iff' {b:List UInt8} {x:RecT} (h:recGet b=some x):recOk x=true∧recB x=b:=by
 unfold recGet at h
 split at h
 ·rename_i c;cases h;exact c.choose_spec
 ·cases h
def recHd (b:List UInt8):RecQ:=recQ (b.take (b.length - 64))
def recIn (b:List UInt8):RecT:=(recHd b).make (decide ((recHd b).gone≠0)) (b.drop (b.length - 64))
theorem goneB_ne (g:Bool):decide (goneB g≠0)=g:=by cases g<;>rfl
theorem recIn_ok {x:RecT} (h:recOk x=true):recIn (recB x)=x∧(recHd (recB x)).s=⟨true,[]⟩∧64≤(recB x).length:=by
 obtain ⟨h1,h2⟩:=recOk_iff.1 h;have e1:(recB x).length - 64=(recText x).length:=by unfold recB;rw [List.length_append,h2];omega
 have e2:(recB x).take ((recB x).length - 64)=recText x:=by rw [e1];unfold recB;rw [List.take_append_of_le_length (Nat.le_refl _),List.take_length]
 have e3:(recB x).drop ((recB x).length - 64)=x.2.2.2.2.2.2.1:=by rw [e1];unfold recB;rw [List.drop_append_of_le_length (Nat.le_refl _),List.drop_length,List.nil_append]
 have e4:=recQ_text h1 [];rw [List.append_nil] at e4;refine ⟨?_,?_,?_⟩
 ·unfold recIn recHd
  rw [e2,e3,e4];simp only [RecQ.make,goneB_ne]
 ·unfold recHd;rw [e2,e4]
 ·unfold recB;rw [List.length_append,h2];omega
theorem recB_inj {x y:RecT} (hx:recOk x=true) (hy:recOk y=true) (h:recB x=recB y):x=y:=by
 rw [← (recIn_ok hx).1,h,(recIn_ok hy).1]
theorem recGet_some {x:RecT} (h:recOk x=true):recGet (recB x)=some x:=by
 cases e:recGet (recB x) with
 |some y=>obtain ⟨h1,h2⟩:=recGet_iff' e;rw [recB_inj h1 h h2]
 |none =>
  unfold recGet at e
  split at e
  ·cases e
  ·rename_i c;exact absurd ⟨x,h,rfl⟩ c
theorem recGet_iff {b:List UInt8} {x:RecT}:recGet b=some x↔recOk x=true∧recB x=b :=
 ⟨recGet_iff',fun ⟨h1,h2⟩=>by rw [← h2];exact recGet_some h1⟩
theorem recGet_none {b:List UInt8} (h:∀ x,recOk x=true→recB x≠b):recGet b=none:=by
 cases e:recGet b with
 |none=>rfl
 |some x=>exact absurd (recGet_iff' e).2 (h x (recGet_iff' e).1)
theorem recGet_short {b:List UInt8} (h:b.length<64):recGet b=none :=
 recGet_none fun x hx e=>by have:=(recIn_ok hx).2.2;rw [e] at this;omega
theorem recGet_yes {b:List UInt8} (h2:recOk (recIn b)=true) (h3:recB (recIn b)=b):recGet b=some (recIn b):=recGet_iff.2 ⟨h2,h3⟩
theorem recGet_no {b:List UInt8} (h:¬((recHd b).s.done=true∧recOk (recIn b)=true∧recB (recIn b)=b)):recGet b=none :=
 recGet_none fun x hx e=>h (by subst e;obtain ⟨h1,h2,_⟩:=recIn_ok hx;rw [h1,h2];exact ⟨rfl,hx,rfl⟩)
def recQ2 (b:List UInt8):List UInt8 × RS:=byteP 64 (recQ b).s
def recIn2 (b:List UInt8):RecT:=(recQ b).make (decide ((recQ b).gone=1)) (recQ2 b).1
theorem goneB_eq (g:Bool):decide (goneB g=1)=g:=by cases g<;>rfl
theorem goneB_le {c:UInt8} (h:¬ 1<c.toNat):c=goneB (decide (c=1)):=by
 have:c.toNat=0∨c.toNat=1:=by omega
 rcases this with q|q
 ·have:c=0:=UInt8.toNat.inj q
  subst this;rfl
 ·have:c=1:=UInt8.toNat.inj q
  subst this;rfl
theorem recIn2_ok {x:RecT} (h:recOk x=true):recIn2 (recB x)=x∧(recQ2 (recB x)).2=⟨true,[]⟩∧(recQ (recB x)).kind=1∧(recQ (recB x)).gone.toNat≤1:=by
 obtain ⟨h1,h2⟩:=recOk_iff.1 h;have e4:recQ (recB x)=_:=recQ_text h1 x.2.2.2.2.2.2.1;have e5:=byteP_app x.2.2.2.2.2.2.1 [];rw [h2,List.append_nil] at e5;have e6:recQ2 (recB x)=(x.2.2.2.2.2.2.1,⟨true,[]⟩):=by unfold recQ2;rw [e4];exact e5
 refine ⟨?_,by rw [e6],by rw [e4],by rw [e4];show (goneB _).toNat≤1;cases x.2.2.2.2.1<;>decide⟩;unfold recIn2;rw [e6,e4];simp only [RecQ.make,goneB_eq]
theorem recGet_yes2 {b:List UInt8} (h0:(recQ2 b).2.done=true) (h1:(recQ b).kind=1) (h2:¬ 1<(recQ b).gone.toNat) (h3:recOk (recIn2 b)=true):recGet b=some (recIn2 b):=by
 refine recGet_iff.2 ⟨h3,?_⟩;obtain ⟨g1,g2⟩:=RS.done_iff.1 h0;obtain ⟨g3,e1⟩:=byteP_good (n:=64) (s:=(recQ b).s) g1;have e2:=recQ_good g3 h1 _ (goneB_le h2) (recQ2 b).1;rw [e1] at e2;have e3:(byteP 64 (recQ b).s).2.rest=[]:=g2;rw [e3,List.append_nil] at e2;exact e2.symm
theorem recGet_no2 {b:List UInt8} (h:¬((recQ2 b).2.done=true∧(recQ b).kind=1∧¬ 1<(recQ b).gone.toNat∧recOk (recIn2 b)=true)):recGet b=none :=
 recGet_none fun x hx e=>h (by subst e;obtain ⟨h1,h2,h3,h4⟩:=recIn2_ok hx;rw [h1,h2];exact ⟨rfl,h3,by omega,hx⟩)
noncomputable def setP (most:Int):Nat→RS→Option (List RecT × RS)
 |0,s=>some ([],s)
 |n+1,s=>(setP most n s).bind fun p=>(recGet (p.2.bytes most).1).map fun x=>(p.1++[x],(p.2.bytes most).2)
theorem setP_sound {most:Int}:∀ {n:Nat} {s:RS} {p:List RecT × RS},setP most n s=some p→p.2.good=true→s.good=true∧p.1.length=n∧s.rest=sRows p.1++p.2.rest
 |0,s,p,h,hg=>by cases h;exact ⟨hg,rfl,rfl⟩
 |n+1,s,p,h,hg=>by
  obtain ⟨q,hq,h⟩:=Option.bind_eq_some_iff.1 h;obtain ⟨x,hx,rfl⟩:=Option.map_eq_some_iff.1 h;obtain ⟨g1,_,e1⟩:=RS.bytes_good hg;obtain ⟨g2,l2,e2⟩:=setP_sound hq g1;refine ⟨g2,by simp [l2],?_⟩;rw [e2,e1,← (recGet_iff.1 hx).2,sRows_snoc,List.append_assoc]
theorem setP_bad {most:Int} {n:Nat} {s:RS} {p:List RecT × RS} (h:setP most n s=some p):(∀ x∈p.1,recOk x=true)∧p.1.length=n:=by
 induction n generalizing p with
 |zero=>cases h;exact ⟨fun x hx=>(by cases hx),rfl⟩
 |succ n ih =>
  obtain ⟨q,hq,h⟩:=Option.bind_eq_some_iff.1 h;obtain ⟨x,hx,rfl⟩:=Option.map_eq_some_iff.1 h;obtain ⟨i1,i2⟩:=ih hq;refine ⟨fun y hy=>?_,by simp [i2]⟩
  rcases List.mem_append.1 hy with hy|hy
  ·exact i1 y hy
  ·rw [List.mem_singleton.1 hy];exact (recGet_iff.1 hx).1
theorem sRows_cons (x:RecT) (l:List RecT):sRows (x::l)=bytesOf (recB x)++sRows l:=by simp [sRows]
theorem setP_rows {most:Int} (l:List RecT) (t:List UInt8) (hl:∀ x∈l,recOk x=true∧((recB x).length:Int)≤most):setP most l.length ⟨true,sRows l++t⟩=some (l,⟨true,t⟩):=by
 have key:∀ k,k≤l.length→setP most k ⟨true,sRows l++t⟩=some (l.take k,⟨true,sRows (l.drop k)++t⟩):=by
  intro k
  induction k with
  |zero=>intro _;simp [setP]
  |succ k ih =>
   intro hk
   obtain ⟨h1,h2⟩:=hl _ (List.getElem_mem (l:=l) (n:=k) (by omega));have h3:=recB_le h1;have hd:l.drop k=l[k]::l.drop (k+1):=List.drop_eq_getElem_cons hk;have hb:=RS.bytes_of (xs:=recB l[k]) (most:=most) h2 (by omega) (sRows (l.drop (k+1))++t);have e:sRows (l.drop k)++t=bytesOf (recB l[k])++(sRows (l.drop (k+1))++t):=by rw [hd,sRows_cons,List.append_assoc]
   rw [setP,ih (by omega),Option.bind_some,e]
   simp only
   rw [hb]
   simp only
   rw [recGet_some h1,Option.map_some,List.take_succ_eq_append_getElem (by omega)]
 rw [key _ (Nat.le_refl _)];simp [sRows]
noncomputable def sGet (b:List UInt8):Option (List RecT) :=
 let c:=(RS.mk true b).count ((b.length / 8:Nat):Int)
 (setP b.length c.1.toNat c.2).bind fun p=>if p.2.done=true∧SRight p.1 then some p.1 else none
theorem sRows_min (l:List RecT):8*l.length≤(sRows l).length:=by
 induction l with
 |nil=>simp [sRows]
 |cons x l ih=>simp only [sRows,List.map_cons,List.flatten_cons,List.length_append,bytesOf_length,List.length_cons] at ih ⊢;omega
theorem rec_in_rows {l:List RecT} {x:RecT} (h:x∈l):(recB x).length≤(sRows l).length:=by
 induction l with
 |nil=>cases h
 |cons y l ih =>
  simp only [sRows,List.map_cons,List.flatten_cons,List.length_append,bytesOf_length] at ih ⊢
  rcases List.mem_cons.1 h with rfl|h
  ·omega
  ·have:=ih h;omega
theorem sGet_iff {b:List UInt8} (hb:b.length≤9223372036854775807) {l:List RecT}:sGet b=some l↔SRight l∧sB l=b:=by
 unfold sGet
 simp only
 constructor
 ·intro h
  obtain ⟨p,hp,h⟩:=Option.bind_eq_some_iff.1 h
  split at h
  ·rename_i q
   cases h
   refine ⟨q.2,?_⟩;obtain ⟨g1,g2⟩:=RS.done_iff.1 q.1;obtain ⟨g3,l3,e3⟩:=setP_sound hp g1;obtain ⟨_,b4,_,e4⟩:=RS.count_good g3;rw [g2,List.append_nil] at e3;rw [e3] at e4;have e5:((RS.mk true b).count ((b.length / 8:Nat):Int)).1=(p.1.length:Int):=by rw [l3];omega
   rw [e5] at e4;exact e4.symm
  ·cases h
 ·rintro ⟨h1,rfl⟩
  have hlen:(sB l).length=8+(sRows l).length:=by simp [sB]
  have hmin:=sRows_min l;have e1:(RS.mk true (sB l)).count (((sB l).length / 8:Nat):Int)=((l.length:Int),⟨true,sRows l⟩):=RS.count_be ⟨by omega,by omega⟩ (by omega) (by omega) _;rw [e1];simp only [Int.toNat_natCast];have e2:=setP_rows (most:=((sB l).length:Int)) l [] fun x hx=>⟨oneK_all h1.1 x hx,by have:=rec_in_rows hx;omega⟩;rw [List.append_nil] at e2;rw [e2];simp only [Option.bind_some];rw [if_pos ⟨rfl,h1⟩]
end Go.Sp
end
section
/- Texts of this proof, one behind the other. -/
section
/- Texts of this proof, one behind the other. -/
section
/- Texts of this proof. -/
namespace Go.Sp
variable {K:Type} [DecidableEq K] {enc:K→Value}
abbrev KEnt (K:Type):=K × Value × Nat
def getK:List (KEnt K)→K→Option Value
 |[],_=>none
 |x::l,k=>if x.1=k then some x.2.1 else getK l k
def setK:List (KEnt K)→K→Value→List (KEnt K)
 |[],_,_=>[]
 |x::l,k,v=>if x.1=k then (k,v,x.2.2)::l else x::setK l k v
def putK (l:List (KEnt K)) (c:Nat) (k:K) (v:Value):List (KEnt K):=if (getK l k).isSome then setK l k v else l++[(k,v,c)]
section
variable {ro:Option Nat} {P:Program} {fn:Func} {n:Nat} {R:Ending→World→Prop} {k:List Item} {σ:List (Nat × Value)} {D:List Deferred} {g:Gr} {η ζ θ:List SProp} {ops:Array Oper} {i d:Nat} {ls:List Nat}
 {t tk te:TypeId} {x y z:Operand} {b c:Nat} {l:List (KEnt K)} {key:K} {w:World}
omit [DecidableEq K] in
omit [DecidableEq K] in
omit [DecidableEq K] in
omit [DecidableEq K] in
omit [DecidableEq K] in
omit [DecidableEq K] in
omit [DecidableEq K] in
omit [DecidableEq K] in
end
def enc2 (a:Int × Int):Value:=.agg #[.int .i64 a.1,.int .i64 a.2]
theorem run_part_int {P:Program} {ti:TypeId} (hi:P.underlying ti=some (.int .i64)) (cs:Array Value) (off:Nat) (v:Value) (hv:cs[off]?=some v) (w:World):(part ti cs off).run P w=.ok v w:=by
 simp [part,isAgg,run_underlying hi,hv]
theorem enc2_at (a:Int × Int):(#[Value.int .i64 a.1,.int .i64 a.2]:Array Value)[0]?=some (.int .i64 a.1)∧(#[Value.int .i64 a.1,.int .i64 a.2]:Array Value)[1]?=some (.int .i64 a.2):=⟨rfl,rfl⟩
omit [DecidableEq K] in
omit [DecidableEq K] in
section
variable {ro:Option Nat} {P:Program} {fn:Func} {n:Nat} {R:Ending→World→Prop} {k:List Item} {σ:List (Nat × Value)} {D:List Deferred} {g:Gr} {η ζ θ:List SProp} {ops:Array Oper} {i d:Nat} {ls:List Nat}
 {t tk te:TypeId} {x y z:Operand} {b c c' :Nat} {l:List (KEnt K)} {key:K} {w:World} {v zv:Value}
end
end Go.Sp
end
section
/- Texts of this proof. -/
namespace Go.Sp
theorem run_equalDot {P : Program} {t ti : TypeId} {f0 f1 : Field} (ht : P.underlying t = some (.struct #[f0, f1])) (hi : P.underlying ti = some (.int .i64)) (h0 : f0.type = ti) (h1 : f1.type = ti) (o0 : f0.offset = 0) (o1 : f1.offset = 1) (n0 : f0.name ≠ "_") (n1 : f1.name ≠ "_") (hh : P.stoodInHeld t = false)
  (a b:Int × Int) (w:World):(Op.equal t (enc2 a) (enc2 b)).run P w=.ok (decide (a=b)) w:=by
 have hpa0:=fun w=>run_part_int hi _ 0 _ (enc2_at a).1 w;have hpa1:=fun w=>run_part_int hi _ 1 _ (enc2_at a).2 w;have hpb0:=fun w=>run_part_int hi _ 0 _ (enc2_at b).1 w;have hpb1:=fun w=>run_part_int hi _ 1 _ (enc2_at b).2 w;have heq:∀ (x y:Int) (w:World),(Op.equalIn 9999 ti (.int .i64 x) (.int .i64 y)).run P w=.ok (x ==y) w:=fun x y w=>by
  show (Op.equalIn (9998+1) ti (.int .i64 x) (.int .i64 y)).run P w=_
  unfold Op.equalIn
  simp [run_underlying hi]
 show (Op.equalIn (9999+1) t (enc2 a) (enc2 b)).run P w=_
 unfold Op.equalIn enc2;simp only [Sem.run_bind,run_underlying ht,Result.andThen];obtain ⟨a1,a2⟩:=a;obtain ⟨b1,b2⟩:=b;simp only at hpa0 hpa1 hpb0 hpb1
 by_cases c1:a1=b1
 ·by_cases c2:a2=b2
  ·subst c1;subst c2
   simp [hh,h0,h1,o0,o1,n0,n1,hpa0,hpa1,heq]
  ·subst c1
   have:(a2 ==b2)=false:=by simpa using c2
   simp [hh,h0,h1,o0,o1,n0,n1,hpa0,hpa1,hpb0,hpb1,heq,c2]
 ·have:(a1 ==b1)=false:=by simpa using c1
  simp [hh,h0,h1,o0,o1,n0,n1,hpa0,hpb0,heq,c1]
section
variable {P:Program} {σ:List (Nat × Value)} {g:Gr} {η:List SProp} {t ti u:TypeId} {x y:Operand} {a b c d:Int} {f0 f1:Field}
theorem Does.eqlDot (ht : P.underlying t = some (.struct #[f0, f1])) (hi : P.underlying ti = some (.int .i64)) (h0 : f0.type = ti) (h1 : f1.type = ti) (o0 : f0.offset = 0) (o1 : f1.offset = 1) (n0 : f0.name ≠ "_") (n1 : f1.name ≠ "_") (hh : P.stoodInHeld t = false) (hgd : P.eqGuardType P.depth t = false)
  (hx:ev σ x=some (.agg #[.int .i64 a,.int .i64 b])) (hy:ev σ y=some (.agg #[.int .i64 c,.int .i64 d])):Does P (.binOp .eql t x y u) σ g η (.bool (decide ((a,b)=(c,d)))) η:=.run fun o ρ w ho hk=>by
 have h:=run_equalDot ht hi h0 h1 o0 o1 n0 n1 hh (a,b) (c,d) w;simp only [enc2] at h
 simp [execOp,ho,hk x _ hx,hk y _ hy,eqGuard,Go.binOp,h,hgd]
theorem Does.neqDot (ht : P.underlying t = some (.struct #[f0, f1])) (hi : P.underlying ti = some (.int .i64)) (h0 : f0.type = ti) (h1 : f1.type = ti) (o0 : f0.offset = 0) (o1 : f1.offset = 1) (n0 : f0.name ≠ "_") (n1 : f1.name ≠ "_") (hh : P.stoodInHeld t = false) (hgd : P.eqGuardType P.depth t = false)
  (hx:ev σ x=some (.agg #[.int .i64 a,.int .i64 b])) (hy:ev σ y=some (.agg #[.int .i64 c,.int .i64 d])):Does P (.binOp .neq t x y u) σ g η (.bool (decide ((a,b)≠(c,d)))) η:=.run fun o ρ w ho hk=>by
 have h:=run_equalDot ht hi h0 h1 o0 o1 n0 n1 hh (a,b) (c,d) w;simp only [enc2] at h
 simp [execOp,ho,hk x _ hx,hk y _ hy,eqGuard,Go.binOp,h,hgd]
end
theorem take_same {α:Type} {xs ys:List α} {i:Nat} (hi:i<xs.length) (hi2:i<ys.length) (h:xs.take i=ys.take i) (e:xs[i]=ys[i]):xs.take (i+1)=ys.take (i+1):=by
 rw [List.take_succ_eq_append_getElem hi,List.take_succ_eq_append_getElem hi2,h,e]
theorem not_same {α:Type} {xs ys:List α} {i:Nat} (hi:i<xs.length) (hi2:i<ys.length) (e:¬ xs[i]=ys[i]):¬ xs=ys:=fun h=>e (by subst h;rfl)
theorem str_eqL {a b:List UInt8} (h:(str a).toList=(str b).toList):a=b:=by simpa using h
set_option synthInstance.maxSize 2000
set_option synthInstance.maxHeartbeats 400000
instance decDot:DecidableEq DotT:=inferInstance
instance decRec:DecidableEq RecT:=inferInstance
instance decLeaf:DecidableEq LeafT:=inferInstance
instance decStub:DecidableEq StubT:=inferInstance
instance decNode:DecidableEq NodeT:=inferInstance
instance decPrf:DecidableEq PrfT:=inferInstance
instance decRoot:DecidableEq RootT:=inferInstance
instance decEvd:DecidableEq EvdT:=inferInstance
instance decHeld:DecidableEq HeldT:=inferInstance
end Go.Sp
end
end
section
/- Texts of this proof, one behind the other. -/
section
/- Texts of this proof. -/
namespace Go.Sp
theorem over_dot {x y:RecT} (h:over y x=true):cmpR x y≠0:=fun e=>by
 rw [cmpR_eq] at e;unfold over at h;simp only [Bool.and_eq_true] at h;have h1:=(shaped_iff.1 h.2.1).2.2.2.2.1;have h2:=h.2.2.2;rw [e,h1] at h2
 cases h2
theorem over_self (x:RecT):over x x=false:=by
 cases h:over x x with
 |false=>rfl
 |true=>exact absurd (cmpR_eq.2 rfl) (over_dot h)
theorem underR_eq (l:List RecT) (x:RecT):underR l x=l.any fun y=>over y x:=by
 unfold underR
 congr 1
 funext y
 cases h:over y x with
 |false=>simp
 |true=>simp [over_dot h]
theorem SRight_iff {l:List RecT}:SRight l↔oneK l=true∧∀ j (h:j<l.length),(∀ h0:0<j,cmpR l[j-1] l[j]<0)∧∀ k (hk:k<l.length),over l[j] l[k]=false:=by
 unfold SRight;refine and_congr_right fun _=>⟨fun q j h=>⟨(q j h).1,fun k hk=>?_⟩,fun q j h=>⟨(q j h).1,?_⟩⟩
 ·have h1:=(q k hk).2
  rw [underR_eq,List.any_eq_false] at h1
  simpa using h1 l[j] (List.getElem_mem h)
 ·rw [underR_eq,List.any_eq_false]
  intro y hy
  obtain ⟨i,hi,rfl⟩:=List.mem_iff_getElem.1 hy
  simp [(q i hi).2 j h]
theorem oneK_step {l:List RecT} {i:Nat} (h:i<l.length) (o:oneK (l.take i)=true):oneK (l.take (i+1))=true↔recOk l[i]=true∧l[i].1=(l[0]'(by omega)).1:=by
 rw [List.take_succ_eq_append_getElem h,oneK_snoc o];refine and_congr_right fun _=>⟨fun q=>?_,fun q h0=>?_⟩
 ·by_cases h0:i=0
  ·subst h0;rfl
  ·have:=q (by rw [List.length_take];omega)
   rw [List.getElem_take] at this;exact this
 ·rw [List.getElem_take];exact q
theorem oneK_none {l:List RecT} {i:Nat} (h:oneK (l.take i)=false):oneK l=false:=by
 cases e:oneK l with
 |false=>rfl
 |true=>rw [oneK_take i e] at h;cases h
theorem lt_step {n k:Nat} {P:∀ j,j<n→Prop} (h:∀ j (hj:j<n),j<k→P j hj) (hk:∀ hk:k<n,P k hk):∀ j (hj:j<n),j<k+1→P j hj:=fun j hj q=>by
 rcases Nat.lt_or_ge j k with q1|q1
 ·exact h j hj q1
 ·have:j=k:=by omega
  subst this;exact hk hj
end Go.Sp
end
section
/- Texts of this proof. -/
namespace Go.Sp
section
variable {ro:Option Nat} {P:Program} {fn:Func} {n:Nat} {R:Ending→World→Prop} {k:List Item} {σ:List (Nat × Value)} {D:List Deferred} {g:Gr} {η ζ:List SProp} {ops:Array Oper} {t e e' :TypeId} {x:Operand} {v:Value} {xs:List UInt8}
theorem Does.toE {op:Op} {η' :List SProp} {u:Value} (h:Does P op σ g η u η'):DoesE P op σ g η fun v η'' =>v=u∧η'' =η' :=
 fun o ρ w h1 h2 h3=>let ⟨w',a,b⟩:=h o ρ w h1 h2 h3;⟨u,w',η',⟨rfl,rfl⟩,a,b⟩
theorem DoesE.toStrO {t2:TypeId} (ht:P.underlying t=some (.slice e)) (he:P.underlying e=some (.int .u8)) (ht2:P.underlying t2=some .string) (hx:ev σ x=some v) :
  DoesE P (.convert t t2 x) σ g (OwnP Rp.u8 e' v xs::η) fun u η' =>∃ η₁,(u=.string (str xs)∧η₁=η)∧η' =OwnP Rp.u8 e' v xs::η₁ :=
 DoesE.borrow fun m hm hd=>Does.toE (Does.toStr (g:=g.add m) ht he ht2 hx (hm.arr.right hd))
theorem ODg.toStrO {fl:Bool} {i d:Nat} {t2:TypeId} {l:List Nat} (ho:Fires ops i n σ d (.convert t t2 x)) (hd:hdOk fl ops i l=true) (ht:P.underlying t=some (.slice e)) (he:P.underlying e=some (.int .u8)) (ht2:P.underlying t2=some .string) (hx:ev σ x=some v)
  (hs:Sel η (OwnP Rp.u8 e' v xs) ζ) (h:OD P fn n R ops k D g l ((d,.string (str xs))::σ) η):ODx P fn n R ops k D g fl (i::l) σ η :=
 ODx.perm hs.perm (ODg.loudE (η:=OwnP Rp.u8 e' v xs::ζ) (K:=fun u η' =>u=.string (str xs)∧η' =OwnP Rp.u8 e' v xs::ζ) ho rfl hd
  (fun θ=>(DoesE.toStrO (η:=ζ++θ) ht he ht2 hx).imp fun _ _ ⟨_,⟨a,b⟩,c⟩=>⟨_,⟨a,rfl⟩,by rw [c,b];rfl⟩) (by rintro _ _ ⟨rfl,rfl⟩;exact ODx.perm hs.perm.symm h))
theorem OD.toStrO {i d:Nat} {t2:TypeId} {l:List Nat} (ho:Fires ops i n σ d (.convert t t2 x)) (hd:descOk ops [i] l=true) (ht:P.underlying t=some (.slice e)) (he:P.underlying e=some (.int .u8)) (ht2:P.underlying t2=some .string) (hx:ev σ x=some v)
  (hs:Sel η (OwnP Rp.u8 e' v xs) ζ) (h:OD P fn n R ops k D g l ((d,.string (str xs))::σ) η):OD P fn n R ops k D g (i::l) σ η:=ODg.toStrO (fl:=false) ho (by simpa [hdOk] using hd) ht he ht2 hx hs h
theorem ODt.toStrO {i d:Nat} {t2:TypeId} {l:List Nat} (ho:Fires ops i n σ d (.convert t t2 x)) (_:true=true) (ht:P.underlying t=some (.slice e)) (he:P.underlying e=some (.int .u8)) (ht2:P.underlying t2=some .string) (hx:ev σ x=some v)
  (hs:Sel η (OwnP Rp.u8 e' v xs) ζ) (h:OD P fn n R ops k D g l ((d,.string (str xs))::σ) η):ODx P fn n R ops k D g true (i::l) σ η:=ODg.toStrO (fl:=true) ho rfl ht he ht2 hx hs h
theorem O.toStrO {i d:Nat} {t2:TypeId} {l:List Nat} (ho:Fires ops i n σ d (.convert t t2 x)) (ht:P.underlying t=some (.slice e)) (he:P.underlying e=some (.int .u8)) (ht2:P.underlying t2=some .string) (hx:ev σ x=some v)
  (hs:Sel η (OwnP Rp.u8 e' v xs) ζ) (h:O ro P fn n R ops l k ((d,.string (str xs))::σ) D g η):O ro P fn n R ops (i::l) k σ D g η :=
 O.sel hs (O.opE ho (DoesE.toStrO ht he ht2 hx) (by rintro _ _ ⟨_,⟨rfl,rfl⟩,rfl⟩;exact O.perm hs.perm.symm h))
end
end Go.Sp
end
end
end
