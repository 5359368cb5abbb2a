/- Texts of this proof, one behind the other. -/
import Derived.Test.YtodhbhanmdfdeaaGreatQSpRd
import Derived.Test.YtodhbhanmdfdeaaGreatQSpImg
section
/- Texts of this proof. -/
namespace Go.Sp
def dotsP:Nat→RS→List DotT × RS
 |0,s=>([],s)
 |n+1,s=>((dotsP n s).1++[((dotsP n s).2.num.1,(dotsP n s).2.num.2.num.1,())],(dotsP n s).2.num.2.num.2)
@[simp] theorem dotsP_length (n:Nat) (s:RS):(dotsP n s).1.length=n:=by induction n<;>simp [dotsP, *]
def dot64 (d:DotT):Prop:=InI64 d.1∧InI64 d.2.1
theorem dotsP_in (n:Nat) (s:RS):∀ d∈(dotsP n s).1,dot64 d:=by
 induction n with
 |zero=>intro d hd;simp [dotsP] at hd
 |succ n ih =>
  intro d hd
  simp only [dotsP,List.mem_append,List.mem_singleton] at hd
  rcases hd with hd|rfl
  ·exact ih d hd
  ·exact ⟨RS.num_in _,RS.num_in _⟩
theorem dotsP_len (n:Nat) (s:RS):(dotsP n s).2.rest.length≤s.rest.length:=by
 induction n with
 |zero=>exact Nat.le_refl _
 |succ n ih=>exact Nat.le_trans (RS.num_len _) (Nat.le_trans (RS.num_len _) ih)
theorem dotsP_be:∀ (l:List DotT) (t:List UInt8),(∀ d∈l,dot64 d)→dotsP l.length ⟨true,dotsB l++t⟩=(l,⟨true,t⟩):=by
 have key:∀ (k:Nat) (l:List DotT) (t:List UInt8),(∀ d∈l,dot64 d)→k≤l.length→dotsP k ⟨true,dotsB l++t⟩=(l.take k,⟨true,dotsB (l.drop k)++t⟩):=by
  intro k
  induction k with
  |zero=>intro l t _ _;simp [dotsP]
  |succ k ih =>
   intro l t hl hk
   have h1:=ih l t hl (by omega);have hd:l.drop k=l[k]::l.drop (k+1):=List.drop_eq_getElem_cons hk;have hq:=hl _ (List.getElem_mem (l:=l) (n:=k) (by omega));rw [dotsP,h1]
   simp only
   rw [hd,dotsB_cons,List.append_assoc,RS.num_be hq.1]
   simp only
   rw [List.append_assoc,RS.num_be hq.2,List.take_succ_eq_append_getElem hk]
 intro l t hl
 rw [key l.length l t hl (Nat.le_refl _)];simp
theorem dotsP_good {n:Nat} {s:RS} (h:(dotsP n s).2.good=true):s.good=true∧s.rest=dotsB (dotsP n s).1++(dotsP n s).2.rest:=by
 induction n with
 |zero=>exact ⟨h,by simp [dotsP]⟩
 |succ n ih =>
  obtain ⟨h1,_,e1⟩:=RS.num_good (s:=(dotsP n s).2.num.2) h;obtain ⟨h2,_,e2⟩:=RS.num_good (s:=(dotsP n s).2) h1;obtain ⟨h3,e3⟩:=ih h2;refine ⟨h3,?_⟩;rw [e3,e2,e1]
  simp [dotsP,dotsB_snoc]
structure RecQ where
 kind:UInt8
 key:List UInt8
 client:Int
 seq:Int
 dots:List DotT
 gone:UInt8
 value:List UInt8
 s:RS
def recQ (b:List UInt8):RecQ :=
 let k:=(RS.mk true b).byte
 let y:=k.2.bytes 64
 let c:=y.2.num
 let q:=c.2.num
 let n:=q.2.count 8
 let d:=dotsP n.1.toNat n.2
 let g:=d.2.byte
 let v:=g.2.bytes 1024
 ⟨k.1,y.1,c.1,q.1,d.1,g.1,v.1,v.2⟩
def RecQ.make (q:RecQ) (g:Bool) (sig:List UInt8):RecT:=(q.key,q.client,q.seq,q.dots,g,q.value,sig,())
theorem vec64 {l:List DotT} (h:vecOk l=true):∀ d∈l,dot64 d:=fun d hd=>by
 have:=dotOk_iff.1 ((vecOk_iff.1 h).1 d hd);exact ⟨⟨by omega,by omega⟩,⟨by omega,by omega⟩⟩
theorem recQ_text {x:RecT} (h:shaped x=true) (t:List UInt8):recQ (recText x++t)=⟨1,x.1,x.2.1,x.2.2.1,x.2.2.2.1,goneB x.2.2.2.2.1,x.2.2.2.2.2.1,⟨true,t⟩⟩:=by
 obtain ⟨h1,h2,h3,h4,h5,h6,h7⟩:=shaped_iff.1 h;have hd:=dotOk_iff.1 h3;simp only [rDot] at hd;have hl:=rises_len h4;have i1:InI64 x.2.1:=⟨by omega,by omega⟩;have i2:InI64 x.2.2.1:=⟨by omega,by omega⟩;have i3:InI64 (x.2.2.2.1.length:Int):=⟨by omega,by omega⟩;have e0:recText x++t=(1:UInt8)::(bytesOf x.1++(be x.2.1++(be x.2.2.1++(be x.2.2.2.1.length++(dotsB x.2.2.2.1++(goneB x.2.2.2.2.1::(bytesOf x.2.2.2.2.2.1++t))))))):=by
  simp [recText]
 unfold recQ;rw [e0];simp only [RS.byte_cons];rw [RS.bytes_of (by omega) (by omega)]
 simp only
 rw [RS.num_be i1]
 simp only
 rw [RS.num_be i2]
 simp only
 rw [RS.count_be i3 (by omega) (by omega)];simp only [Int.toNat_natCast];rw [dotsP_be _ _ (vec64 h4)];simp only [RS.byte_cons];rw [RS.bytes_of (by omega) (by omega)]
theorem recQ_good {b:List UInt8} (h:(recQ b).s.good=true) (hk:(recQ b).kind=1) (g:Bool) (hg:(recQ b).gone=goneB g) (sig:List UInt8):b=recText ((recQ b).make g sig)++(recQ b).s.rest:=by
 unfold recQ at h hk hg ⊢;simp only at h hk hg ⊢;generalize hK:(RS.mk true b).byte=k at *;generalize hY:k.2.bytes 64=y at *;generalize hC:y.2.num=c at *;generalize hQ:c.2.num=q at *;generalize hN:q.2.count 8=n at *;generalize hD:dotsP n.1.toNat n.2=d at *;generalize hG:d.2.byte=g2 at *;generalize hV:g2.2.bytes 1024=v at *;obtain ⟨a8,_,e8⟩:=RS.bytes_good (s:=g2.2) (most:=1024) (by rw [hV];exact h);rw [hV] at e8;obtain ⟨a7,e7⟩:=RS.byte_good (s:=d.2) (by rw [hG];exact a8);rw [hG] at e7;obtain ⟨a6,e6⟩:=dotsP_good (n:=n.1.toNat) (s:=n.2) (by rw [hD];exact a7);have l6:=dotsP_length n.1.toNat n.2;rw [hD] at e6 l6;obtain ⟨a5,b5,_,e5⟩:=RS.count_good (s:=q.2) (most:=8) (by rw [hN];exact a6);rw [hN] at e5 b5;obtain ⟨a4,_,e4⟩:=RS.num_good (s:=c.2) (by rw [hQ];exact a5);rw [hQ] at e4;obtain ⟨a3,_,e3⟩:=RS.num_good (s:=y.2) (by rw [hC];exact a4);rw [hC] at e3;obtain ⟨a2,_,e2⟩:=RS.bytes_good (s:=k.2) (most:=64) (by rw [hY];exact a3);rw [hY] at e2;obtain ⟨_,e1⟩:=RS.byte_good (s:=RS.mk true b) (by rw [hK];exact a2);rw [hK] at e1;have en:n.1=(d.1.length:Int):=by rw [l6];omega
 have e1:b=k.1::k.2.rest:=e1;rw [e1,e2,e3,e4,e5,e6,e7,e8,hk,hg,en]
 simp [RecQ.make,recText]
noncomputable def recGet (b:List UInt8):Option RecT:=by
 classical exact if h:∃ x,recOk x=true∧recB x=b then some h.choose else none
theorem recGet_iff' {b:List UInt8} {x:RecT} (h:recGet b=some x):recOk x=true∧recB x=b:=by
 unfold recGet at h
 split at h
 ·rename_i c;cases h;exact c.choose_spec
 ·cases h
def recHd (b:List UInt8):RecQ:=recQ (b.take (b.length - 64))
def recIn (b:List UInt8):RecT:=(recHd b).make (decide ((recHd b).gone≠0)) (b.drop (b.length - 64))
theorem goneB_ne (g:Bool):decide (goneB g≠0)=g:=by cases g<;>rfl
theorem recIn_ok {x:RecT} (h:recOk x=true):recIn (recB x)=x∧(recHd (recB x)).s=⟨true,[]⟩∧64≤(recB x).length:=by
 obtain ⟨h1,h2⟩:=recOk_iff.1 h;have e1:(recB x).length - 64=(recText x).length:=by unfold recB;rw [List.length_append,h2];omega
 have e2:(recB x).take ((recB x).length - 64)=recText x:=by rw [e1];unfold recB;rw [List.take_append_of_le_length (Nat.le_refl _),List.take_length]
 have e3:(recB x).drop ((recB x).length - 64)=x.2.2.2.2.2.2.1:=by rw [e1];unfold recB;rw [List.drop_append_of_le_length (Nat.le_refl _),List.drop_length,List.nil_append]
 have e4:=recQ_text h1 [];rw [List.append_nil] at e4;refine ⟨?_,?_,?_⟩
 ·unfold recIn recHd
  rw [e2,e3,e4];simp only [RecQ.make,goneB_ne]
 ·unfold recHd;rw [e2,e4]
 ·unfold recB;rw [List.length_append,h2];omega
theorem recB_inj {x y:RecT} (hx:recOk x=true) (hy:recOk y=true) (h:recB x=recB y):x=y:=by
 rw [← (recIn_ok hx).1,h,(recIn_ok hy).1]
theorem recGet_some {x:RecT} (h:recOk x=true):recGet (recB x)=some x:=by
 cases e:recGet (recB x) with
 |some y=>obtain ⟨h1,h2⟩:=recGet_iff' e;rw [recB_inj h1 h h2]
 |none =>
  unfold recGet at e
  split at e
  ·cases e
  ·rename_i c;exact absurd ⟨x,h,rfl⟩ c
theorem recGet_iff {b:List UInt8} {x:RecT}:recGet b=some x↔recOk x=true∧recB x=b :=
 ⟨recGet_iff',fun ⟨h1,h2⟩=>by rw [← h2];exact recGet_some h1⟩
theorem recGet_none {b:List UInt8} (h:∀ x,recOk x=true→recB x≠b):recGet b=none:=by
 cases e:recGet b with
 |none=>rfl
 |some x=>exact absurd (recGet_iff' e).2 (h x (recGet_iff' e).1)
theorem recGet_short {b:List UInt8} (h:b.length<64):recGet b=none :=
 recGet_none fun x hx e=>by have:=(recIn_ok hx).2.2;rw [e] at this;omega
theorem recGet_yes {b:List UInt8} (h2:recOk (recIn b)=true) (h3:recB (recIn b)=b):recGet b=some (recIn b):=recGet_iff.2 ⟨h2,h3⟩
theorem recGet_no {b:List UInt8} (h:¬((recHd b).s.done=true∧recOk (recIn b)=true∧recB (recIn b)=b)):recGet b=none :=
 recGet_none fun x hx e=>h (by subst e;obtain ⟨h1,h2,_⟩:=recIn_ok hx;rw [h1,h2];exact ⟨rfl,hx,rfl⟩)
def recQ2 (b:List UInt8):List UInt8 × RS:=byteP 64 (recQ b).s
def recIn2 (b:List UInt8):RecT:=(recQ b).make (decide ((recQ b).gone=1)) (recQ2 b).1
theorem goneB_eq (g:Bool):decide (goneB g=1)=g:=by cases g<;>rfl
theorem goneB_le {c:UInt8} (h:¬ 1<c.toNat):c=goneB (decide (c=1)):=by
 have:c.toNat=0∨c.toNat=1:=by omega
 rcases this with q|q
 ·have:c=0:=UInt8.toNat.inj q
  subst this;rfl
 ·have:c=1:=UInt8.toNat.inj q
  subst this;rfl
theorem recIn2_ok {x:RecT} (h:recOk x=true):recIn2 (recB x)=x∧(recQ2 (recB x)).2=⟨true,[]⟩∧(recQ (recB x)).kind=1∧(recQ (recB x)).gone.toNat≤1:=by
 obtain ⟨h1,h2⟩:=recOk_iff.1 h;have e4:recQ (recB x)=_:=recQ_text h1 x.2.2.2.2.2.2.1;have e5:=byteP_app x.2.2.2.2.2.2.1 [];rw [h2,List.append_nil] at e5;have e6:recQ2 (recB x)=(x.2.2.2.2.2.2.1,⟨true,[]⟩):=by unfold recQ2;rw [e4];exact e5
 refine ⟨?_,by rw [e6],by rw [e4],by rw [e4];show (goneB _).toNat≤1;cases x.2.2.2.2.1<;>decide⟩;unfold recIn2;rw [e6,e4];simp only [RecQ.make,goneB_eq]
theorem recGet_yes2 {b:List UInt8} (h0:(recQ2 b).2.done=true) (h1:(recQ b).kind=1) (h2:¬ 1<(recQ b).gone.toNat) (h3:recOk (recIn2 b)=true):recGet b=some (recIn2 b):=by
 refine recGet_iff.2 ⟨h3,?_⟩;obtain ⟨g1,g2⟩:=RS.done_iff.1 h0;obtain ⟨g3,e1⟩:=byteP_good (n:=64) (s:=(recQ b).s) g1;have e2:=recQ_good g3 h1 _ (goneB_le h2) (recQ2 b).1;rw [e1] at e2;have e3:(byteP 64 (recQ b).s).2.rest=[]:=g2;rw [e3,List.append_nil] at e2;exact e2.symm
theorem recGet_no2 {b:List UInt8} (h:¬((recQ2 b).2.done=true∧(recQ b).kind=1∧¬ 1<(recQ b).gone.toNat∧recOk (recIn2 b)=true)):recGet b=none :=
 recGet_none fun x hx e=>h (by subst e;obtain ⟨h1,h2,h3,h4⟩:=recIn2_ok hx;rw [h1,h2];exact ⟨rfl,h3,by omega,hx⟩)
def rootQ (b:List UInt8):RootT :=
 let a:=(RS.mk true ((b.drop 1).take 24)).num
 let c:=a.2.num
 let q:=c.2.num
 (a.1,c.1,q.1,(b.drop 25).take 64,b.drop 89,())
theorem num_yes {s:RS} (hg:s.good=true) (h:8≤s.rest.length):s.num.2.good=true∧s.num.2.rest.length=s.rest.length - 8:=by
 obtain ⟨g,r⟩:=s;simp only at hg h;subst hg
 simp [RS.num,RS.of,rNum,h]
theorem rootQ_text {b:List UInt8} (hl:b.length=153) (h0:b.head?=some 2):rootB (rootQ b)=b:=by
 unfold rootQ
 simp only
 generalize hS:RS.mk true ((b.drop 1).take 24)=s;have sl:s.rest.length=24:=by rw [← hS];simp;omega
 have sg:s.good=true:=by rw [← hS]
 obtain ⟨a1,l1⟩:=num_yes sg (by omega);obtain ⟨a2,l2⟩:=num_yes a1 (by omega);obtain ⟨a3,l3⟩:=num_yes a2 (by omega);obtain ⟨_,_,e1⟩:=RS.num_good a1;obtain ⟨_,_,e2⟩:=RS.num_good a2;obtain ⟨_,_,e3⟩:=RS.num_good a3;have e4:s.num.2.num.2.num.2.rest=[]:=List.eq_nil_of_length_eq_zero (by omega);rw [e4,List.append_nil] at e3;rw [e3] at e2;rw [e2] at e1;have e5:(b.drop 1).take 24=be s.num.1++(be s.num.2.num.1++be s.num.2.num.2.num.1):=by rw [← e1,← hS]
 have e6:b=2::b.drop 1:=by
  cases b with
  |nil=>cases h0
  |cons c b=>simp at h0;subst h0;rfl
 have e7:b.drop 1=(b.drop 1).take 24++b.drop 25:=by
  have:=(List.take_append_drop 24 (b.drop 1)).symm;rw [List.drop_drop] at this;exact this
 have e8:b.drop 25=(b.drop 25).take 64++b.drop 89:=by
  have:=(List.take_append_drop 64 (b.drop 25)).symm;rw [List.drop_drop] at this;exact this
 show [2]++((be s.num.1++(be s.num.2.num.1++be s.num.2.num.2.num.1))++(b.drop 25).take 64)++b.drop 89=b
 rw [← e5]
 conv=>rhs;rw [e6,e7,e8]
 simp
theorem rootQ_ok {x:RootT} (h:rootOk x=true):rootQ (rootB x)=x∧(rootB x).head?=some 2:=by
 obtain ⟨h1,h2⟩:=rootOk_iff.1 h;obtain ⟨r1,r2,r3,r4,r5,r6,r7⟩:=rootShape_iff.1 h1;have e0:rootB x=2::(be x.1++(be x.2.1++(be x.2.2.1++(x.2.2.2.1++x.2.2.2.2.1)))):=by simp [rootB,rootText]
 have e1:((rootB x).drop 1).take 24=be x.1++(be x.2.1++be x.2.2.1):=by
  rw [e0,List.drop_succ_cons,List.drop_zero,← List.append_assoc,← List.append_assoc,List.append_assoc (be x.1),List.take_append_of_le_length (by simp),List.take_of_length_le (by simp)]
 have e2:(rootB x).drop 25=x.2.2.2.1++x.2.2.2.2.1:=by
  rw [e0,show 25=24+1 from rfl,List.drop_succ_cons,← List.append_assoc,← List.append_assoc,List.append_assoc (be x.1),List.drop_append_of_le_length (by simp),List.drop_of_length_le (by simp),List.nil_append]
 have e3:(rootB x).drop 89=x.2.2.2.2.1:=by
  rw [show 89=25+64 from rfl,← List.drop_drop,e2,List.drop_append_of_le_length (by omega),List.drop_of_length_le (by omega),List.nil_append]
 refine ⟨?_,by rw [e0];rfl⟩;unfold rootQ;rw [e1,e2,e3]
 simp only
 rw [RS.num_be ⟨by omega,by omega⟩]
 simp only
 rw [RS.num_be ⟨by omega,by omega⟩]
 simp only
 have e4:=RS.num_be (n:=x.2.2.1) ⟨by omega,by omega⟩ [];rw [List.append_nil] at e4;rw [e4,List.take_append_of_le_length (by omega),List.take_of_length_le (by omega)]
noncomputable def rootGet (b:List UInt8):Option RootT:=if b.length=153∧b.head?=some 2∧rootOk (rootQ b)=true then some (rootQ b) else none
theorem rootGet_iff {b:List UInt8} {x:RootT}:rootGet b=some x↔rootOk x=true∧rootB x=b:=by
 unfold rootGet
 constructor
 ·intro h
  split at h
  ·rename_i c;cases h;exact ⟨c.2.2,rootQ_text c.1 c.2.1⟩
  ·cases h
 ·rintro ⟨h1,rfl⟩
  obtain ⟨h2,h3⟩:=rootQ_ok h1;rw [if_pos ⟨rootB_length h1,h3,by rw [h2];exact h1⟩,h2]
theorem rootGet_some {x:RootT} (h:rootOk x=true):rootGet (rootB x)=some x:=rootGet_iff.2 ⟨h,rfl⟩
theorem rootGet_eq2 {b:List UInt8} (hl:b.length=153):rootGet b=if rootOk (rootQ b)=true∧rootB (rootQ b)=b then some (rootQ b) else none:=by
 split
 ·rename_i c;exact rootGet_iff.2 c
 ·rename_i c
  cases e:rootGet b with
  |none=>rfl
  |some x =>
   obtain ⟨h1,h2⟩:=rootGet_iff.1 e;exact absurd (by rw [← h2,(rootQ_ok h1).1];exact ⟨h1,rfl⟩) c
theorem rootGet_len {b:List UInt8} (hl:b.length≠153):rootGet b=none:=if_neg fun c=>hl c.1
noncomputable def evdGet (b:List UInt8):Option EvdT :=
 let y:=(RS.mk true b).bytes 153
 let z:=y.2.bytes 153
 (rootGet y.1).bind fun a=>(rootGet z.1).bind fun c=>if z.2.done=true∧evdOk (a,c,())=true then some (a,c,()) else none
theorem evdGet_iff {b:List UInt8} {x:EvdT}:evdGet b=some x↔evdOk x=true∧evdB x=b:=by
 unfold evdGet
 simp only
 constructor
 ·intro h
  obtain ⟨a,ha,h⟩:=Option.bind_eq_some_iff.1 h;obtain ⟨c,hc,h⟩:=Option.bind_eq_some_iff.1 h
  split at h
  ·rename_i q
   cases h
   refine ⟨q.2,?_⟩;obtain ⟨g1,g2⟩:=RS.done_iff.1 q.1;obtain ⟨g3,_,e2⟩:=RS.bytes_good g1;obtain ⟨_,_,e1⟩:=RS.bytes_good g3;have a2:=(rootGet_iff.1 ha).2;have c2:=(rootGet_iff.1 hc).2;rw [← a2] at e1;rw [← c2,g2,List.append_nil] at e2;rw [e2] at e1;exact e1.symm
  ·cases h
 ·rintro ⟨h1,rfl⟩
  obtain ⟨o1,o2,_⟩:=evdOk_iff.1 h1;have l1:=rootB_length o1;have l2:=rootB_length o2;have e1:(RS.mk true (evdB x)).bytes 153=(rootB x.1,⟨true,bytesOf (rootB x.2.1)⟩):=RS.bytes_of (by omega) (by omega) _;have e2:(RS.mk true (bytesOf (rootB x.2.1))).bytes 153=(rootB x.2.1,⟨true,[]⟩):=by
   have:=RS.bytes_of (xs:=rootB x.2.1) (most:=153) (by omega) (by omega) []
   rwa [List.append_nil] at this
  rw [e1]
  simp only
  rw [e2,rootGet_some o1,rootGet_some o2];simp only [Option.bind_some];rw [if_pos ⟨rfl,h1⟩]
noncomputable def setP (most:Int):Nat→RS→Option (List RecT × RS)
 |0,s=>some ([],s)
 |n+1,s=>(setP most n s).bind fun p=>(recGet (p.2.bytes most).1).map fun x=>(p.1++[x],(p.2.bytes most).2)
theorem setP_sound {most:Int}:∀ {n:Nat} {s:RS} {p:List RecT × RS},setP most n s=some p→p.2.good=true→s.good=true∧p.1.length=n∧s.rest=sRows p.1++p.2.rest
 |0,s,p,h,hg=>by cases h;exact ⟨hg,rfl,rfl⟩
 |n+1,s,p,h,hg=>by
  obtain ⟨q,hq,h⟩:=Option.bind_eq_some_iff.1 h;obtain ⟨x,hx,rfl⟩:=Option.map_eq_some_iff.1 h;obtain ⟨g1,_,e1⟩:=RS.bytes_good hg;obtain ⟨g2,l2,e2⟩:=setP_sound hq g1;refine ⟨g2,by simp [l2],?_⟩;rw [e2,e1,← (recGet_iff.1 hx).2,sRows_snoc,List.append_assoc]
theorem setP_bad {most:Int} {n:Nat} {s:RS} {p:List RecT × RS} (h:setP most n s=some p):(∀ x∈p.1,recOk x=true)∧p.1.length=n:=by
 induction n generalizing p with
 |zero=>cases h;exact ⟨fun x hx=>(by cases hx),rfl⟩
 |succ n ih =>
  obtain ⟨q,hq,h⟩:=Option.bind_eq_some_iff.1 h;obtain ⟨x,hx,rfl⟩:=Option.map_eq_some_iff.1 h;obtain ⟨i1,i2⟩:=ih hq;refine ⟨fun y hy=>?_,by simp [i2]⟩
  rcases List.mem_append.1 hy with hy|hy
  ·exact i1 y hy
  ·rw [List.mem_singleton.1 hy];exact (recGet_iff.1 hx).1
theorem sRows_cons (x:RecT) (l:List RecT):sRows (x::l)=bytesOf (recB x)++sRows l:=by simp [sRows]
theorem setP_rows {most:Int} (l:List RecT) (t:List UInt8) (hl:∀ x∈l,recOk x=true∧((recB x).length:Int)≤most):setP most l.length ⟨true,sRows l++t⟩=some (l,⟨true,t⟩):=by
 have key:∀ k,k≤l.length→setP most k ⟨true,sRows l++t⟩=some (l.take k,⟨true,sRows (l.drop k)++t⟩):=by
  intro k
  induction k with
  |zero=>intro _;simp [setP]
  |succ k ih =>
   intro hk
   obtain ⟨h1,h2⟩:=hl _ (List.getElem_mem (l:=l) (n:=k) (by omega));have h3:=recB_le h1;have hd:l.drop k=l[k]::l.drop (k+1):=List.drop_eq_getElem_cons hk;have hb:=RS.bytes_of (xs:=recB l[k]) (most:=most) h2 (by omega) (sRows (l.drop (k+1))++t);have e:sRows (l.drop k)++t=bytesOf (recB l[k])++(sRows (l.drop (k+1))++t):=by rw [hd,sRows_cons,List.append_assoc]
   rw [setP,ih (by omega),Option.bind_some,e]
   simp only
   rw [hb]
   simp only
   rw [recGet_some h1,Option.map_some,List.take_succ_eq_append_getElem (by omega)]
 rw [key _ (Nat.le_refl _)];simp [sRows]
noncomputable def sGet (b:List UInt8):Option (List RecT) :=
 let c:=(RS.mk true b).count ((b.length / 8:Nat):Int)
 (setP b.length c.1.toNat c.2).bind fun p=>if p.2.done=true∧SRight p.1 then some p.1 else none
theorem sRows_min (l:List RecT):8*l.length≤(sRows l).length:=by
 induction l with
 |nil=>simp [sRows]
 |cons x l ih=>simp only [sRows,List.map_cons,List.flatten_cons,List.length_append,bytesOf_length,List.length_cons] at ih ⊢;omega
theorem rec_in_rows {l:List RecT} {x:RecT} (h:x∈l):(recB x).length≤(sRows l).length:=by
 induction l with
 |nil=>cases h
 |cons y l ih =>
  simp only [sRows,List.map_cons,List.flatten_cons,List.length_append,bytesOf_length] at ih ⊢
  rcases List.mem_cons.1 h with rfl|h
  ·omega
  ·have:=ih h;omega
theorem sGet_iff {b:List UInt8} (hb:b.length≤9223372036854775807) {l:List RecT}:sGet b=some l↔SRight l∧sB l=b:=by
 unfold sGet
 simp only
 constructor
 ·intro h
  obtain ⟨p,hp,h⟩:=Option.bind_eq_some_iff.1 h
  split at h
  ·rename_i q
   cases h
   refine ⟨q.2,?_⟩;obtain ⟨g1,g2⟩:=RS.done_iff.1 q.1;obtain ⟨g3,l3,e3⟩:=setP_sound hp g1;obtain ⟨_,b4,_,e4⟩:=RS.count_good g3;rw [g2,List.append_nil] at e3;rw [e3] at e4;have e5:((RS.mk true b).count ((b.length / 8:Nat):Int)).1=(p.1.length:Int):=by rw [l3];omega
   rw [e5] at e4;exact e4.symm
  ·cases h
 ·rintro ⟨h1,rfl⟩
  have hlen:(sB l).length=8+(sRows l).length:=by simp [sB]
  have hmin:=sRows_min l;have e1:(RS.mk true (sB l)).count (((sB l).length / 8:Nat):Int)=((l.length:Int),⟨true,sRows l⟩):=RS.count_be ⟨by omega,by omega⟩ (by omega) (by omega) _;rw [e1];simp only [Int.toNat_natCast];have e2:=setP_rows (most:=((sB l).length:Int)) l [] fun x hx=>⟨oneK_all h1.1 x hx,by have:=rec_in_rows hx;omega⟩;rw [List.append_nil] at e2;rw [e2];simp only [Option.bind_some];rw [if_pos ⟨rfl,h1⟩]
end Go.Sp
end
section
/- Texts of this proof, one behind the other. -/
section
/- Texts of this proof, one behind the other. -/
section
/- Texts of this proof, one behind the other. -/
section
/- Texts of this proof, one behind the other. -/
section
/- Texts of this proof. -/
namespace Go.Sp
variable {K:Type} [DecidableEq K] {enc:K→Value}
abbrev KEnt (K:Type):=K × Value × Nat
section
variable {ro:Option Nat} {P:Program} {fn:Func} {n:Nat} {R:Ending→World→Prop} {k:List Item} {σ:List (Nat × Value)} {D:List Deferred} {g:Gr} {η ζ θ:List SProp} {ops:Array Oper} {i d:Nat} {ls:List Nat}
 {t tk te:TypeId} {x y z:Operand} {b c:Nat} {l:List (KEnt K)} {key:K} {w:World}
omit [DecidableEq K] in
omit [DecidableEq K] in
omit [DecidableEq K] in
omit [DecidableEq K] in
omit [DecidableEq K] in
omit [DecidableEq K] in
omit [DecidableEq K] in
omit [DecidableEq K] in
end
def enc2 (a:Int × Int):Value:=.agg #[.int .i64 a.1,.int .i64 a.2]
theorem run_part_int {P:Program} {ti:TypeId} (hi:P.underlying ti=some (.int .i64)) (cs:Array Value) (off:Nat) (v:Value) (hv:cs[off]?=some v) (w:World):(part ti cs off).run P w=.ok v w:=by
 simp [part,isAgg,run_underlying hi,hv]
theorem enc2_at (a:Int × Int):(#[Value.int .i64 a.1,.int .i64 a.2]:Array Value)[0]?=some (.int .i64 a.1)∧(#[Value.int .i64 a.1,.int .i64 a.2]:Array Value)[1]?=some (.int .i64 a.2):=⟨rfl,rfl⟩
omit [DecidableEq K] in
omit [DecidableEq K] in
section
variable {ro:Option Nat} {P:Program} {fn:Func} {n:Nat} {R:Ending→World→Prop} {k:List Item} {σ:List (Nat × Value)} {D:List Deferred} {g:Gr} {η ζ θ:List SProp} {ops:Array Oper} {i d:Nat} {ls:List Nat}
 {t tk te:TypeId} {x y z:Operand} {b c c' :Nat} {l:List (KEnt K)} {key:K} {w:World} {v zv:Value}
end
end Go.Sp
end
section
/- Texts of this proof. -/
namespace Go.Sp
theorem run_equalDot {P : Program} {t ti : TypeId} {f0 f1 : Field} (ht : P.underlying t = some (.struct #[f0, f1])) (hi : P.underlying ti = some (.int .i64)) (h0 : f0.type = ti) (h1 : f1.type = ti) (o0 : f0.offset = 0) (o1 : f1.offset = 1) (n0 : f0.name ≠ "_") (n1 : f1.name ≠ "_") (hh : P.stoodInHeld t = false)
  (a b:Int × Int) (w:World):(Op.equal t (enc2 a) (enc2 b)).run P w=.ok (decide (a=b)) w:=by
 have hpa0:=fun w=>run_part_int hi _ 0 _ (enc2_at a).1 w;have hpa1:=fun w=>run_part_int hi _ 1 _ (enc2_at a).2 w;have hpb0:=fun w=>run_part_int hi _ 0 _ (enc2_at b).1 w;have hpb1:=fun w=>run_part_int hi _ 1 _ (enc2_at b).2 w;have heq:∀ (x y:Int) (w:World),(Op.equalIn 9999 ti (.int .i64 x) (.int .i64 y)).run P w=.ok (x ==y) w:=fun x y w=>by
  show (Op.equalIn (9998+1) ti (.int .i64 x) (.int .i64 y)).run P w=_
  unfold Op.equalIn
  simp [run_underlying hi]
 show (Op.equalIn (9999+1) t (enc2 a) (enc2 b)).run P w=_
 unfold Op.equalIn enc2;simp only [Sem.run_bind,run_underlying ht,Result.andThen];obtain ⟨a1,a2⟩:=a;obtain ⟨b1,b2⟩:=b;simp only at hpa0 hpa1 hpb0 hpb1
 by_cases c1:a1=b1
 ·by_cases c2:a2=b2
  ·subst c1;subst c2
   simp [hh,h0,h1,o0,o1,n0,n1,hpa0,hpa1,heq]
  ·subst c1
   have:(a2 ==b2)=false:=by simpa using c2
   simp [hh,h0,h1,o0,o1,n0,n1,hpa0,hpa1,hpb0,hpb1,heq,c2]
 ·have:(a1 ==b1)=false:=by simpa using c1
  simp [hh,h0,h1,o0,o1,n0,n1,hpa0,hpb0,heq,c1]
section
variable {P:Program} {σ:List (Nat × Value)} {g:Gr} {η:List SProp} {t ti u:TypeId} {x y:Operand} {a b c d:Int} {f0 f1:Field}
theorem Does.eqlDot (ht : P.underlying t = some (.struct #[f0, f1])) (hi : P.underlying ti = some (.int .i64)) (h0 : f0.type = ti) (h1 : f1.type = ti) (o0 : f0.offset = 0) (o1 : f1.offset = 1) (n0 : f0.name ≠ "_") (n1 : f1.name ≠ "_") (hh : P.stoodInHeld t = false) (hgd : P.eqGuardType P.depth t = false)
  (hx:ev σ x=some (.agg #[.int .i64 a,.int .i64 b])) (hy:ev σ y=some (.agg #[.int .i64 c,.int .i64 d])):Does P (.binOp .eql t x y u) σ g η (.bool (decide ((a,b)=(c,d)))) η:=.run fun o ρ w ho hk=>by
 have h:=run_equalDot ht hi h0 h1 o0 o1 n0 n1 hh (a,b) (c,d) w;simp only [enc2] at h
 simp [execOp,ho,hk x _ hx,hk y _ hy,eqGuard,Go.binOp,h,hgd]
theorem Does.neqDot (ht : P.underlying t = some (.struct #[f0, f1])) (hi : P.underlying ti = some (.int .i64)) (h0 : f0.type = ti) (h1 : f1.type = ti) (o0 : f0.offset = 0) (o1 : f1.offset = 1) (n0 : f0.name ≠ "_") (n1 : f1.name ≠ "_") (hh : P.stoodInHeld t = false) (hgd : P.eqGuardType P.depth t = false)
  (hx:ev σ x=some (.agg #[.int .i64 a,.int .i64 b])) (hy:ev σ y=some (.agg #[.int .i64 c,.int .i64 d])):Does P (.binOp .neq t x y u) σ g η (.bool (decide ((a,b)≠(c,d)))) η:=.run fun o ρ w ho hk=>by
 have h:=run_equalDot ht hi h0 h1 o0 o1 n0 n1 hh (a,b) (c,d) w;simp only [enc2] at h
 simp [execOp,ho,hk x _ hx,hk y _ hy,eqGuard,Go.binOp,h,hgd]
end
theorem take_same {α:Type} {xs ys:List α} {i:Nat} (hi:i<xs.length) (hi2:i<ys.length) (h:xs.take i=ys.take i) (e:xs[i]=ys[i]):xs.take (i+1)=ys.take (i+1):=by
 rw [List.take_succ_eq_append_getElem hi,List.take_succ_eq_append_getElem hi2,h,e]
theorem not_same {α:Type} {xs ys:List α} {i:Nat} (hi:i<xs.length) (hi2:i<ys.length) (e:¬ xs[i]=ys[i]):¬ xs=ys:=fun h=>e (by subst h;rfl)
theorem str_eqL {a b:List UInt8} (h:(str a).toList=(str b).toList):a=b:=by simpa using h
set_option synthInstance.maxSize 2000
set_option synthInstance.maxHeartbeats 400000
instance decDot:DecidableEq DotT:=inferInstance
instance decRec:DecidableEq RecT:=inferInstance
instance decLeaf:DecidableEq LeafT:=inferInstance
instance decStub:DecidableEq StubT:=inferInstance
instance decNode:DecidableEq NodeT:=inferInstance
instance decPrf:DecidableEq PrfT:=inferInstance
instance decRoot:DecidableEq RootT:=inferInstance
instance decEvd:DecidableEq EvdT:=inferInstance
instance decHeld:DecidableEq HeldT:=inferInstance
end Go.Sp
end
end
section
/- Texts of this proof, one behind the other. -/
section
/- Texts of this proof. -/
namespace Go.Sp
theorem over_dot {x y:RecT} (h:over y x=true):cmpR x y≠0:=fun e=>by
 rw [cmpR_eq] at e;unfold over at h;simp only [Bool.and_eq_true] at h;have h1:=(shaped_iff.1 h.2.1).2.2.2.2.1;have h2:=h.2.2.2;rw [e,h1] at h2
 cases h2
theorem over_self (x:RecT):over x x=false:=by
 cases h:over x x with
 |false=>rfl
 |true=>exact absurd (cmpR_eq.2 rfl) (over_dot h)
theorem underR_eq (l:List RecT) (x:RecT):underR l x=l.any fun y=>over y x:=by
 unfold underR
 congr 1
 funext y
 cases h:over y x with
 |false=>simp
 |true=>simp [over_dot h]
theorem SRight_iff {l:List RecT}:SRight l↔oneK l=true∧∀ j (h:j<l.length),(∀ h0:0<j,cmpR l[j-1] l[j]<0)∧∀ k (hk:k<l.length),over l[j] l[k]=false:=by
 unfold SRight;refine and_congr_right fun _=>⟨fun q j h=>⟨(q j h).1,fun k hk=>?_⟩,fun q j h=>⟨(q j h).1,?_⟩⟩
 ·have h1:=(q k hk).2
  rw [underR_eq,List.any_eq_false] at h1
  simpa using h1 l[j] (List.getElem_mem h)
 ·rw [underR_eq,List.any_eq_false]
  intro y hy
  obtain ⟨i,hi,rfl⟩:=List.mem_iff_getElem.1 hy
  simp [(q i hi).2 j h]
theorem oneK_step {l:List RecT} {i:Nat} (h:i<l.length) (o:oneK (l.take i)=true):oneK (l.take (i+1))=true↔recOk l[i]=true∧l[i].1=(l[0]'(by omega)).1:=by
 rw [List.take_succ_eq_append_getElem h,oneK_snoc o];refine and_congr_right fun _=>⟨fun q=>?_,fun q h0=>?_⟩
 ·by_cases h0:i=0
  ·subst h0;rfl
  ·have:=q (by rw [List.length_take];omega)
   rw [List.getElem_take] at this;exact this
 ·rw [List.getElem_take];exact q
theorem oneK_none {l:List RecT} {i:Nat} (h:oneK (l.take i)=false):oneK l=false:=by
 cases e:oneK l with
 |false=>rfl
 |true=>rw [oneK_take i e] at h;cases h
theorem lt_at:∀ {xs ys:List UInt8} {i:Nat} (hi:i<xs.length) (hi2:i<ys.length),xs.take i=ys.take i→xs[i]≠ys[i]→(xs<ys↔xs[i].toNat<ys[i].toNat)
 |a::xs,b::ys,0,_,_,_,hne=>by
  simp only [List.getElem_cons_zero] at hne ⊢;rw [List.cons_lt_cons_iff,← UInt8.lt_iff_toNat_lt];exact ⟨fun h=>h.elim id fun q=>absurd q.1 hne,.inl⟩
 |a::xs,b::ys,i+1,hi,hi2,h,hne=>by
  simp only [List.take_succ_cons,List.cons.injEq] at h;obtain ⟨rfl,h⟩:=h;rw [List.cons_lt_cons_iff];have ih:=lt_at (Nat.lt_of_succ_lt_succ hi) (Nat.lt_of_succ_lt_succ hi2) h (by simpa using hne);simp only [List.getElem_cons_succ];rw [← ih];exact ⟨fun q=>q.elim (fun q=>absurd q (UInt8.lt_irrefl a)) fun q=>q.2,fun q=>.inr ⟨by trivial,q⟩⟩
theorem lt_step {n k:Nat} {P:∀ j,j<n→Prop} (h:∀ j (hj:j<n),j<k→P j hj) (hk:∀ hk:k<n,P k hk):∀ j (hj:j<n),j<k+1→P j hj:=fun j hj q=>by
 rcases Nat.lt_or_ge j k with q1|q1
 ·exact h j hj q1
 ·have:j=k:=by omega
  subst this;exact hk hj
end Go.Sp
end
section
/- Texts of this proof. -/
namespace Go.Sp
noncomputable def fL (k:List UInt8) (f:LeafT):Option (List UInt8):=if k<f.1∧f.1.length≤64∧(∃ h:0<f.2.1.length,f.2.1[0].1=f.1)∧SRight f.2.1 then some f.1 else none
def fR (s:Int × Int) (x:RootT):Option (Int × Int):=if (s.1=0∨x.1=s.1∧s.2<x.2.1)∧rootOk x=true then some (x.1,x.2.1) else none
def fE (s:List (List UInt8)) (e:EvdT):Option (List (List UInt8)):=if evdOk e=true∧evdB e ∉ s∧s.length<32 then some (s++[evdB e]) else none
def fS (s:Int) (n:Int):Option Int:=if s<n∧n≤7 then some n else none
theorem fold_map {α σ:Type} (f:WSt→α→Option WSt) (p:WSt→σ) (g:σ→α→Option σ) (hfg:∀ s x,(f s x).map p=g (p s) x):∀ (l:List α) (s:WSt),(l.foldlM f s).map p=l.foldlM g (p s)
 |[],s=>rfl
 |a::l,s=>by
  have:=hfg s a;rw [List.foldlM_cons,List.foldlM_cons,← this]
  cases e:f s a with
  |none=>rfl
  |some t=>exact fold_map f p g hfg l t
theorem fold_keep {α τ:Type} (f:WSt→α→Option WSt) (q:WSt→τ) (hq:∀ s x t,f s x=some t→q t=q s):∀ (l:List α) (s t:WSt),l.foldlM f s=some t→q t=q s
 |[],s,t,h=>by obtain rfl:=Option.some.inj h;rfl
 |a::l,s,t,h=>by
  rw [List.foldlM_cons] at h
  cases e:f s a with
  |none=>rw [e] at h;cases h
  |some u=>rw [e] at h;exact (fold_keep f q hq l u t h).trans (hq s a u e)
theorem row_some {α σ:Type} {f:WSt→α→Option WSt} (p:WSt→σ) (g:σ→α→Option σ) (hfg:∀ s x,(f s x).map p=g (p s) x) (ho:∀ s o,p { s with out:=o }=p s) {l:List α} {s:WSt} {s0:σ} (hp:p s=s0):(rowSteps f s l).isSome=(l.foldlM g s0).isSome:=by
 subst hp;have h:=fold_map f p g hfg l { s with out:=s.out++be l.length };rw [ho] at h;rw [← h,Option.isSome_map];rfl
theorem row_keep {α τ:Type} {f:WSt→α→Option WSt} (q:WSt→τ) (hq:∀ s x t,f s x=some t→q t=q s) (ho:∀ s o,q { s with out:=o }=q s) {l:List α} {s t:WSt} (h:rowSteps f s l=some t):q t=q s :=
 (fold_keep f q hq l _ t h).trans (ho _ _)
theorem bind_isSome' {α β:Type} {o:Option α} {k:α→Option β} {b c:Bool} (h1:o.isSome=b) (h2:∀ s,o=some s→(k s).isSome=c):(o.bind k).isSome=(b && c):=by
 subst h1
 cases e:o with
 |none=>rfl
 |some s=>exact h2 s e
theorem imgW_isSome (h:HeldT):(imgW h).isSome=((h.1.foldlM fL []).isSome && ((h.2.1.foldlM fR (0,0)).isSome && ((h.2.2.1.foldlM fE []).isSome && (h.2.2.2.1.foldlM fS 0).isSome))):=by
 unfold imgW;refine bind_isSome' (row_some (·.key) fL (fun s x=>by unfold leafStep fL;split<;>rfl) (fun _ _=>rfl) rfl) fun s1 e1=>?_;have k1:(s1.rep,s1.shard,s1.seen,s1.last)=(0,0,[],0):=row_keep (fun s=>(s.rep,s.shard,s.seen,s.last)) (fun s x t h=>by
   unfold leafStep at h;split at h
   ·obtain rfl:=Option.some.inj h;rfl
   ·cases h) (fun _ _=>rfl) e1
 simp only [Prod.mk.injEq] at k1;obtain ⟨k11,k12,k13,k14⟩:=k1;refine bind_isSome' (row_some (fun s=>(s.rep,s.shard)) fR (fun s x=>by unfold rootStep fR;split<;>rfl) (fun _ _=>rfl) (Prod.ext k11 k12)) fun s2 e2=>?_;have k2:(s2.seen,s2.last)=(s1.seen,s1.last):=row_keep (fun s=>(s.seen,s.last)) (fun s x t h=>by
    unfold rootStep at h;split at h
    ·obtain rfl:=Option.some.inj h;rfl
    ·cases h) (fun _ _=>rfl) e2
 simp only [Prod.mk.injEq] at k2;obtain ⟨k21,k22⟩:=k2;refine bind_isSome' (row_some (·.seen) fE (fun s x=>by unfold evdStep fE;split<;>rfl) (fun _ _=>rfl) (k21.trans k13)) fun s3 e3=>?_;have k3:s3.last=s2.last:=row_keep (·.last) (fun s x t h=>by
     unfold evdStep at h;split at h
     ·obtain rfl:=Option.some.inj h;rfl
     ·cases h) (fun _ _=>rfl) e3
 rw [Option.isSome_map];exact row_some (·.last) fS (fun s x=>by unfold shutStep fS;split<;>rfl) (fun _ _=>rfl) (k3.trans (k22.trans k14))
end Go.Sp
end
end
end
section
/- Texts of this proof, one behind the other. -/
section
/- Texts of this proof. -/
namespace Go.Sp
theorem Does.geqS {P:Program} {σ:List (Nat × Value)} {g:Gr} {η:List SProp} {t u:TypeId} {x y:Operand} {a b:ByteArray} (hx:ev σ x=some (.string a)) (hy:ev σ y=some (.string b)) :
  Does P (.binOp .geq t x y u) σ g η (.bool !(Op.bytesLess a.toList b.toList)) η :=
 .run fun o ρ w ho hk=>by simp [execOp,ho,hk x _ hx,hk y _ hy,eqGuard,Go.binOp,Op.stringOp]
theorem geqS_eq (x y:List UInt8):(!Op.bytesLess (str x).toList (str y).toList)=decide (¬ x<y):=by rw [lssS_eq,decide_not]
theorem foldO_next {α σ:Type} (f:σ→α→Option σ) {s s' t:σ} {l:List α} {i:Nat} (hi:i<l.length) (h:(l.take i).foldlM f s=some s') (h2:f s' l[i]=some t):(l.take (i+1)).foldlM f s=some t:=by
 rw [List.take_succ_eq_append_getElem hi,List.foldlM_append,h]
 simp [h2]
theorem foldO_none {α σ:Type} (f:σ→α→Option σ) {s s' :σ} {l:List α} {i:Nat} (hi:i<l.length) (h:(l.take i).foldlM f s=some s') (h2:f s' l[i]=none):(l.foldlM f s).isSome=false:=by
 have:(l.take (i+1)).foldlM f s=none:=by
  rw [List.take_succ_eq_append_getElem hi,List.foldlM_append,h]
  simp [h2]
 conv=>lhs;rw [← List.take_append_drop (i+1) l,List.foldlM_append,this]
 rfl
theorem foldO_some {α σ:Type} (f:σ→α→Option σ) {s s' :σ} {l:List α} (h:l.foldlM f s=some s'):(l.foldlM f s).isSome=true:=by rw [h];rfl
def lastBy {α σ:Type} (p:α→σ) (z:σ) (l:List α) (i:Nat):σ:=if h:0<i∧i - 1<l.length then p (l[i - 1]'h.2) else z
theorem lastBy_zero {α σ:Type} (p:α→σ) (z:σ) (l:List α):lastBy p z l 0=z:=rfl
theorem lastBy_pos {α σ:Type} (p:α→σ) (z:σ) (l:List α) {i:Nat} (h:0<i) (h2:i - 1<l.length):lastBy p z l i=p l[i - 1]:=dif_pos ⟨h,h2⟩
theorem lastBy_succ {α σ:Type} (p:α→σ) (z:σ) (l:List α) {i:Nat} (h:i<l.length):lastBy p z l (i+1)=p l[i]:=dif_pos ⟨Nat.succ_pos _,h⟩
theorem nil_lt {x:List UInt8}:[]<x↔1≤x.length:=by
 cases x with
 |nil=>simp
 |cons a x=>simp
theorem lt_pos {x y:List UInt8} (h:x<y):1≤y.length:=by
 cases y with
 |nil=>simp at h
 |cons b y=>simp
def EvRow (l:List EvdT):Prop:=(∀ i (h:i<l.length),evdOk l[i]=true∧∀ k (hk:k<i),l[k]≠l[i])∧l.length≤32
theorem fE_some:∀ (l:List EvdT) (s t:List (List UInt8)),l.foldlM fE s=some t→s.length≤32→t=s++l.map evdB∧(∀ e∈l,evdOk e=true)∧(s.Nodup→(s++l.map evdB).Nodup)∧t.length≤32
 |[],s,t,h,hs=>by
  obtain rfl:=Option.some.inj h;exact ⟨by simp,by simp,by simp,hs⟩
 |a::l,s,t,h,hs=>by
  rw [List.foldlM_cons] at h
  by_cases c:evdOk a=true∧evdB a ∉ s∧s.length<32
  ·rw [show fE s a=some (s++[evdB a]) from if_pos c] at h
   obtain ⟨h1,h2,h3,h4⟩:=fE_some l _ t h (by simp;omega);refine ⟨by rw [h1];simp,?_,fun hn=>?_,h4⟩
   ·intro e he
    rcases List.mem_cons.1 he with rfl|he
    ·exact c.1
    ·exact h2 e he
   ·have:(s++[evdB a]).Nodup:=by
     rw [List.nodup_append];exact ⟨hn,by simp,fun x hx y hy e=>by rw [List.mem_singleton.1 hy] at e;exact c.2.1 (e ▸ hx)⟩
    have:=h3 this
    rwa [List.append_assoc,List.singleton_append] at this
  ·rw [show fE s a=none from if_neg c] at h;cases h
theorem fE_of:∀ (l:List EvdT) (s:List (List UInt8)),(∀ e∈l,evdOk e=true)→(s++l.map evdB).Nodup→s.length+l.length≤32→l.foldlM fE s=some (s++l.map evdB)
 |[],s,_,_,_=>by simp
 |a::l,s,h1,h2,h3=>by
  rw [List.foldlM_cons];have hn:evdB a ∉ s:=fun q=>by
   rw [List.map_cons,List.nodup_append] at h2;exact h2.2.2 _ q _ (List.mem_cons_self ..) rfl
  have hl:s.length<32:=by simp at h3;omega
  rw [show fE s a=some (s++[evdB a]) from if_pos ⟨h1 a (List.mem_cons_self ..),hn,hl⟩];have:=fE_of l (s++[evdB a]) (fun e he=>h1 e (List.mem_cons_of_mem _ he)) (by rw [List.append_assoc,List.singleton_append];exact h2) (by simp at h3 ⊢;omega);rw [List.append_assoc,List.singleton_append] at this;exact this
theorem be_inj2 {m n:Int} (hm:InI64 m) (hn:InI64 n) (h:be m=be n):m=n:=by rw [← s64_be m hm,← s64_be n hn,h]
theorem rootB_inj {x y:RootT} (hx:rootOk x=true) (hy:rootOk y=true) (h:rootB x=rootB y):x=y:=by
 obtain ⟨sx,gx⟩:=rootOk_iff.1 hx;obtain ⟨sy,gy⟩:=rootOk_iff.1 hy;have bx:=rootShape_iff.1 sx;have by' :=rootShape_iff.1 sy;unfold rootB at h;obtain ⟨h1,h2⟩:=List.append_inj h (by rw [rootText_length sx,rootText_length sy]);unfold rootText at h1;obtain ⟨_,h3⟩:=List.append_inj h1 rfl;obtain ⟨h4,h5⟩:=List.append_inj h3 (by simp);obtain ⟨h6,h7⟩:=List.append_inj h4 (by simp);obtain ⟨h8,h9⟩:=List.append_inj h7 (by simp);have in64:∀ z:Int,0≤z∧z≤1073741824→InI64 z:=fun z hz=>by constructor<;>omega
 have e1:=be_inj2 (in64 _ (by omega)) (in64 _ (by omega)) h6;have e2:=be_inj2 (in64 _ (by omega)) (in64 _ (by omega)) h8;have e3:=be_inj2 (in64 _ (by omega)) (in64 _ (by omega)) h9;obtain ⟨x0,x1,x2,x3,x4,⟨⟩⟩:=x;obtain ⟨y0,y1,y2,y3,y4,⟨⟩⟩:=y;simp only at e1 e2 e3 h5 h2;rw [e1,e2,e3,h5,h2]
theorem bytesOf_inj {x y:List UInt8} (h:bytesOf x=bytesOf y):x=y:=by
 unfold bytesOf at h;exact (List.append_inj h (by simp)).2
theorem evdB_inj {x y:EvdT} (hx:evdOk x=true) (hy:evdOk y=true) (h:evdB x=evdB y):x=y:=by
 have ox:=evdOk_iff.1 hx;have oy:=evdOk_iff.1 hy;unfold evdB at h;have l1:=rootB_length ox.1;have l2:=rootB_length oy.1;have l3:=rootB_length ox.2.1;have l4:=rootB_length oy.2.1;obtain ⟨h1,h2⟩:=List.append_inj h (by simp [l1,l2]);have e1:=rootB_inj ox.1 oy.1 (bytesOf_inj h1);have e2:=rootB_inj ox.2.1 oy.2.1 (bytesOf_inj h2);obtain ⟨x0,x1,⟨⟩⟩:=x;obtain ⟨y0,y1,⟨⟩⟩:=y;simp only at e1 e2;rw [e1,e2]
theorem evRow_iff {l:List EvdT}:(l.foldlM fE []).isSome=true↔EvRow l:=by
 constructor
 ·intro h
  obtain ⟨t,ht⟩:=Option.isSome_iff_exists.1 h;obtain ⟨h1,h2,h3,h4⟩:=fE_some l [] t ht (by simp);have hn:=h3 (by simp);rw [List.nil_append] at hn h1;refine ⟨fun i hi=>⟨h2 _ (List.getElem_mem hi),fun k hk e=>?_⟩,by rw [h1] at h4;simpa using h4⟩;have:=List.pairwise_iff_getElem.1 hn k i (by simp;omega) (by simpa using hi) hk
  simp [e] at this
 ·rintro ⟨h1,h2⟩
  have hok:∀ e∈l,evdOk e=true:=fun e he=>by obtain ⟨i,hi,rfl⟩:=List.mem_iff_getElem.1 he;exact (h1 i hi).1
  rw [fE_of l [] hok ?_ (by simpa using h2)]
  ·rfl
  ·rw [List.nil_append]
   refine List.pairwise_iff_getElem.2 fun i j hi hj hij e=>?_;simp only [List.length_map] at hi hj;simp only [List.getElem_map] at e;exact (h1 j hj).2 i hij (evdB_inj (h1 i hi).1 (h1 j hj).1 e)
end Go.Sp
end
section
/- Texts of this proof. -/
namespace Go.Sp
def leafB (f:LeafT):List UInt8:=bytesOf f.1++bytesOf (sB f.2.1)
def rowsB {α:Type} (b:α→List UInt8) (l:List α):List UInt8:=(l.map b).flatten
theorem rowsB_snoc {α:Type} (b:α→List UInt8) (l:List α) (i:Nat) (h:i<l.length):rowsB b (l.take (i+1))=rowsB b (l.take i)++b l[i]:=by
 unfold rowsB;rw [List.take_succ_eq_append_getElem h,List.map_append,List.flatten_append];simp
theorem rowsB_le {α:Type} (b:α→List UInt8) (M:Nat) (l:List α) (h:∀ x∈l,(b x).length≤M):(rowsB b l).length≤M*l.length:=by
 induction l with
 |nil=>simp [rowsB]
 |cons a l ih =>
  have h1:=h a (List.mem_cons_self ..);have h2:=ih fun x hx=>h x (List.mem_cons_of_mem _ hx);simp only [rowsB,List.map_cons,List.flatten_cons,List.length_append,List.length_cons] at h2 ⊢;rw [Nat.mul_add,Nat.mul_one];omega
def heldB (h:HeldT):List UInt8:=be h.1.length++rowsB leafB h.1++be h.2.1.length++rowsB (fun x=>bytesOf (rootB x)) h.2.1++be h.2.2.1.length++rowsB (fun x=>bytesOf (evdB x)) h.2.2.1++be h.2.2.2.1.length++rowsB be h.2.2.2.1
theorem fold_out {α:Type} {f:WSt→α→Option WSt} {b:α→List UInt8} (hf:∀ s x t,f s x=some t→t.out=s.out++b x):∀ {l:List α} {s t:WSt},l.foldlM f s=some t→t.out=s.out++rowsB b l
 |[],s,t,h=>by obtain rfl:=Option.some.inj h;simp [rowsB]
 |a::l,s,t,h=>by
  rw [List.foldlM_cons] at h
  cases e:f s a with
  |none=>rw [e] at h;cases h
  |some u =>
   rw [e] at h;have h1:=fold_out hf (s:=u) (t:=t) h;rw [h1,hf s a u e]
   simp [rowsB]
theorem row_out {α:Type} {f:WSt→α→Option WSt} {b:α→List UInt8} (hf:∀ s x t,f s x=some t→t.out=s.out++b x) {l:List α} {s t:WSt} (h:rowSteps f s l=some t):t.out=s.out++be l.length++rowsB b l:=fold_out hf h
theorem imgW_out {h:HeldT} {out:List UInt8} (e:imgW h=some out):out=heldB h:=by
 unfold imgW at e;obtain ⟨s1,e1,e⟩:=Option.bind_eq_some_iff.1 e;obtain ⟨s2,e2,e⟩:=Option.bind_eq_some_iff.1 e;obtain ⟨s3,e3,e⟩:=Option.bind_eq_some_iff.1 e;obtain ⟨s4,e4,rfl⟩:=Option.map_eq_some_iff.1 e;have o1:=row_out (b:=leafB) (fun s x t q=>by unfold leafStep at q;split at q<;>first|(obtain rfl:=Option.some.inj q;rfl)|cases q) e1;have o2:=row_out (b:=fun x=>bytesOf (rootB x)) (fun s x t q=>by unfold rootStep at q;split at q<;>first|(obtain rfl:=Option.some.inj q;rfl)|cases q) e2;have o3:=row_out (b:=fun x=>bytesOf (evdB x)) (fun s x t q=>by unfold evdStep at q;split at q<;>first|(obtain rfl:=Option.some.inj q;rfl)|cases q) e3;have o4:=row_out (b:=be) (fun s x t q=>by unfold shutStep at q;split at q<;>first|(obtain rfl:=Option.some.inj q;rfl)|cases q) e4;rw [o4,o3,o2,o1]
 simp [heldB,WSt.zero]
theorem foldO_all {α σ:Type} {f:σ→α→Option σ} {p:α→Prop} (hf:∀ s x,(f s x).isSome=true→p x):∀ {l:List α} {s:σ},(l.foldlM f s).isSome=true→∀ x∈l,p x
 |[],_,_=>by simp
 |a::l,s,h=>by
  rw [List.foldlM_cons] at h
  cases e:f s a with
  |none=>rw [e] at h;cases h
  |some u =>
   rw [e] at h
   intro x hx
   rcases List.mem_cons.1 hx with rfl|hx
   ·exact hf s _ (by rw [e];rfl)
   ·exact foldO_all hf (s:=u) h x hx
theorem imgW_all {h:HeldT} (e:(imgW h).isSome=true):(∀ f∈h.1,f.1.length≤64∧SRight f.2.1)∧(∀ x∈h.2.1,rootOk x=true)∧(∀ x∈h.2.2.1,evdOk x=true):=by
 rw [imgW_isSome] at e;simp only [Bool.and_eq_true] at e;obtain ⟨e1,e2,e3,_⟩:=e;refine ⟨foldO_all (f:=fL) (fun s x q=>?_) e1,foldO_all (f:=fR) (fun s x q=>?_) e2,foldO_all (f:=fE) (fun s x q=>?_) e3⟩
 ·unfold fL at q;split at q
  ·rename_i c;exact ⟨c.2.1,c.2.2.2⟩
  ·cases q
 ·unfold fR at q;split at q
  ·rename_i c;exact c.2
  ·cases q
 ·unfold fE at q;split at q
  ·rename_i c;exact c.1
  ·cases q
theorem Lp.rd.mono {α:Type} {L:Lp α} {h k:Fr} {cs:List Value} {a:α} (r:L.rd h cs a) (s:h.sub k):L.rd k cs a:=L.mono s r
theorem leafRows_le {l:List LeafT} (h:∀ f∈l,f.1.length≤64∧SRight f.2.1):(rowsB leafB l).length≤100*l.length+1408*recsIn l:=by
 induction l with
 |nil=>simp [rowsB]
 |cons a l ih =>
  have h1:=h a (List.mem_cons_self ..);have h2:=ih fun x hx=>h x (List.mem_cons_of_mem _ hx);have h3:=sB_le h1.2.1;simp only [rowsB,recsIn,List.map_cons,List.flatten_cons,List.length_append,List.length_cons,List.sum_cons] at h2 ⊢;simp only [leafB,List.length_append,bytesOf_length]
  omega
end Go.Sp
end
end
end
section
/- Texts of this proof, one behind the other. -/
section
/- Texts of this proof. -/
namespace Go.Sp
abbrev top64:Int:=9223372036854775807
def someP {α:Type} (one:RS→Option (α × RS)):Nat→RS→Option (List α × RS)
 |0,s=>some ([],s)
 |n+1,s=>(someP one n s).bind fun p=>if p.2.good=true then (one p.2).map fun q=>(p.1++[q.1],q.2) else none
def rowP {α:Type} (one:RS→Option (α × RS)) (s:RS):Option (List α × RS):=someP one (s.count 1073741824).1.toNat (s.count 1073741824).2
noncomputable def leafP (s:RS):Option (LeafT × RS):=(sGet ((s.bytes top64).2.bytes top64).1).map fun l=>(((s.bytes top64).1,l,()),((s.bytes top64).2.bytes top64).2)
noncomputable def ownP (s:RS):Option (RootT × RS):=(rootGet (s.bytes top64).1).map fun x=>(x,(s.bytes top64).2)
noncomputable def proofP (s:RS):Option (EvdT × RS):=(evdGet (s.bytes top64).1).map fun x=>(x,(s.bytes top64).2)
def numP (s:RS):Option (Int × RS):=some s.num
noncomputable def heldP (s:RS):Option (HeldT × RS) :=
 (rowP leafP s).bind fun a=>(rowP ownP a.2).bind fun b=>(rowP proofP b.2).bind fun c=>(rowP numP c.2).map fun d=>((a.1,b.1,c.1,d.1,()),d.2)
noncomputable def hGet (b:List UInt8):Option HeldT:=(heldP ⟨true,b⟩).bind fun p=>if p.2.done=true∧imgW p.1=some b then some p.1 else none
def Reads {α:Type} (one:RS→Option (α × RS)) (enc:α→List UInt8) (x:α):Prop:=∀ t,one ⟨true,enc x++t⟩=some (x,⟨true,t⟩)
theorem rowsB_cons {α:Type} (b:α→List UInt8) (x:α) (l:List α):rowsB b (x::l)=b x++rowsB b l:=by simp [rowsB]
theorem someP_rows {α:Type} {one:RS→Option (α × RS)} {enc:α→List UInt8} (l:List α) (t:List UInt8) (h:∀ x∈l,Reads one enc x):someP one l.length ⟨true,rowsB enc l++t⟩=some (l,⟨true,t⟩):=by
 have key:∀ k,k≤l.length→someP one k ⟨true,rowsB enc l++t⟩=some (l.take k,⟨true,rowsB enc (l.drop k)++t⟩):=by
  intro k
  induction k with
  |zero=>intro _;simp [someP]
  |succ k ih =>
   intro hk
   have hd:l.drop k=l[k]::l.drop (k+1):=List.drop_eq_getElem_cons hk;have h1:=h _ (List.getElem_mem (l:=l) (n:=k) (by omega)) (rowsB enc (l.drop (k+1))++t);rw [someP,ih (by omega),Option.bind_some,hd,rowsB_cons,List.append_assoc]
   simp only
   rw [if_pos trivial,h1,Option.map_some,List.take_succ_eq_append_getElem (by omega)]
 rw [key _ (Nat.le_refl _)];simp [rowsB]
theorem rowP_rows {α:Type} {one:RS→Option (α × RS)} {enc:α→List UInt8} (l:List α) (t:List UInt8) (hl:l.length≤1073741824) (h:∀ x∈l,Reads one enc x):rowP one ⟨true,be l.length++(rowsB enc l++t)⟩=some (l,⟨true,t⟩):=by
 unfold rowP;rw [RS.count_be ⟨by omega,by omega⟩ (by omega) (by omega)];simp only [Int.toNat_natCast];exact someP_rows l t h
theorem leafP_reads {x:LeafT} (hk:x.1.length≤64) (hs:SRight x.2.1) (hl:(sB x.2.1).length≤9223372036854775807):Reads leafP leafB x:=fun t=>by
 unfold leafP leafB;rw [List.append_assoc,RS.bytes_of (by unfold top64;omega) (by omega)]
 simp only
 rw [RS.bytes_of (by unfold top64;omega) (by omega)]
 simp only
 rw [(sGet_iff (by omega)).2 ⟨hs,rfl⟩];rfl
theorem ownP_reads {x:RootT} (h:rootOk x=true):Reads ownP (fun x=>bytesOf (rootB x)) x:=fun t=>by
 have:=rootB_length h;unfold ownP;rw [RS.bytes_of (by unfold top64;omega) (by omega)]
 simp only
 rw [rootGet_some h];rfl
theorem proofP_reads {x:EvdT} (h:evdOk x=true):Reads proofP (fun x=>bytesOf (evdB x)) x:=fun t=>by
 have:=evdB_length h;unfold proofP;rw [RS.bytes_of (by unfold top64;omega) (by omega)]
 simp only
 rw [evdGet_iff.2 ⟨h,rfl⟩];rfl
theorem numP_reads {x:Int} (h:InI64 x):Reads numP be x:=fun t=>by
 unfold numP;rw [RS.num_be h]
theorem imgW_shut {h:HeldT} (e:(imgW h).isSome=true):∀ x∈h.2.2.2.1,InI64 x:=by
 rw [imgW_isSome] at e;simp only [Bool.and_eq_true] at e;have key:∀ (l:List Int) (s:Int),0≤s→(l.foldlM fS s).isSome=true→∀ x∈l,InI64 x:=by
  intro l
  induction l with
  |nil=>intro s _ _ x hx;cases hx
  |cons a l ih =>
   intro s hs hf x hx
   rw [List.foldlM_cons] at hf;unfold fS at hf
   split at hf
   ·rename_i c
    rcases List.mem_cons.1 hx with rfl|hx
    ·exact ⟨by omega,by omega⟩
    ·exact ih a (by omega) hf x hx
   ·cases hf
 exact key _ 0 (by decide) e.2.2.2
theorem leafRow_le {l:List LeafT} {x:LeafT} (h:x∈l):(sB x.2.1).length≤(rowsB leafB l).length:=by
 induction l with
 |nil=>cases h
 |cons y l ih =>
  rw [rowsB_cons,List.length_append]
  rcases List.mem_cons.1 h with rfl|h
  ·simp [leafB];omega
  ·have:=ih h;omega
theorem rowsB_min {α:Type} {b:α→List UInt8} (hb:∀ x,1≤(b x).length) (l:List α):l.length≤(rowsB b l).length:=by
 induction l with
 |nil=>simp
 |cons x l ih=>rw [rowsB_cons,List.length_append,List.length_cons];have:=hb x;omega
theorem heldB_lens (h:HeldT):h.1.length≤(heldB h).length∧h.2.1.length≤(heldB h).length∧h.2.2.1.length≤(heldB h).length∧h.2.2.2.1.length≤(heldB h).length∧∀ x∈h.1,(sB x.2.1).length≤(heldB h).length:=by
 have h0:=rowsB_min (b:=leafB) (fun x=>by simp [leafB];omega) h.1;have h1:=rowsB_min (b:=fun x=>bytesOf (rootB x)) (fun x=>by simp;omega) h.2.1;have h2:=rowsB_min (b:=fun x=>bytesOf (evdB x)) (fun x=>by simp;omega) h.2.2.1;have h3:=rowsB_min (b:=be) (fun x=>by simp) h.2.2.2.1;have hl:(heldB h).length=32+(rowsB leafB h.1).length+(rowsB (fun x=>bytesOf (rootB x)) h.2.1).length+(rowsB (fun x=>bytesOf (evdB x)) h.2.2.1).length+(rowsB be h.2.2.2.1).length:=by
  simp only [heldB,List.length_append,be_length];omega
 exact ⟨by omega,by omega,by omega,by omega,fun x hx=>by have:=leafRow_le hx;omega⟩
theorem heldB_eq (h:HeldT) (t:List UInt8):heldB h++t=be h.1.length++(rowsB leafB h.1++(be h.2.1.length++(rowsB (fun x=>bytesOf (rootB x)) h.2.1++(be h.2.2.1.length++(rowsB (fun x=>bytesOf (evdB x)) h.2.2.1++(be h.2.2.2.1.length++(rowsB be h.2.2.2.1++t))))))):=by
 unfold heldB;simp only [List.append_assoc]
theorem heldP_tail {h:HeldT} (e:(imgW h).isSome=true) (hb:(heldB h).length≤1000000000) (t:List UInt8):heldP ⟨true,heldB h++t⟩=some (h,⟨true,t⟩):=by
 obtain ⟨p0,p1,p2⟩:=imgW_all e;have p3:=imgW_shut e;obtain ⟨l0,l1,l2,l3,l4⟩:=heldB_lens h;unfold heldP;rw [heldB_eq,rowP_rows (one:=leafP) (enc:=leafB) h.1 _ (by omega) fun x hx=>leafP_reads (p0 x hx).1 (p0 x hx).2 (by have:=l4 x hx;omega)];simp only [Option.bind_some];rw [rowP_rows (one:=ownP) (enc:=fun x=>bytesOf (rootB x)) h.2.1 _ (by omega) fun x hx=>ownP_reads (p1 x hx)];simp only [Option.bind_some];rw [rowP_rows (one:=proofP) (enc:=fun x=>bytesOf (evdB x)) h.2.2.1 _ (by omega) fun x hx=>proofP_reads (p2 x hx)];simp only [Option.bind_some];rw [rowP_rows (one:=numP) (enc:=be) h.2.2.2.1 _ (by omega) fun x hx=>numP_reads (p3 x hx)]
 rfl
theorem heldP_held {h:HeldT} (e:(imgW h).isSome=true) (hb:(heldB h).length≤1000000000):heldP ⟨true,heldB h⟩=some (h,⟨true,[]⟩):=by
 have:=heldP_tail e hb []
 rwa [List.append_nil] at this
theorem hGet_iff {b:List UInt8} (hb:b.length≤1000000000) {h:HeldT}:hGet b=some h↔imgW h=some b:=by
 unfold hGet
 constructor
 ·intro e
  obtain ⟨p,hp,e⟩:=Option.bind_eq_some_iff.1 e
  split at e
  ·rename_i c;cases e;exact c.2
  ·cases e
 ·intro e
  have e1:=imgW_out e;rw [e1] at hb ⊢;rw [heldP_held (by rw [e];rfl) hb,Option.bind_some]
  simp only
  rw [if_pos ⟨rfl,by rw [← e1];exact e⟩]
theorem hGet_of {b:List UInt8} {p:HeldT × RS} (h:heldP ⟨true,b⟩=some p) (h1:p.2.done=true) (h2:imgW p.1=some b):hGet b=some p.1:=by
 unfold hGet;rw [h,Option.bind_some,if_pos ⟨h1,h2⟩]
theorem hGet_not {b:List UInt8} {p:HeldT × RS} (h:heldP ⟨true,b⟩=some p) (h1:¬(p.2.done=true∧imgW p.1=some b)):hGet b=none:=by
 unfold hGet;rw [h,Option.bind_some,if_neg h1]
theorem hGet_none {b:List UInt8} (h:heldP ⟨true,b⟩=none):hGet b=none:=by unfold hGet;rw [h];rfl
def refP {α:Type} (one:RS→α × RS):Nat→RS→List α × RS
 |0,s=>([],s)
 |n+1,s=>if (refP one n s).2.good=true then ((refP one n s).1++[(one (refP one n s).2).1],(one (refP one n s).2).2) else refP one n s
def rowF {α:Type} (one:RS→α × RS) (most:Int) (s:RS):List α × RS:=refP one (s.count most).1.toNat (s.count most).2
noncomputable def leafF (most:Int) (s:RS):LeafT × RS:=(((s.bytes most).1,(sGet ((s.bytes most).2.bytes most).1).getD [],()),((s.bytes most).2.bytes most).2)
def rootZ:RootT:=(0,0,0,[],[],())
noncomputable def rootF (most:Int) (s:RS):RootT × RS:=((rootGet (s.bytes most).1).getD rootZ,(s.bytes most).2)
noncomputable def evdF (most:Int) (s:RS):EvdT × RS:=((evdGet (s.bytes most).1).getD (rootZ,rootZ,()),(s.bytes most).2)
noncomputable def heldF (most:Int) (s:RS):HeldT × RS :=
 let a:=rowF (leafF most) most s
 let b:=rowF (rootF most) most a.2
 let c:=rowF (evdF most) most b.2
 let d:=rowF RS.num most c.2
 ((a.1,b.1,c.1,d.1,()),d.2)
def ReadsF {α:Type} (one:RS→α × RS) (enc:α→List UInt8) (x:α):Prop:=∀ t,one ⟨true,enc x++t⟩=(x,⟨true,t⟩)
theorem refP_rows {α:Type} {one:RS→α × RS} {enc:α→List UInt8} (l:List α) (t:List UInt8) (h:∀ x∈l,ReadsF one enc x):refP one l.length ⟨true,rowsB enc l++t⟩=(l,⟨true,t⟩):=by
 have key:∀ k,k≤l.length→refP one k ⟨true,rowsB enc l++t⟩=(l.take k,⟨true,rowsB enc (l.drop k)++t⟩):=by
  intro k
  induction k with
  |zero=>intro _;simp [refP]
  |succ k ih =>
   intro hk
   have hd:l.drop k=l[k]::l.drop (k+1):=List.drop_eq_getElem_cons hk;have h1:=h _ (List.getElem_mem (l:=l) (n:=k) (by omega)) (rowsB enc (l.drop (k+1))++t);rw [refP,ih (by omega),hd,rowsB_cons,List.append_assoc]
   simp only
   rw [if_pos trivial,h1,List.take_succ_eq_append_getElem (by omega)]
 rw [key _ (Nat.le_refl _)];simp [rowsB]
theorem rowF_rows {α:Type} {one:RS→α × RS} {enc:α→List UInt8} {most:Int} (l:List α) (t:List UInt8) (hl:(l.length:Int)≤most) (hm:most≤9223372036854775807) (h:∀ x∈l,ReadsF one enc x):rowF one most ⟨true,be l.length++(rowsB enc l++t)⟩=(l,⟨true,t⟩):=by
 unfold rowF;rw [RS.count_be ⟨by omega,by omega⟩ (by omega) hl];simp only [Int.toNat_natCast];exact refP_rows l t h
theorem heldF_held {h:HeldT} (e:(imgW h).isSome=true) (hb:(heldB h).length≤1000000000):heldF (heldB h).length ⟨true,heldB h⟩=(h,⟨true,[]⟩):=by
 obtain ⟨p0,p1,p2⟩:=imgW_all e;have p3:=imgW_shut e;obtain ⟨l0,l1,l2,l3,l4⟩:=heldB_lens h;have hlen:(heldB h).length=32+(rowsB leafB h.1).length+(rowsB (fun x=>bytesOf (rootB x)) h.2.1).length+(rowsB (fun x=>bytesOf (evdB x)) h.2.2.1).length+(rowsB be h.2.2.2.1).length:=by
  simp only [heldB,List.length_append,be_length];omega
 generalize hM:((heldB h).length:Int)=M;have q0:∀ x∈h.1,ReadsF (leafF M) leafB x:=fun x hx t=>by
  have h1:=(p0 x hx).1;have h2:=l4 x hx;have h3:leafB x∈h.1.map leafB:=List.mem_map_of_mem hx;have h4:(leafB x).length≤(rowsB leafB h.1).length:=by
   unfold rowsB;exact (List.sublist_flatten_of_mem h3).length_le
  have h5:(leafB x).length=16+x.1.length+(sB x.2.1).length:=by simp [leafB];omega
  unfold leafF leafB;rw [List.append_assoc,RS.bytes_of (by omega) (by omega)]
  simp only
  rw [RS.bytes_of (by omega) (by omega)]
  simp only
  rw [(sGet_iff (by omega)).2 ⟨(p0 x hx).2,rfl⟩];rfl
 have q1:∀ x∈h.2.1,ReadsF (rootF M) (fun x=>bytesOf (rootB x)) x:=fun x hx t=>by
  have h1:=rootB_length (p1 x hx);have h3:bytesOf (rootB x)∈h.2.1.map (fun x=>bytesOf (rootB x)):=List.mem_map_of_mem (f:=fun x=>bytesOf (rootB x)) hx;have h4:(bytesOf (rootB x)).length≤(rowsB (fun x=>bytesOf (rootB x)) h.2.1).length:=by
   unfold rowsB;exact (List.sublist_flatten_of_mem h3).length_le
  rw [bytesOf_length] at h4;unfold rootF;rw [RS.bytes_of (by omega) (by omega)]
  simp only
  rw [rootGet_some (p1 x hx)];rfl
 have q2:∀ x∈h.2.2.1,ReadsF (evdF M) (fun x=>bytesOf (evdB x)) x:=fun x hx t=>by
  have h1:=evdB_length (p2 x hx);have h3:bytesOf (evdB x)∈h.2.2.1.map (fun x=>bytesOf (evdB x)):=List.mem_map_of_mem (f:=fun x=>bytesOf (evdB x)) hx;have h4:(bytesOf (evdB x)).length≤(rowsB (fun x=>bytesOf (evdB x)) h.2.2.1).length:=by
   unfold rowsB;exact (List.sublist_flatten_of_mem h3).length_le
  rw [bytesOf_length] at h4;unfold evdF;rw [RS.bytes_of (by omega) (by omega)]
  simp only
  rw [evdGet_iff.2 ⟨p2 x hx,rfl⟩];rfl
 unfold heldF;rw [← List.append_nil (heldB h),heldB_eq,rowF_rows (enc:=leafB) h.1 _ (by omega) (by omega) q0]
 simp only
 rw [rowF_rows (enc:=fun x=>bytesOf (rootB x)) h.2.1 _ (by omega) (by omega) q1]
 simp only
 rw [rowF_rows (enc:=fun x=>bytesOf (evdB x)) h.2.2.1 _ (by omega) (by omega) q2]
 simp only
 rw [rowF_rows (enc:=be) h.2.2.2.1 _ (by omega) (by omega) fun x hx t=>RS.num_be (p3 x hx) t]
theorem hGet_F {b:List UInt8} (hb:b.length≤1000000000):hGet b=if (heldF b.length ⟨true,b⟩).2.done=true∧imgW (heldF b.length ⟨true,b⟩).1=some b then some (heldF b.length ⟨true,b⟩).1 else none:=by
 split
 ·rename_i c;exact (hGet_iff hb).2 c.2
 ·rename_i c
  cases e:hGet b with
  |none=>rfl
  |some h =>
   have e1:=(hGet_iff hb).1 e;have e2:=imgW_out e1;have e3:=heldF_held (h:=h) (by rw [e1];rfl) (by rw [← e2];exact hb);rw [← e2] at e3;rw [e3] at c;exact absurd ⟨rfl,e1⟩ c
end Go.Sp
end
section
/- Texts of this proof. -/
namespace Go.Sp
section
variable {ro:Option Nat} {P:Program} {fn:Func} {n:Nat} {R:Ending→World→Prop} {k:List Item} {σ:List (Nat × Value)} {D:List Deferred} {g:Gr} {η ζ:List SProp} {ops:Array Oper} {t e e' :TypeId} {x:Operand} {v:Value} {xs:List UInt8}
theorem Does.toE {op:Op} {η' :List SProp} {u:Value} (h:Does P op σ g η u η'):DoesE P op σ g η fun v η'' =>v=u∧η'' =η' :=
 fun o ρ w h1 h2 h3=>let ⟨w',a,b⟩:=h o ρ w h1 h2 h3;⟨u,w',η',⟨rfl,rfl⟩,a,b⟩
theorem DoesE.toStrO {t2:TypeId} (ht:P.underlying t=some (.slice e)) (he:P.underlying e=some (.int .u8)) (ht2:P.underlying t2=some .string) (hx:ev σ x=some v) :
  DoesE P (.convert t t2 x) σ g (OwnP Rp.u8 e' v xs::η) fun u η' =>∃ η₁,(u=.string (str xs)∧η₁=η)∧η' =OwnP Rp.u8 e' v xs::η₁ :=
 DoesE.borrow fun m hm hd=>Does.toE (Does.toStr (g:=g.add m) ht he ht2 hx (hm.arr.right hd))
theorem ODg.toStrO {fl:Bool} {i d:Nat} {t2:TypeId} {l:List Nat} (ho:Fires ops i n σ d (.convert t t2 x)) (hd:hdOk fl ops i l=true) (ht:P.underlying t=some (.slice e)) (he:P.underlying e=some (.int .u8)) (ht2:P.underlying t2=some .string) (hx:ev σ x=some v)
  (hs:Sel η (OwnP Rp.u8 e' v xs) ζ) (h:OD P fn n R ops k D g l ((d,.string (str xs))::σ) η):ODx P fn n R ops k D g fl (i::l) σ η :=
 ODx.perm hs.perm (ODg.loudE (η:=OwnP Rp.u8 e' v xs::ζ) (K:=fun u η' =>u=.string (str xs)∧η' =OwnP Rp.u8 e' v xs::ζ) ho rfl hd
  (fun θ=>(DoesE.toStrO (η:=ζ++θ) ht he ht2 hx).imp fun _ _ ⟨_,⟨a,b⟩,c⟩=>⟨_,⟨a,rfl⟩,by rw [c,b];rfl⟩) (by rintro _ _ ⟨rfl,rfl⟩;exact ODx.perm hs.perm.symm h))
theorem OD.toStrO {i d:Nat} {t2:TypeId} {l:List Nat} (ho:Fires ops i n σ d (.convert t t2 x)) (hd:descOk ops [i] l=true) (ht:P.underlying t=some (.slice e)) (he:P.underlying e=some (.int .u8)) (ht2:P.underlying t2=some .string) (hx:ev σ x=some v)
  (hs:Sel η (OwnP Rp.u8 e' v xs) ζ) (h:OD P fn n R ops k D g l ((d,.string (str xs))::σ) η):OD P fn n R ops k D g (i::l) σ η:=ODg.toStrO (fl:=false) ho (by simpa [hdOk] using hd) ht he ht2 hx hs h
theorem ODt.toStrO {i d:Nat} {t2:TypeId} {l:List Nat} (ho:Fires ops i n σ d (.convert t t2 x)) (_:true=true) (ht:P.underlying t=some (.slice e)) (he:P.underlying e=some (.int .u8)) (ht2:P.underlying t2=some .string) (hx:ev σ x=some v)
  (hs:Sel η (OwnP Rp.u8 e' v xs) ζ) (h:OD P fn n R ops k D g l ((d,.string (str xs))::σ) η):ODx P fn n R ops k D g true (i::l) σ η:=ODg.toStrO (fl:=true) ho rfl ht he ht2 hx hs h
theorem O.toStrO {i d:Nat} {t2:TypeId} {l:List Nat} (ho:Fires ops i n σ d (.convert t t2 x)) (ht:P.underlying t=some (.slice e)) (he:P.underlying e=some (.int .u8)) (ht2:P.underlying t2=some .string) (hx:ev σ x=some v)
  (hs:Sel η (OwnP Rp.u8 e' v xs) ζ) (h:O ro P fn n R ops l k ((d,.string (str xs))::σ) D g η):O ro P fn n R ops (i::l) k σ D g η :=
 O.sel hs (O.opE ho (DoesE.toStrO ht he ht2 hx) (by rintro _ _ ⟨_,⟨rfl,rfl⟩,rfl⟩;exact O.perm hs.perm.symm h))
end
end Go.Sp
end
end
end
