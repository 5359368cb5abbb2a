/- Texts of this proof, one behind the other. -/
import Derived.Test.YtdjoggpacmpfnaaGreatDoorQSpLaid
section
/- Texts of this proof, one behind the other. -/
section
/- Texts of this proof. -/
namespace Go.Sp
theorem acq {most:Int} {s:RS}:∀ {n:Nat} {p:List aV × RS},vg most n s=some p→p.2.rest.length≤s.rest.length
 |0,_,h=>by cases h;exact Nat.le_refl _
 |n+1,p,h=>by
  obtain ⟨q,hq,h⟩:=Option.bind_eq_some_iff.1 h;obtain ⟨x,_,rfl⟩:=Option.map_eq_some_iff.1 h;exact Nat.le_trans (RS.pI _ _) (acq hq)
theorem PZ {α:Type} {one:RS→Option (α × RS)} {s:RS}:∀ {n:Nat} {p:List α × RS},si one n s=some p→p.1.length=n
 |0,_,h=>by cases h;rfl
 |n+1,p,h=>by
  obtain ⟨q,hq,h⟩:=Option.bind_eq_some_iff.1 h
  split at h
  ·obtain ⟨x,_,rfl⟩:=Option.map_eq_some_iff.1 h
   simp [PZ hq]
  ·cases h
theorem JX {α:Type} {one:RS→Option (α × RS)} (ho:∀ s q,one s=some q→q.2.rest.length≤s.rest.length) {s:RS}:∀ {n:Nat} {p:List α × RS},si one n s=some p→p.2.rest.length≤s.rest.length
 |0,_,h=>by cases h;exact Nat.le_refl _
 |n+1,p,h=>by
  obtain ⟨q,hq,h⟩:=Option.bind_eq_some_iff.1 h
  split at h
  ·obtain ⟨x,hx,rfl⟩:=Option.map_eq_some_iff.1 h
   exact Nat.le_trans (ho _ _ hx) (JX ho hq)
  ·cases h
theorem Yk:∀ (s:RS) (q:eL × RS),Dd s=some q→q.2.rest.length≤s.rest.length:=fun s q h=>by
 obtain ⟨l,_,rfl⟩:=Option.map_eq_some_iff.1 h;exact Nat.le_trans (RS.pI _ _) (RS.pI _ _)
end Go.Sp
end
section
/- Texts of this proof. -/
namespace Go.Sp
theorem ab4 {l:List aV} (h:ez l) (hb:(dc l).length≤1000000000):yP (dc l)=some l:=(JP (by omega)).2 ⟨h,rfl⟩
end Go.Sp
end
end
section
/- Texts of this proof. -/
namespace Go.Sp
def en:fT:=([],[],())
def ek:eY:=(0,[],[],[],())
def ef:gh:=(dL,dL,())
def fL (s:List UInt8):Prop:=1≤s.length∧s.length≤64
def lu (s:List UInt8):Prop:=s.length≤510∧∀ c∈s,c=48∨c=49
def uX {α:Type} (key:α→List UInt8) (l:List α):Prop:=∀ i (h:i<l.length),0<i→key (l[i - 1]'(by omega))<key l[i]
def lM (x:eL):Prop:=fL x.1∧ez x.2.1∧∃ h:0<x.2.1.length,x.2.1[0].1=x.1
def gA (n:eY):Prop:=((∀ x∈n.2.2.2.1,lM x)∧uX (·.1) n.2.2.2.1)∧(n.1=1∧n.2.1=[]∧n.2.2.1=[]∧n.2.2.2.1=[]∨n.1=2∧n.2.1=[]∧n.2.2.1=[]∧n.2.2.2.1.length=1∨n.1=3∧n.2.1.length=64∧n.2.2.1.length=64∧n.2.2.2.1=[]∨n.1=4∧n.2.1=[]∧n.2.2.1=[]∧2≤n.2.2.2.1.length)
def wX (s:gv):Prop:=fL s.1∧s.2.1.length=64
def js (p:fT):Prop:=(p.1.length≤510∧(1<p.2.1.length→p.1.length=510))∧(∀ x∈p.1,x.length=64)∧(∀ x∈p.2.1,wX x)∧uX (·.1) p.2.1
noncomputable instance (s:List UInt8):Decidable (fL s):=Classical.propDecidable _
noncomputable instance (s:List UInt8):Decidable (lu s):=Classical.propDecidable _
noncomputable instance (n:eY):Decidable (gA n):=Classical.propDecidable _
noncomputable instance (p:fT):Decidable (js p):=Classical.propDecidable _
def er (s:gv):List UInt8:=bytesOf s.1++bytesOf s.2.1
def kz (n:eY):List UInt8:=be (n.1.toNat:Int)++(bytesOf n.2.1++(bytesOf n.2.2.1++(be n.2.2.2.1.length++bh eB n.2.2.2.1)))
def iB (p:fT):List UInt8:=be p.1.length++(bh bytesOf p.1++(be p.2.1.length++bh er p.2.1))
def kindOk (f:aP):Prop :=
 f.1=1∧(0≤f.2.2.1∧f.2.2.1<4)∨f.1=2∧(dR f.2.2.2.2.2.1=true∧f.2.2.2.2.2.2.1.length=64)∨f.1=3∧lu f.2.2.2.2.1∨f.1=4∧(lu f.2.2.2.2.1∧gA f.2.2.2.2.2.2.2.2.1)∨f.1=5∧(∃ x,f.2.2.2.2.2.2.2.2.2.1=[x]∧fF x=true) ∨
 f.1=6∧(0≤f.2.2.2.2.2.2.2.2.2.2.2.1∧f.2.2.2.2.2.2.2.2.2.2.2.1≤255)∨f.1=7∧fL f.2.2.2.1∨f.1=8∧(fL f.2.2.2.1∧dR f.2.2.2.2.2.1=true∧js f.2.2.2.2.2.2.2.1∧ez f.2.2.2.2.2.2.2.2.2.1∧∀ h:0<f.2.2.2.2.2.2.2.2.2.1.length,f.2.2.2.2.2.2.2.2.2.1[0].1=f.2.2.2.1)∨f.1=9∧k6 f.2.2.2.2.2.2.2.2.2.2.1=true
def ec (f:aP):aP:=if f.1=1 then (f.1,f.2.1,f.2.2.1,[],[],dL,[],en,ek,[],ef,0,()) else if f.1=2 then (f.1,f.2.1,0,[],[],f.2.2.2.2.2.1,f.2.2.2.2.2.2.1,en,ek,[],ef,0,()) else if f.1=3 then (f.1,f.2.1,0,[],f.2.2.2.2.1,dL,[],en,ek,[],ef,0,()) else if f.1=4 then (f.1,f.2.1,0,[],f.2.2.2.2.1,dL,[],en,f.2.2.2.2.2.2.2.2.1,[],ef,0,()) else if f.1=5 then (f.1,f.2.1,0,[],[],dL,[],en,ek,f.2.2.2.2.2.2.2.2.2.1,ef,0,()) else if f.1=6 then (f.1,f.2.1,0,[],[],dL,[],en,ek,[],ef,f.2.2.2.2.2.2.2.2.2.2.2.1,()) else if f.1=7 then (f.1,f.2.1,0,f.2.2.2.1,[],dL,[],en,ek,[],ef,0,()) else if f.1=8 then (f.1,f.2.1,0,f.2.2.2.1,[],f.2.2.2.2.2.1,[],f.2.2.2.2.2.2.2.1,ek,f.2.2.2.2.2.2.2.2.2.1,ef,0,()) else if f.1=9 then (f.1,f.2.1,0,[],[],dL,[],en,ek,[],f.2.2.2.2.2.2.2.2.2.2.1,0,()) else (f.1,f.2.1,0,[],[],dL,[],en,ek,[],ef,0,())
def g_ (f:aP):Prop:=(kindOk f∧0≤f.2.1∧f.2.1≤1073741824)∧f=ec f
noncomputable instance (f:aP):Decidable (g_ f):=Classical.propDecidable _
noncomputable instance (f:aP):Decidable (kindOk f):=Classical.propDecidable _
def cE (f:aP):List UInt8:=if f.1=1 then be f.2.2.1 else if f.1=2 then bytesOf (bM f.2.2.2.2.2.1)++bytesOf f.2.2.2.2.2.2.1 else if f.1=3 then bytesOf f.2.2.2.2.1 else if f.1=4 then bytesOf f.2.2.2.2.1++kz f.2.2.2.2.2.2.2.2.1 else if f.1=5 then bytesOf (f.2.2.2.2.2.2.2.2.2.1.map cm).flatten else if f.1=6 then be f.2.2.2.2.2.2.2.2.2.2.2.1 else if f.1=7 then bytesOf f.2.2.2.1 else if f.1=8 then bytesOf f.2.2.2.1++(bytesOf (bM f.2.2.2.2.2.1)++(iB f.2.2.2.2.2.2.2.1++bytesOf (dc f.2.2.2.2.2.2.2.2.2.1))) else if f.1=9 then bytesOf (j0 f.2.2.2.2.2.2.2.2.2.2.1) else []
def di (f:aP):List UInt8:=f.1::(be f.2.1++cE f)
noncomputable def e9 (f:aP):List UInt8:=if g_ f∧(di f).length≤262144 then di f else []
noncomputable def jj (f:aP):Int:=if g_ f then (if (di f).length≤262144 then 0 else 3) else 4
def D1 (s:RS):Option (List UInt8 × RS):=some (s.bytes c5)
def D3 (s:RS):Option (gv × RS):=some (((s.bytes c5).1,((s.bytes c5).2.bytes c5).1,()),((s.bytes c5).2.bytes c5).2)
def wU {α:Type} (one:RS→Option (α × RS)) (most:Int) (s:RS):Option (List α × RS):=si one (s.count most).1.toNat (s.count most).2
theorem JK {α:Type} {one:RS→Option (α × RS)} {enc:α→List UInt8} {most:Int} (l:List α) (t:List UInt8) (hl:(l.length:Int)≤most) (hm:most≤9223372036854775807) (h:∀ x∈l,Reads one enc x):wU one most ⟨true,be l.length++(bh enc l++t)⟩=some (l,⟨true,t⟩):=by
 unfold wU;rw [RS.Ch ⟨by omega,by omega⟩ (by omega) hl];simp only [Int.toNat_natCast];exact acI l t h
noncomputable def AR (s:RS):Option (eY × RS) :=
 let a:=s.count 255;let l:=a.2.bytes c5;let r:=l.2.bytes c5
 (wU Dd 16384 r.2).map fun p=>((UInt8.ofNat a.1.toNat,l.1,r.1,p.1,()),p.2)
noncomputable def A4 (s:RS):Option (fT × RS):=(wU D1 32768 s).bind fun a=>(wU D3 16384 a.2).map fun b=>((a.1,b.1,()),b.2)
noncomputable def JS (s:RS):Option (List aV × RS):=(yP (s.bytes c5).1).map fun l=>(l,(s.bytes c5).2)
noncomputable def kL (k:UInt8) (n:Int) (s:RS):Option (aP × RS) :=
 if k=1 then some ((1,n,s.num.1,[],[],dL,[],en,ek,[],ef,0,()),s.num.2) else
 if k=2 then (Ds s).map fun r=>((2,n,0,[],[],r.1,(r.2.bytes c5).1,en,ek,[],ef,0,()),(r.2.bytes c5).2) else
 if k=3 then some ((3,n,0,[],(s.bytes c5).1,dL,[],en,ek,[],ef,0,()),(s.bytes c5).2) else
 if k=4 then (AR (s.bytes c5).2).map fun p=>((4,n,0,[],(s.bytes c5).1,dL,[],en,p.1,[],ef,0,()),p.2) else
 if k=5 then (vb (s.bytes c5).1).map fun x=>((5,n,0,[],[],dL,[],en,ek,[x],ef,0,()),(s.bytes c5).2) else
 if k=6 then some ((6,n,0,[],[],dL,[],en,ek,[],ef,s.num.1,()),s.num.2) else
 if k=7 then some ((7,n,0,(s.bytes c5).1,[],dL,[],en,ek,[],ef,0,()),(s.bytes c5).2) else
 if k=8 then (Ds (s.bytes c5).2).bind fun r=>(A4 r.2).bind fun p=>(JS p.2).map fun q=>((8,n,0,(s.bytes c5).1,[],r.1,[],p.1,ek,q.1,ef,0,()),q.2) else
 if k=9 then (Jf s).map fun e=>((9,n,0,[],[],dL,[],en,ek,[],e.1,0,()),e.2) else
 none
noncomputable def oa (b:List UInt8):Option (aP × RS):=kL (RS.mk true b).byte.1 (RS.mk true b).byte.2.num.1 (RS.mk true b).byte.2.num.2
noncomputable def oT (b:List UInt8):Option aP:=(oa b).bind fun p=>if p.2.done=true∧g_ p.1∧di p.1=b then some p.1 else none
theorem acC {x:List UInt8} (h:x.length≤1000000000):Reads D1 bytesOf x:=fun t=>by
 unfold D1;rw [RS.ki (by unfold c5;omega) (by omega)]
theorem acT {x:gv} (h:x.1.length≤1000000000) (h' :x.2.1.length≤1000000000):Reads D3 er x:=fun t=>by
 unfold D3 er;rw [List.append_assoc,RS.ki (by unfold c5;omega) (by omega)]
 simp only
 rw [RS.ki (by unfold c5;omega) (by omega)]
theorem abI {α:Type} {b:α→List UInt8} {l:List α} {x:α} (h:x∈l):(b x).length≤(bh b l).length:=by
 obtain ⟨p,q,rfl⟩:=List.append_of_mem h;simp only [bh,List.map_append,List.map_cons,List.flatten_append,List.flatten_cons,List.length_append];omega
theorem O_ {α:Type} {b:α→List UInt8} {K:Nat} (hb:∀ x,K≤(b x).length) (l:List α):K*l.length≤(bh b l).length:=by
 induction l with
 |nil=>simp
 |cons x l ih=>rw [O9,List.length_append,List.length_cons,Nat.mul_succ];have:=hb x;omega
theorem Yj (x:eL):16≤(eB x).length:=by simp [eB];omega
theorem acR (x:gv):16≤(er x).length:=by simp [er];omega
theorem Zd {n:eY} (h:gA n) (hb:(kz n).length≤262144) (t:List UInt8):AR ⟨true,kz n++t⟩=some (n,⟨true,t⟩):=by
 obtain ⟨⟨h1,_⟩,h2⟩:=h;have e:kz n++t=be (n.1.toNat:Int)++(bytesOf n.2.1++(bytesOf n.2.2.1++(be n.2.2.2.1.length++(bh eB n.2.2.2.1++t)))):=by simp [kz]
 have hl:(kz n).length=8+((bytesOf n.2.1).length+((bytesOf n.2.2.1).length+(8+(bh eB n.2.2.2.1).length))):=by simp [kz]
 have hm:=O_ Yj n.2.2.2.1;have hu:=n.1.toNat_lt;simp only [fI] at hl;rw [e];unfold AR;rw [RS.Ch ⟨by omega,by omega⟩ (by omega) (by omega)]
 simp only
 rw [RS.ki (by unfold c5;omega) (by omega)]
 simp only
 rw [RS.ki (by unfold c5;omega) (by omega)]
 simp only
 rw [JK n.2.2.2.1 t (by omega) (by omega) fun x hx=>by
  have:=abI (b:=eB) hx;have e2:(eB x).length=8+x.1.length+(8+(dc x.2.1).length):=by simp [eB]
  exact Yl (h1 x hx).1.2 (h1 x hx).2.1 (by omega)]
 simp only [Option.map_some,Int.toNat_natCast];have:UInt8.ofNat n.1.toNat=n.1:=by simp
 rw [this]
theorem Z_ {p:fT} (h:js p) (hb:(iB p).length≤262144) (t:List UInt8):A4 ⟨true,iB p++t⟩=some (p,⟨true,t⟩):=by
 obtain ⟨⟨h1,_⟩,h2,h3,_⟩:=h;have e:iB p++t=be p.1.length++(bh bytesOf p.1++(be p.2.1.length++(bh er p.2.1++t))):=by simp [iB]
 have hl:(iB p).length=8+((bh bytesOf p.1).length+(8+(bh er p.2.1).length)):=by simp [iB]
 have hm:=O_ acR p.2.1;rw [e];unfold A4;rw [JK p.1 _ (by omega) (by omega) fun x hx=>acC (by have:=h2 x hx;omega)];simp only [Option.bind_some];rw [JK p.2.1 t (by omega) (by omega) fun x hx=>acT (by have:=(h3 x hx).1.2;omega) (by have:=(h3 x hx).2;omega)]
 rfl
theorem acv {l:List aV} (h:ez l) (hb:(dc l).length≤1000000000) (t:List UInt8):JS ⟨true,bytesOf (dc l)++t⟩=some (l,⟨true,t⟩):=by
 unfold JS;rw [RS.ki (by unfold c5;omega) (by omega)]
 simp only
 rw [ab4 h hb];rfl
theorem Ty {f:aP} (h:g_ f) (hi:aS f.2.2.1∧aS f.2.2.2.2.2.2.2.2.2.2.2.1) (hb:(cE f).length≤262144) (t:List UInt8):kL f.1 f.2.1 ⟨true,cE f++t⟩=some (f,⟨true,t⟩):=by
 obtain ⟨⟨h1,_,_⟩,h2⟩:=h
 rcases h1 with ⟨e,c⟩|h1
 ·skip
  have e1:cE f=be f.2.2.1:=by unfold cE;rw [if_pos e]
  have e2:f=(f.1,f.2.1,f.2.2.1,[],[],dL,[],en,ek,[],ef,0,()):=h2.trans (by unfold ec;rw [if_pos e]);rw [e1] at hb ⊢;unfold kL;rw [if_pos e];rw [RS.r3 hi.1]
  conv=>rhs;rw [e2]
  rw [e]
 rcases h1 with ⟨e,c⟩|h1
 ·skip
  have e1:cE f=bytesOf (bM f.2.2.2.2.2.1)++bytesOf f.2.2.2.2.2.2.1:=by unfold cE;rw [if_neg (by rw [e];decide),if_pos e]
  have e2:f=(f.1,f.2.1,0,[],[],f.2.2.2.2.2.1,f.2.2.2.2.2.2.1,en,ek,[],ef,0,()):=h2.trans (by unfold ec;rw [if_neg (by rw [e];decide),if_pos e]);rw [e1] at hb ⊢;unfold kL;rw [if_neg (by rw [e];decide),if_pos e];rw [List.append_assoc,Oy c.1];simp only [Option.map_some];rw [RS.ki (by unfold c5;omega) (by omega)]
  conv=>rhs;rw [e2]
  rw [e]
 rcases h1 with ⟨e,c⟩|h1
 ·skip
  have e1:cE f=bytesOf f.2.2.2.2.1:=by unfold cE;rw [if_neg (by rw [e];decide),if_neg (by rw [e];decide),if_pos e]
  have e2:f=(f.1,f.2.1,0,[],f.2.2.2.2.1,dL,[],en,ek,[],ef,0,()):=h2.trans (by unfold ec;rw [if_neg (by rw [e];decide),if_neg (by rw [e];decide),if_pos e]);rw [e1] at hb ⊢;unfold kL;rw [if_neg (by rw [e];decide),if_neg (by rw [e];decide),if_pos e];rw [RS.ki (by have:=c.1;unfold c5;omega) (by have:=c.1;omega)]
  conv=>rhs;rw [e2]
  rw [e]
 rcases h1 with ⟨e,c⟩|h1
 ·skip
  have e1:cE f=bytesOf f.2.2.2.2.1++kz f.2.2.2.2.2.2.2.2.1:=by unfold cE;rw [if_neg (by rw [e];decide),if_neg (by rw [e];decide),if_neg (by rw [e];decide),if_pos e]
  have e2:f=(f.1,f.2.1,0,[],f.2.2.2.2.1,dL,[],en,f.2.2.2.2.2.2.2.2.1,[],ef,0,()):=h2.trans (by unfold ec;rw [if_neg (by rw [e];decide),if_neg (by rw [e];decide),if_neg (by rw [e];decide),if_pos e]);rw [e1] at hb ⊢;unfold kL;rw [if_neg (by rw [e];decide),if_neg (by rw [e];decide),if_neg (by rw [e];decide),if_pos e];rw [List.append_assoc,RS.ki (by have:=c.1.1;unfold c5;omega) (by have:=c.1.1;omega)]
  simp only
  rw [Zd c.2 (by rw [List.length_append] at hb;omega)];simp only [Option.map_some]
  conv=>rhs;rw [e2]
  rw [e]
 rcases h1 with ⟨e,c⟩|h1
 ·skip
  have e1:cE f=bytesOf (f.2.2.2.2.2.2.2.2.2.1.map cm).flatten:=by unfold cE;rw [if_neg (by rw [e];decide),if_neg (by rw [e];decide),if_neg (by rw [e];decide),if_neg (by rw [e];decide),if_pos e]
  have e2:f=(f.1,f.2.1,0,[],[],dL,[],en,ek,f.2.2.2.2.2.2.2.2.2.1,ef,0,()):=h2.trans (by unfold ec;rw [if_neg (by rw [e];decide),if_neg (by rw [e];decide),if_neg (by rw [e];decide),if_neg (by rw [e];decide),if_pos e]);rw [e1] at hb ⊢;unfold kL;rw [if_neg (by rw [e];decide),if_neg (by rw [e];decide),if_neg (by rw [e];decide),if_neg (by rw [e];decide),if_pos e];obtain ⟨x,c1,c2⟩:=c;have c3:=q3 c2;rw [show (f.2.2.2.2.2.2.2.2.2.1.map cm).flatten=cm x from by rw [c1];simp,RS.ki (by unfold c5;omega) (by omega)]
  simp only
  rw [JB c2];simp only [Option.map_some];rw [← c1]
  conv=>rhs;rw [e2]
  rw [e]
 rcases h1 with ⟨e,c⟩|h1
 ·skip
  have e1:cE f=be f.2.2.2.2.2.2.2.2.2.2.2.1:=by unfold cE;rw [if_neg (by rw [e];decide),if_neg (by rw [e];decide),if_neg (by rw [e];decide),if_neg (by rw [e];decide),if_neg (by rw [e];decide),if_pos e]
  have e2:f=(f.1,f.2.1,0,[],[],dL,[],en,ek,[],ef,f.2.2.2.2.2.2.2.2.2.2.2.1,()):=h2.trans (by unfold ec;rw [if_neg (by rw [e];decide),if_neg (by rw [e];decide),if_neg (by rw [e];decide),if_neg (by rw [e];decide),if_neg (by rw [e];decide),if_pos e]);rw [e1] at hb ⊢;unfold kL;rw [if_neg (by rw [e];decide),if_neg (by rw [e];decide),if_neg (by rw [e];decide),if_neg (by rw [e];decide),if_neg (by rw [e];decide),if_pos e];rw [RS.r3 hi.2]
  conv=>rhs;rw [e2]
  rw [e]
 rcases h1 with ⟨e,c⟩|h1
 ·skip
  have e1:cE f=bytesOf f.2.2.2.1:=by unfold cE;rw [if_neg (by rw [e];decide),if_neg (by rw [e];decide),if_neg (by rw [e];decide),if_neg (by rw [e];decide),if_neg (by rw [e];decide),if_neg (by rw [e];decide),if_pos e]
  have e2:f=(f.1,f.2.1,0,f.2.2.2.1,[],dL,[],en,ek,[],ef,0,()):=h2.trans (by unfold ec;rw [if_neg (by rw [e];decide),if_neg (by rw [e];decide),if_neg (by rw [e];decide),if_neg (by rw [e];decide),if_neg (by rw [e];decide),if_neg (by rw [e];decide),if_pos e]);rw [e1] at hb ⊢;unfold kL;rw [if_neg (by rw [e];decide),if_neg (by rw [e];decide),if_neg (by rw [e];decide),if_neg (by rw [e];decide),if_neg (by rw [e];decide),if_neg (by rw [e];decide),if_pos e];rw [RS.ki (by have:=c.2;unfold c5;omega) (by have:=c.2;omega)]
  conv=>rhs;rw [e2]
  rw [e]
 rcases h1 with ⟨e,c⟩|h1
 ·skip
  have e1:cE f=bytesOf f.2.2.2.1++(bytesOf (bM f.2.2.2.2.2.1)++(iB f.2.2.2.2.2.2.2.1++bytesOf (dc f.2.2.2.2.2.2.2.2.2.1))):=by unfold cE;rw [if_neg (by rw [e];decide),if_neg (by rw [e];decide),if_neg (by rw [e];decide),if_neg (by rw [e];decide),if_neg (by rw [e];decide),if_neg (by rw [e];decide),if_neg (by rw [e];decide),if_pos e]
  have e2:f=(f.1,f.2.1,0,f.2.2.2.1,[],f.2.2.2.2.2.1,[],f.2.2.2.2.2.2.2.1,ek,f.2.2.2.2.2.2.2.2.2.1,ef,0,()):=h2.trans (by unfold ec;rw [if_neg (by rw [e];decide),if_neg (by rw [e];decide),if_neg (by rw [e];decide),if_neg (by rw [e];decide),if_neg (by rw [e];decide),if_neg (by rw [e];decide),if_neg (by rw [e];decide),if_pos e]);rw [e1] at hb ⊢;unfold kL;rw [if_neg (by rw [e];decide),if_neg (by rw [e];decide),if_neg (by rw [e];decide),if_neg (by rw [e];decide),if_neg (by rw [e];decide),if_neg (by rw [e];decide),if_neg (by rw [e];decide),if_pos e];obtain ⟨c1,c2,c3,bR,_⟩:=c;simp only [List.length_append,fI] at hb;simp only [List.append_assoc];rw [RS.ki (by unfold c5;omega) (by omega)]
  simp only
  rw [Oy c2];simp only [Option.bind_some];rw [Z_ c3 (by omega)];simp only [Option.bind_some];rw [acv bR (by omega)];simp only [Option.map_some]
  conv=>rhs;rw [e2]
  rw [e]
 obtain ⟨e,c⟩:=h1
 skip
 have e1:cE f=bytesOf (j0 f.2.2.2.2.2.2.2.2.2.2.1):=by unfold cE;rw [if_neg (by rw [e];decide),if_neg (by rw [e];decide),if_neg (by rw [e];decide),if_neg (by rw [e];decide),if_neg (by rw [e];decide),if_neg (by rw [e];decide),if_neg (by rw [e];decide),if_neg (by rw [e];decide),if_pos e]
 have e2:f=(f.1,f.2.1,0,[],[],dL,[],en,ek,[],f.2.2.2.2.2.2.2.2.2.2.1,0,()):=h2.trans (by unfold ec;rw [if_neg (by rw [e];decide),if_neg (by rw [e];decide),if_neg (by rw [e];decide),if_neg (by rw [e];decide),if_neg (by rw [e];decide),if_neg (by rw [e];decide),if_neg (by rw [e];decide),if_neg (by rw [e];decide),if_pos e]);rw [e1] at hb ⊢;unfold kL;rw [if_neg (by rw [e];decide),if_neg (by rw [e];decide),if_neg (by rw [e];decide),if_neg (by rw [e];decide),if_neg (by rw [e];decide),if_neg (by rw [e];decide),if_neg (by rw [e];decide),if_neg (by rw [e];decide),if_pos e];rw [aac c];simp only [Option.map_some]
 conv=>rhs;rw [e2]
 rw [e]
theorem CE (f:aP):(di f).length=9+(cE f).length:=by simp [di];omega
theorem TA {f:aP} (h:g_ f):aS f.2.2.1∧aS f.2.2.2.2.2.2.2.2.2.2.2.1:=by
 obtain ⟨⟨h1,_,_⟩,h2⟩:=h
 rcases h1 with ⟨e,c⟩|h1
 ·skip
  have e2:f=(f.1,f.2.1,f.2.2.1,[],[],dL,[],en,ek,[],ef,0,()):=h2.trans (by unfold ec;rw [if_pos e]);exact ⟨⟨by omega,by omega⟩,by rw [e2];exact RS.cW⟩
 rcases h1 with ⟨e,c⟩|h1
 ·skip
  have e2:f=(f.1,f.2.1,0,[],[],f.2.2.2.2.2.1,f.2.2.2.2.2.2.1,en,ek,[],ef,0,()):=h2.trans (by unfold ec;rw [if_neg (by rw [e];decide),if_pos e]);exact ⟨by rw [e2];exact RS.cW,by rw [e2];exact RS.cW⟩
 rcases h1 with ⟨e,c⟩|h1
 ·skip
  have e2:f=(f.1,f.2.1,0,[],f.2.2.2.2.1,dL,[],en,ek,[],ef,0,()):=h2.trans (by unfold ec;rw [if_neg (by rw [e];decide),if_neg (by rw [e];decide),if_pos e]);exact ⟨by rw [e2];exact RS.cW,by rw [e2];exact RS.cW⟩
 rcases h1 with ⟨e,c⟩|h1
 ·skip
  have e2:f=(f.1,f.2.1,0,[],f.2.2.2.2.1,dL,[],en,f.2.2.2.2.2.2.2.2.1,[],ef,0,()):=h2.trans (by unfold ec;rw [if_neg (by rw [e];decide),if_neg (by rw [e];decide),if_neg (by rw [e];decide),if_pos e]);exact ⟨by rw [e2];exact RS.cW,by rw [e2];exact RS.cW⟩
 rcases h1 with ⟨e,c⟩|h1
 ·skip
  have e2:f=(f.1,f.2.1,0,[],[],dL,[],en,ek,f.2.2.2.2.2.2.2.2.2.1,ef,0,()):=h2.trans (by unfold ec;rw [if_neg (by rw [e];decide),if_neg (by rw [e];decide),if_neg (by rw [e];decide),if_neg (by rw [e];decide),if_pos e]);exact ⟨by rw [e2];exact RS.cW,by rw [e2];exact RS.cW⟩
 rcases h1 with ⟨e,c⟩|h1
 ·skip
  have e2:f=(f.1,f.2.1,0,[],[],dL,[],en,ek,[],ef,f.2.2.2.2.2.2.2.2.2.2.2.1,()):=h2.trans (by unfold ec;rw [if_neg (by rw [e];decide),if_neg (by rw [e];decide),if_neg (by rw [e];decide),if_neg (by rw [e];decide),if_neg (by rw [e];decide),if_pos e]);exact ⟨by rw [e2];exact RS.cW,⟨by omega,by omega⟩⟩
 rcases h1 with ⟨e,c⟩|h1
 ·skip
  have e2:f=(f.1,f.2.1,0,f.2.2.2.1,[],dL,[],en,ek,[],ef,0,()):=h2.trans (by unfold ec;rw [if_neg (by rw [e];decide),if_neg (by rw [e];decide),if_neg (by rw [e];decide),if_neg (by rw [e];decide),if_neg (by rw [e];decide),if_neg (by rw [e];decide),if_pos e]);exact ⟨by rw [e2];exact RS.cW,by rw [e2];exact RS.cW⟩
 rcases h1 with ⟨e,c⟩|h1
 ·skip
  have e2:f=(f.1,f.2.1,0,f.2.2.2.1,[],f.2.2.2.2.2.1,[],f.2.2.2.2.2.2.2.1,ek,f.2.2.2.2.2.2.2.2.2.1,ef,0,()):=h2.trans (by unfold ec;rw [if_neg (by rw [e];decide),if_neg (by rw [e];decide),if_neg (by rw [e];decide),if_neg (by rw [e];decide),if_neg (by rw [e];decide),if_neg (by rw [e];decide),if_neg (by rw [e];decide),if_pos e]);exact ⟨by rw [e2];exact RS.cW,by rw [e2];exact RS.cW⟩
 obtain ⟨e,c⟩:=h1
 skip
 have e2:f=(f.1,f.2.1,0,[],[],dL,[],en,ek,[],f.2.2.2.2.2.2.2.2.2.2.1,0,()):=h2.trans (by unfold ec;rw [if_neg (by rw [e];decide),if_neg (by rw [e];decide),if_neg (by rw [e];decide),if_neg (by rw [e];decide),if_neg (by rw [e];decide),if_neg (by rw [e];decide),if_neg (by rw [e];decide),if_neg (by rw [e];decide),if_pos e]);exact ⟨by rw [e2];exact RS.cW,by rw [e2];exact RS.cW⟩
theorem F5 {f:aP} (h:g_ f) (hb:(di f).length≤262144) (t:List UInt8):oa (di f++t)=some (f,⟨true,t⟩):=by
 have hl:=CE f;obtain ⟨⟨_,h0,h1⟩,_⟩:=id h;unfold oa di;rw [List.cons_append,RS.Fe]
 simp only
 rw [List.append_assoc,RS.r3 ⟨by omega,by omega⟩];exact Ty h (TA h) (by omega) t
theorem Tu {b:List UInt8} (hb:b.length≤262144) {f:aP}:oT b=some f↔g_ f∧di f=b:=by
 constructor
 ·intro h
  unfold oT at h;obtain ⟨p,_,h⟩:=Option.bind_eq_some_iff.1 h
  split at h
  ·rename_i c;cases h;exact c.2
  ·cases h
 ·rintro ⟨h,rfl⟩
  have:=F5 h hb [];rw [List.append_nil] at this;unfold oT;rw [this,Option.bind_some,if_pos ⟨rfl,h,rfl⟩]
theorem TK {f g:aP} {t:List UInt8} (hf:g_ f) (hg:g_ g) (hb:(di f).length≤262144) (e:di f=di g++t):f=g∧t=[]:=by
 have h1:=F5 hf hb [];have h2:=F5 hg (by rw [e,List.length_append] at hb;omega) t;rw [List.append_nil,e,h2] at h1;obtain ⟨h3,h4⟩:=Prod.mk.inj (Option.some.inj h1);exact ⟨h3.symm,(RS.mk.inj h4).2⟩
theorem Tv {f:aP} {t:List UInt8} (h:g_ f) (hb:(di f++t).length≤262144) (ht:t≠[]):oT (di f++t)=none:=by
 cases e:oT (di f++t) with
 |none=>rfl
 |some g =>
  obtain ⟨h1,h2⟩:=(Tu hb).1 e;exact absurd (TK h1 h (by rw [h2];exact hb) h2).2 ht
theorem ck.lp {h:Fr} {x0:UInt8} {x1:Int} {bC:Int} {c8:List UInt8} {cr:List UInt8} {dn:Int} {dr:Int} {dQ:Int} {mZ:List UInt8} {ey:Value} {m0:List UInt8} {eD:Value} {sr:List UInt8} {v10:Value} {su:List (List UInt8)} {v11:Value} {sv:List gv} {jx:Value} {kB:UInt8} {sw:List UInt8} {ic:Value} {sx:List UInt8} {iC:Value} {sy:List eL} {jc:Value} {sA:List aV} {ie:Value} {jP:Int} {jQ:Int} {jR:Int} {sB:List UInt8} {ig:Value} {sC:List UInt8} {iD:Value} {jS:Int} {jT:Int} {jU:Int} {sD:List UInt8} {ij:Value} {sE:List UInt8} {iE:Value} {jy:Int} (h1:aS x1:=by first|assumption|exact RS.cW|exact av.nil|decide) (h2:aS bC:=by first|assumption|exact RS.cW|exact av.nil|decide) (h3:c8.length≤9223372036854775807:=by first|assumption|exact RS.cW|exact av.nil|decide) (h4:cr.length≤9223372036854775807:=by first|assumption|exact RS.cW|exact av.nil|decide) (h5:aS dn:=by first|assumption|exact RS.cW|exact av.nil|decide) (h6:aS dr:=by first|assumption|exact RS.cW|exact av.nil|decide) (h7:aS dQ:=by first|assumption|exact RS.cW|exact av.nil|decide) (h8:av ag.u8 h ey mZ:=by first|assumption|exact RS.cW|exact av.nil|decide) (h9:av ag.u8 h eD m0:=by first|assumption|exact RS.cW|exact av.nil|decide) (h10:av ag.u8 h v10 sr:=by first|assumption|exact RS.cW|exact av.nil|decide) (h11:av (ag.slice ag.u8) h v11 su:=by first|assumption|exact RS.cW|exact av.nil|decide) (h12:av dZ h jx sv:=by first|assumption|exact RS.cW|exact av.nil|decide) (eH:av ag.u8 h ic sw:=by first|assumption|exact RS.cW|exact av.nil|decide) (kN:av ag.u8 h iC sx:=by first|assumption|exact RS.cW|exact av.nil|decide) (jk:av dJ h jc sy:=by first|assumption|exact RS.cW|exact av.nil|decide) (j3:av bu h ie sA:=by first|assumption|exact RS.cW|exact av.nil|decide) (s9:aS jP:=by first|assumption|exact RS.cW|exact av.nil|decide) (dz:aS jQ:=by first|assumption|exact RS.cW|exact av.nil|decide) (gI:aS jR:=by first|assumption|exact RS.cW|exact av.nil|decide) (rP:av ag.u8 h ig sB:=by first|assumption|exact RS.cW|exact av.nil|decide) (uM:av ag.u8 h iD sC:=by first|assumption|exact RS.cW|exact av.nil|decide) (h23:aS jS:=by first|assumption|exact RS.cW|exact av.nil|decide) (gJ:aS jT:=by first|assumption|exact RS.cW|exact av.nil|decide) (lG:aS jU:=by first|assumption|exact RS.cW|exact av.nil|decide) (pM:av ag.u8 h ij sD:=by first|assumption|exact RS.cW|exact av.nil|decide) (hG:av ag.u8 h iE sE:=by first|assumption|exact RS.cW|exact av.nil|decide) (k8:aS jy:=by first|assumption|exact RS.cW|exact av.nil|decide):ck.rel h [aT x0,.int .i64 x1,.int .i64 bC,.string (str c8),.string (str cr),.int .i64 dn,.int .i64 dr,.int .i64 dQ,ey,eD,v10,v11,jx,aT kB,ic,iC,jc,ie,.int .i64 jP,.int .i64 jQ,.int .i64 jR,ig,iD,.int .i64 jS,.int .i64 jT,.int .i64 jU,ij,iE,.int .i64 jy] (x0,x1,bC,c8,cr,(dn,dr,dQ,mZ,m0,()),sr,(su,sv,()),(kB,sw,sx,sy,()),sA,((jP,jQ,jR,sB,sC,()),(jS,jT,jU,sD,sE,()),()),jy,()) :=ck.mk h1 h2 h3 h4 h5 h6 h7 h8 h9 h10 h11 h12 eH kN jk j3 s9 dz gI rP uM h23 gJ lG pM hG k8
end Go.Sp
end
