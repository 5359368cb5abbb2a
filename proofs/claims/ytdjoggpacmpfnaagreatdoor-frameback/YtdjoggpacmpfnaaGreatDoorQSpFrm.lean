/- Texts of this proof, one behind the other. -/
import Derived.Test.YtdjoggpacmpfnaaGreatDoorQSpLaid
section
/- Texts of this proof, one behind the other. -/
section
/- Texts of this proof. -/
namespace Go.Sp
theorem setP_none {most:Int} {s:RS} {k:Nat} (hk:setP most k s=none):∀ {n:Nat},k≤n→setP most n s=none
 |0,h=>by (obtain rfl:k=0:=by omega);exact hk
 |n+1,h=>by
  by_cases e:k=n+1
  ·rw [← e];exact hk
  ·rw [setP,setP_none hk (n:=n) (by omega)];rfl
theorem sGet_none {b:List UInt8} {c:Int × RS} (hc:(RS.mk true b).count ((b.length / 8:Nat):Int)=c) {k:Nat} (h:k≤c.1.toNat) (hk:setP b.length k c.2=none):sGet b=none:=by
 unfold sGet;simp only;rw [hc,setP_none hk h];rfl
theorem sGet_eq {b:List UInt8} {c:Int × RS} (hc:(RS.mk true b).count ((b.length / 8:Nat):Int)=c) {p:List RecT × RS} (hp:setP b.length c.1.toNat c.2=some p):sGet b=if p.2.done=true∧SRight p.1 then some p.1 else none:=by
 unfold sGet;simp only;rw [hc,hp];rfl
theorem setP_next {most:Int} {s:RS} {i:Nat} {p:List RecT × RS} (h:setP most i s=some p) {x:RecT} (hx:recGet (p.2.bytes most).1=some x):setP most (i+1) s=some (p.1++[x],(p.2.bytes most).2):=by
 rw [setP,h,Option.bind_some,hx];rfl
theorem setP_stop {most:Int} {s:RS} {i:Nat} {p:List RecT × RS} (h:setP most i s=some p) (hx:recGet (p.2.bytes most).1=none):setP most (i+1) s=none:=by
 rw [setP,h,Option.bind_some,hx];rfl
theorem setP_len {most:Int} {s:RS}:∀ {n:Nat} {p:List RecT × RS},setP most n s=some p→p.2.rest.length≤s.rest.length
 |0,_,h=>by cases h;exact Nat.le_refl _
 |n+1,p,h=>by
  obtain ⟨q,hq,h⟩:=Option.bind_eq_some_iff.1 h;obtain ⟨x,_,rfl⟩:=Option.map_eq_some_iff.1 h;exact Nat.le_trans (RS.bytes_len _ _) (setP_len hq)
theorem someP_none {α:Type} {one:RS→Option (α × RS)} {s:RS} {k:Nat} (hk:someP one k s=none):∀ {n:Nat},k≤n→someP one n s=none
 |0,h=>by (obtain rfl:k=0:=by omega);exact hk
 |n+1,h=>by
  by_cases e:k=n+1
  ·rw [← e];exact hk
  ·rw [someP,someP_none hk (n:=n) (by omega)];rfl
theorem someP_next {α:Type} {one:RS→Option (α × RS)} {s:RS} {i:Nat} {p:List α × RS} (h:someP one i s=some p) (hg:p.2.good=true) {q:α × RS} (hq:one p.2=some q):someP one (i+1) s=some (p.1++[q.1],q.2):=by
 rw [someP,h,Option.bind_some,if_pos hg,hq];rfl
theorem someP_bad {α:Type} {one:RS→Option (α × RS)} {s:RS} {i:Nat} {p:List α × RS} (h:someP one i s=some p) (hg:p.2.good=false):someP one (i+1) s=none:=by
 rw [someP,h,Option.bind_some,if_neg (by rw [hg];decide)]
theorem someP_stop {α:Type} {one:RS→Option (α × RS)} {s:RS} {i:Nat} {p:List α × RS} (h:someP one i s=some p) (hq:one p.2=none):someP one (i+1) s=none:=by
 rw [someP,h,Option.bind_some];split
 ·rw [hq];rfl
 ·rfl
theorem someP_count {α:Type} {one:RS→Option (α × RS)} {s:RS}:∀ {n:Nat} {p:List α × RS},someP one n s=some p→p.1.length=n
 |0,_,h=>by cases h;rfl
 |n+1,p,h=>by
  obtain ⟨q,hq,h⟩:=Option.bind_eq_some_iff.1 h
  split at h
  ·obtain ⟨x,_,rfl⟩:=Option.map_eq_some_iff.1 h
   simp [someP_count hq]
  ·cases h
theorem someP_len {α:Type} {one:RS→Option (α × RS)} (ho:∀ s q,one s=some q→q.2.rest.length≤s.rest.length) {s:RS}:∀ {n:Nat} {p:List α × RS},someP one n s=some p→p.2.rest.length≤s.rest.length
 |0,_,h=>by cases h;exact Nat.le_refl _
 |n+1,p,h=>by
  obtain ⟨q,hq,h⟩:=Option.bind_eq_some_iff.1 h
  split at h
  ·obtain ⟨x,hx,rfl⟩:=Option.map_eq_some_iff.1 h
   exact Nat.le_trans (ho _ _ hx) (someP_len ho hq)
  ·cases h
theorem leafP_len:∀ (s:RS) (q:LeafT × RS),leafP s=some q→q.2.rest.length≤s.rest.length:=fun s q h=>by
 obtain ⟨l,_,rfl⟩:=Option.map_eq_some_iff.1 h;exact Nat.le_trans (RS.bytes_len _ _) (RS.bytes_len _ _)
end Go.Sp
end
section
/- Texts of this proof. -/
namespace Go.Sp
theorem sGet_self {l:List RecT} (h:SRight l) (hb:(sB l).length≤1000000000):sGet (sB l)=some l:=(sGet_iff (by omega)).2 ⟨h,rfl⟩
end Go.Sp
end
end
section
/- Texts of this proof. -/
namespace Go.Sp
def prfZ:PrfT:=([],[],())
def nodeZ:NodeT:=(0,[],[],[],())
def evdZ:EvdT:=(rootZ,rootZ,())
def keyOk (s:List UInt8):Prop:=1≤s.length∧s.length≤64
def pathOk (s:List UInt8):Prop:=s.length≤510∧∀ c∈s,c=48∨c=49
def keysRise {α:Type} (key:α→List UInt8) (l:List α):Prop:=∀ i (h:i<l.length),0<i→key (l[i - 1]'(by omega))<key l[i]
def leafOk (x:LeafT):Prop:=keyOk x.1∧SRight x.2.1∧∃ h:0<x.2.1.length,x.2.1[0].1=x.1
def nodeOk (n:NodeT):Prop:=((∀ x∈n.2.2.2.1,leafOk x)∧keysRise (·.1) n.2.2.2.1)∧(n.1=1∧n.2.1=[]∧n.2.2.1=[]∧n.2.2.2.1=[]∨n.1=2∧n.2.1=[]∧n.2.2.1=[]∧n.2.2.2.1.length=1∨n.1=3∧n.2.1.length=64∧n.2.2.1.length=64∧n.2.2.2.1=[]∨n.1=4∧n.2.1=[]∧n.2.2.1=[]∧2≤n.2.2.2.1.length)
def stubOk (s:StubT):Prop:=keyOk s.1∧s.2.1.length=64
def prfOk (p:PrfT):Prop:=(p.1.length≤510∧(1<p.2.1.length→p.1.length=510))∧(∀ x∈p.1,x.length=64)∧(∀ x∈p.2.1,stubOk x)∧keysRise (·.1) p.2.1
noncomputable instance (s:List UInt8):Decidable (keyOk s):=Classical.propDecidable _
noncomputable instance (s:List UInt8):Decidable (pathOk s):=Classical.propDecidable _
noncomputable instance (n:NodeT):Decidable (nodeOk n):=Classical.propDecidable _
noncomputable instance (p:PrfT):Decidable (prfOk p):=Classical.propDecidable _
def stubB (s:StubT):List UInt8:=bytesOf s.1++bytesOf s.2.1
def nodeB (n:NodeT):List UInt8:=be (n.1.toNat:Int)++(bytesOf n.2.1++(bytesOf n.2.2.1++(be n.2.2.2.1.length++rowsB leafB n.2.2.2.1)))
def prfB (p:PrfT):List UInt8:=be p.1.length++(rowsB bytesOf p.1++(be p.2.1.length++rowsB stubB p.2.1))
def kindOk (f:FrmT):Prop :=
 f.1=1∧(0≤f.2.2.1∧f.2.2.1<4)∨f.1=2∧(rootOk f.2.2.2.2.2.1=true∧f.2.2.2.2.2.2.1.length=64)∨f.1=3∧pathOk f.2.2.2.2.1∨f.1=4∧(pathOk f.2.2.2.2.1∧nodeOk f.2.2.2.2.2.2.2.2.1)∨f.1=5∧(∃ x,f.2.2.2.2.2.2.2.2.2.1=[x]∧recOk x=true) ∨
 f.1=6∧(0≤f.2.2.2.2.2.2.2.2.2.2.2.1∧f.2.2.2.2.2.2.2.2.2.2.2.1≤255)∨f.1=7∧keyOk f.2.2.2.1∨f.1=8∧(keyOk f.2.2.2.1∧rootOk f.2.2.2.2.2.1=true∧prfOk f.2.2.2.2.2.2.2.1∧SRight f.2.2.2.2.2.2.2.2.2.1∧∀ h:0<f.2.2.2.2.2.2.2.2.2.1.length,f.2.2.2.2.2.2.2.2.2.1[0].1=f.2.2.2.1)∨f.1=9∧evdOk f.2.2.2.2.2.2.2.2.2.2.1=true
def bareF (f:FrmT):FrmT:=if f.1=1 then (f.1,f.2.1,f.2.2.1,[],[],rootZ,[],prfZ,nodeZ,[],evdZ,0,()) else if f.1=2 then (f.1,f.2.1,0,[],[],f.2.2.2.2.2.1,f.2.2.2.2.2.2.1,prfZ,nodeZ,[],evdZ,0,()) else if f.1=3 then (f.1,f.2.1,0,[],f.2.2.2.2.1,rootZ,[],prfZ,nodeZ,[],evdZ,0,()) else if f.1=4 then (f.1,f.2.1,0,[],f.2.2.2.2.1,rootZ,[],prfZ,f.2.2.2.2.2.2.2.2.1,[],evdZ,0,()) else if f.1=5 then (f.1,f.2.1,0,[],[],rootZ,[],prfZ,nodeZ,f.2.2.2.2.2.2.2.2.2.1,evdZ,0,()) else if f.1=6 then (f.1,f.2.1,0,[],[],rootZ,[],prfZ,nodeZ,[],evdZ,f.2.2.2.2.2.2.2.2.2.2.2.1,()) else if f.1=7 then (f.1,f.2.1,0,f.2.2.2.1,[],rootZ,[],prfZ,nodeZ,[],evdZ,0,()) else if f.1=8 then (f.1,f.2.1,0,f.2.2.2.1,[],f.2.2.2.2.2.1,[],f.2.2.2.2.2.2.2.1,nodeZ,f.2.2.2.2.2.2.2.2.2.1,evdZ,0,()) else if f.1=9 then (f.1,f.2.1,0,[],[],rootZ,[],prfZ,nodeZ,[],f.2.2.2.2.2.2.2.2.2.2.1,0,()) else (f.1,f.2.1,0,[],[],rootZ,[],prfZ,nodeZ,[],evdZ,0,())
def frmOk (f:FrmT):Prop:=(kindOk f∧0≤f.2.1∧f.2.1≤1073741824)∧f=bareF f
noncomputable instance (f:FrmT):Decidable (frmOk f):=Classical.propDecidable _
noncomputable instance (f:FrmT):Decidable (kindOk f):=Classical.propDecidable _
def frmP (f:FrmT):List UInt8:=if f.1=1 then be f.2.2.1 else if f.1=2 then bytesOf (rootB f.2.2.2.2.2.1)++bytesOf f.2.2.2.2.2.2.1 else if f.1=3 then bytesOf f.2.2.2.2.1 else if f.1=4 then bytesOf f.2.2.2.2.1++nodeB f.2.2.2.2.2.2.2.2.1 else if f.1=5 then bytesOf (f.2.2.2.2.2.2.2.2.2.1.map recB).flatten else if f.1=6 then be f.2.2.2.2.2.2.2.2.2.2.2.1 else if f.1=7 then bytesOf f.2.2.2.1 else if f.1=8 then bytesOf f.2.2.2.1++(bytesOf (rootB f.2.2.2.2.2.1)++(prfB f.2.2.2.2.2.2.2.1++bytesOf (sB f.2.2.2.2.2.2.2.2.2.1))) else if f.1=9 then bytesOf (evdB f.2.2.2.2.2.2.2.2.2.2.1) else []
def frmB (f:FrmT):List UInt8:=f.1::(be f.2.1++frmP f)
noncomputable def frmOut (f:FrmT):List UInt8:=if frmOk f∧(frmB f).length≤262144 then frmB f else []
noncomputable def frmErr (f:FrmT):Int:=if frmOk f then (if (frmB f).length≤262144 then 0 else 3) else 4
theorem RS.bytes_cap {s:RS} {m:Int} (h:(s.rest.length:Int)≤m) (hm:m≤top64):s.bytes m=s.bytes top64:=by
 unfold RS.bytes rBytes top64
 split
 ·split
  ·have hin:=ofBe_in s.rest
   unfold InI64 at hin;unfold top64 at hm
   by_cases c:0≤ofBe s.rest∧ofBe s.rest≤m
   ·rw [if_pos c,if_pos (show 0≤ofBe s.rest∧ofBe s.rest≤9223372036854775807 from ⟨c.1,by omega⟩)]
   ·rw [if_neg c]
    by_cases c2:0≤ofBe s.rest∧ofBe s.rest≤9223372036854775807
    ·rw [if_pos c2,if_neg (by rw [List.length_drop];omega)]
    ·rw [if_neg c2]
  ·rfl
 ·rfl
def sideP (s:RS):Option (List UInt8 × RS):=some (s.bytes top64)
def stubP (s:RS):Option (StubT × RS):=some (((s.bytes top64).1,((s.bytes top64).2.bytes top64).1,()),((s.bytes top64).2.bytes top64).2)
def rowM {α:Type} (one:RS→Option (α × RS)) (most:Int) (s:RS):Option (List α × RS):=someP one (s.count most).1.toNat (s.count most).2
theorem rowM_rows {α:Type} {one:RS→Option (α × RS)} {enc:α→List UInt8} {most:Int} (l:List α) (t:List UInt8) (hl:(l.length:Int)≤most) (hm:most≤9223372036854775807) (h:∀ x∈l,Reads one enc x):rowM one most ⟨true,be l.length++(rowsB enc l++t)⟩=some (l,⟨true,t⟩):=by
 unfold rowM;rw [RS.count_be ⟨by omega,by omega⟩ (by omega) hl];simp only [Int.toNat_natCast];exact someP_rows l t h
noncomputable def nodeP (s:RS):Option (NodeT × RS) :=
 let a:=s.count 255;let l:=a.2.bytes top64;let r:=l.2.bytes top64
 (rowM leafP 16384 r.2).map fun p=>((UInt8.ofNat a.1.toNat,l.1,r.1,p.1,()),p.2)
noncomputable def prfP (s:RS):Option (PrfT × RS):=(rowM sideP 32768 s).bind fun a=>(rowM stubP 16384 a.2).map fun b=>((a.1,b.1,()),b.2)
noncomputable def setR (s:RS):Option (List RecT × RS):=(sGet (s.bytes top64).1).map fun l=>(l,(s.bytes top64).2)
noncomputable def frmIn (k:UInt8) (n:Int) (s:RS):Option (FrmT × RS) :=
 if k=1 then some ((1,n,s.num.1,[],[],rootZ,[],prfZ,nodeZ,[],evdZ,0,()),s.num.2) else
 if k=2 then (ownP s).map fun r=>((2,n,0,[],[],r.1,(r.2.bytes top64).1,prfZ,nodeZ,[],evdZ,0,()),(r.2.bytes top64).2) else
 if k=3 then some ((3,n,0,[],(s.bytes top64).1,rootZ,[],prfZ,nodeZ,[],evdZ,0,()),(s.bytes top64).2) else
 if k=4 then (nodeP (s.bytes top64).2).map fun p=>((4,n,0,[],(s.bytes top64).1,rootZ,[],prfZ,p.1,[],evdZ,0,()),p.2) else
 if k=5 then (recGet (s.bytes top64).1).map fun x=>((5,n,0,[],[],rootZ,[],prfZ,nodeZ,[x],evdZ,0,()),(s.bytes top64).2) else
 if k=6 then some ((6,n,0,[],[],rootZ,[],prfZ,nodeZ,[],evdZ,s.num.1,()),s.num.2) else
 if k=7 then some ((7,n,0,(s.bytes top64).1,[],rootZ,[],prfZ,nodeZ,[],evdZ,0,()),(s.bytes top64).2) else
 if k=8 then (ownP (s.bytes top64).2).bind fun r=>(prfP r.2).bind fun p=>(setR p.2).map fun q=>((8,n,0,(s.bytes top64).1,[],r.1,[],p.1,nodeZ,q.1,evdZ,0,()),q.2) else
 if k=9 then (proofP s).map fun e=>((9,n,0,[],[],rootZ,[],prfZ,nodeZ,[],e.1,0,()),e.2) else
 none
noncomputable def frmRd (b:List UInt8):Option (FrmT × RS):=frmIn (RS.mk true b).byte.1 (RS.mk true b).byte.2.num.1 (RS.mk true b).byte.2.num.2
noncomputable def frmGet (b:List UInt8):Option FrmT:=(frmRd b).bind fun p=>if p.2.done=true∧frmOk p.1∧frmB p.1=b then some p.1 else none
theorem sideP_reads {x:List UInt8} (h:x.length≤1000000000):Reads sideP bytesOf x:=fun t=>by
 unfold sideP;rw [RS.bytes_of (by unfold top64;omega) (by omega)]
theorem stubP_reads {x:StubT} (h:x.1.length≤1000000000) (h' :x.2.1.length≤1000000000):Reads stubP stubB x:=fun t=>by
 unfold stubP stubB;rw [List.append_assoc,RS.bytes_of (by unfold top64;omega) (by omega)]
 simp only
 rw [RS.bytes_of (by unfold top64;omega) (by omega)]
theorem rowsB_mem {α:Type} {b:α→List UInt8} {l:List α} {x:α} (h:x∈l):(b x).length≤(rowsB b l).length:=by
 obtain ⟨p,q,rfl⟩:=List.append_of_mem h;simp only [rowsB,List.map_append,List.map_cons,List.flatten_append,List.flatten_cons,List.length_append];omega
theorem rowsB_minK {α:Type} {b:α→List UInt8} {K:Nat} (hb:∀ x,K≤(b x).length) (l:List α):K*l.length≤(rowsB b l).length:=by
 induction l with
 |nil=>simp
 |cons x l ih=>rw [rowsB_cons,List.length_append,List.length_cons,Nat.mul_succ];have:=hb x;omega
theorem leafB_16 (x:LeafT):16≤(leafB x).length:=by simp [leafB];omega
theorem stubB_16 (x:StubT):16≤(stubB x).length:=by simp [stubB];omega
theorem nodeP_reads {n:NodeT} (h:nodeOk n) (hb:(nodeB n).length≤262144) (t:List UInt8):nodeP ⟨true,nodeB n++t⟩=some (n,⟨true,t⟩):=by
 obtain ⟨⟨h1,_⟩,h2⟩:=h;have e:nodeB n++t=be (n.1.toNat:Int)++(bytesOf n.2.1++(bytesOf n.2.2.1++(be n.2.2.2.1.length++(rowsB leafB n.2.2.2.1++t)))):=by simp [nodeB]
 have hl:(nodeB n).length=8+((bytesOf n.2.1).length+((bytesOf n.2.2.1).length+(8+(rowsB leafB n.2.2.2.1).length))):=by simp [nodeB]
 have hm:=rowsB_minK leafB_16 n.2.2.2.1;have hu:=n.1.toNat_lt;simp only [bytesOf_length] at hl;rw [e];unfold nodeP;rw [RS.count_be ⟨by omega,by omega⟩ (by omega) (by omega)]
 simp only
 rw [RS.bytes_of (by unfold top64;omega) (by omega)]
 simp only
 rw [RS.bytes_of (by unfold top64;omega) (by omega)]
 simp only
 rw [rowM_rows n.2.2.2.1 t (by omega) (by omega) fun x hx=>by
  have:=rowsB_mem (b:=leafB) hx;have e2:(leafB x).length=8+x.1.length+(8+(sB x.2.1).length):=by simp [leafB]
  exact leafP_reads (h1 x hx).1.2 (h1 x hx).2.1 (by omega)]
 simp only [Option.map_some,Int.toNat_natCast];have:UInt8.ofNat n.1.toNat=n.1:=by simp
 rw [this]
theorem prfP_reads {p:PrfT} (h:prfOk p) (hb:(prfB p).length≤262144) (t:List UInt8):prfP ⟨true,prfB p++t⟩=some (p,⟨true,t⟩):=by
 obtain ⟨⟨h1,_⟩,h2,h3,_⟩:=h;have e:prfB p++t=be p.1.length++(rowsB bytesOf p.1++(be p.2.1.length++(rowsB stubB p.2.1++t))):=by simp [prfB]
 have hl:(prfB p).length=8+((rowsB bytesOf p.1).length+(8+(rowsB stubB p.2.1).length)):=by simp [prfB]
 have hm:=rowsB_minK stubB_16 p.2.1;rw [e];unfold prfP;rw [rowM_rows p.1 _ (by omega) (by omega) fun x hx=>sideP_reads (by have:=h2 x hx;omega)];simp only [Option.bind_some];rw [rowM_rows p.2.1 t (by omega) (by omega) fun x hx=>stubP_reads (by have:=(h3 x hx).1.2;omega) (by have:=(h3 x hx).2;omega)]
 rfl
theorem setR_reads {l:List RecT} (h:SRight l) (hb:(sB l).length≤1000000000) (t:List UInt8):setR ⟨true,bytesOf (sB l)++t⟩=some (l,⟨true,t⟩):=by
 unfold setR;rw [RS.bytes_of (by unfold top64;omega) (by omega)]
 simp only
 rw [sGet_self h hb];rfl
theorem frmIn_reads {f:FrmT} (h:frmOk f) (hi:InI64 f.2.2.1∧InI64 f.2.2.2.2.2.2.2.2.2.2.2.1) (hb:(frmP f).length≤262144) (t:List UInt8):frmIn f.1 f.2.1 ⟨true,frmP f++t⟩=some (f,⟨true,t⟩):=by
 obtain ⟨⟨h1,_,_⟩,h2⟩:=h
 rcases h1 with ⟨e,c⟩|h1
 ·skip
  have e1:frmP f=be f.2.2.1:=by unfold frmP;rw [if_pos e]
  have e2:f=(f.1,f.2.1,f.2.2.1,[],[],rootZ,[],prfZ,nodeZ,[],evdZ,0,()):=h2.trans (by unfold bareF;rw [if_pos e]);rw [e1] at hb ⊢;unfold frmIn;rw [if_pos e];rw [RS.num_be hi.1]
  conv=>rhs;rw [e2]
  rw [e]
 rcases h1 with ⟨e,c⟩|h1
 ·skip
  have e1:frmP f=bytesOf (rootB f.2.2.2.2.2.1)++bytesOf f.2.2.2.2.2.2.1:=by unfold frmP;rw [if_neg (by rw [e];decide),if_pos e]
  have e2:f=(f.1,f.2.1,0,[],[],f.2.2.2.2.2.1,f.2.2.2.2.2.2.1,prfZ,nodeZ,[],evdZ,0,()):=h2.trans (by unfold bareF;rw [if_neg (by rw [e];decide),if_pos e]);rw [e1] at hb ⊢;unfold frmIn;rw [if_neg (by rw [e];decide),if_pos e];rw [List.append_assoc,ownP_reads c.1];simp only [Option.map_some];rw [RS.bytes_of (by unfold top64;omega) (by omega)]
  conv=>rhs;rw [e2]
  rw [e]
 rcases h1 with ⟨e,c⟩|h1
 ·skip
  have e1:frmP f=bytesOf f.2.2.2.2.1:=by unfold frmP;rw [if_neg (by rw [e];decide),if_neg (by rw [e];decide),if_pos e]
  have e2:f=(f.1,f.2.1,0,[],f.2.2.2.2.1,rootZ,[],prfZ,nodeZ,[],evdZ,0,()):=h2.trans (by unfold bareF;rw [if_neg (by rw [e];decide),if_neg (by rw [e];decide),if_pos e]);rw [e1] at hb ⊢;unfold frmIn;rw [if_neg (by rw [e];decide),if_neg (by rw [e];decide),if_pos e];rw [RS.bytes_of (by have:=c.1;unfold top64;omega) (by have:=c.1;omega)]
  conv=>rhs;rw [e2]
  rw [e]
 rcases h1 with ⟨e,c⟩|h1
 ·skip
  have e1:frmP f=bytesOf f.2.2.2.2.1++nodeB f.2.2.2.2.2.2.2.2.1:=by unfold frmP;rw [if_neg (by rw [e];decide),if_neg (by rw [e];decide),if_neg (by rw [e];decide),if_pos e]
  have e2:f=(f.1,f.2.1,0,[],f.2.2.2.2.1,rootZ,[],prfZ,f.2.2.2.2.2.2.2.2.1,[],evdZ,0,()):=h2.trans (by unfold bareF;rw [if_neg (by rw [e];decide),if_neg (by rw [e];decide),if_neg (by rw [e];decide),if_pos e]);rw [e1] at hb ⊢;unfold frmIn;rw [if_neg (by rw [e];decide),if_neg (by rw [e];decide),if_neg (by rw [e];decide),if_pos e];rw [List.append_assoc,RS.bytes_of (by have:=c.1.1;unfold top64;omega) (by have:=c.1.1;omega)]
  simp only
  rw [nodeP_reads c.2 (by rw [List.length_append] at hb;omega)];simp only [Option.map_some]
  conv=>rhs;rw [e2]
  rw [e]
 rcases h1 with ⟨e,c⟩|h1
 ·skip
  have e1:frmP f=bytesOf (f.2.2.2.2.2.2.2.2.2.1.map recB).flatten:=by unfold frmP;rw [if_neg (by rw [e];decide),if_neg (by rw [e];decide),if_neg (by rw [e];decide),if_neg (by rw [e];decide),if_pos e]
  have e2:f=(f.1,f.2.1,0,[],[],rootZ,[],prfZ,nodeZ,f.2.2.2.2.2.2.2.2.2.1,evdZ,0,()):=h2.trans (by unfold bareF;rw [if_neg (by rw [e];decide),if_neg (by rw [e];decide),if_neg (by rw [e];decide),if_neg (by rw [e];decide),if_pos e]);rw [e1] at hb ⊢;unfold frmIn;rw [if_neg (by rw [e];decide),if_neg (by rw [e];decide),if_neg (by rw [e];decide),if_neg (by rw [e];decide),if_pos e];obtain ⟨x,c1,c2⟩:=c;have c3:=recB_le c2;rw [show (f.2.2.2.2.2.2.2.2.2.1.map recB).flatten=recB x from by rw [c1];simp,RS.bytes_of (by unfold top64;omega) (by omega)]
  simp only
  rw [recGet_some c2];simp only [Option.map_some];rw [← c1]
  conv=>rhs;rw [e2]
  rw [e]
 rcases h1 with ⟨e,c⟩|h1
 ·skip
  have e1:frmP f=be f.2.2.2.2.2.2.2.2.2.2.2.1:=by unfold frmP;rw [if_neg (by rw [e];decide),if_neg (by rw [e];decide),if_neg (by rw [e];decide),if_neg (by rw [e];decide),if_neg (by rw [e];decide),if_pos e]
  have e2:f=(f.1,f.2.1,0,[],[],rootZ,[],prfZ,nodeZ,[],evdZ,f.2.2.2.2.2.2.2.2.2.2.2.1,()):=h2.trans (by unfold bareF;rw [if_neg (by rw [e];decide),if_neg (by rw [e];decide),if_neg (by rw [e];decide),if_neg (by rw [e];decide),if_neg (by rw [e];decide),if_pos e]);rw [e1] at hb ⊢;unfold frmIn;rw [if_neg (by rw [e];decide),if_neg (by rw [e];decide),if_neg (by rw [e];decide),if_neg (by rw [e];decide),if_neg (by rw [e];decide),if_pos e];rw [RS.num_be hi.2]
  conv=>rhs;rw [e2]
  rw [e]
 rcases h1 with ⟨e,c⟩|h1
 ·skip
  have e1:frmP f=bytesOf f.2.2.2.1:=by unfold frmP;rw [if_neg (by rw [e];decide),if_neg (by rw [e];decide),if_neg (by rw [e];decide),if_neg (by rw [e];decide),if_neg (by rw [e];decide),if_neg (by rw [e];decide),if_pos e]
  have e2:f=(f.1,f.2.1,0,f.2.2.2.1,[],rootZ,[],prfZ,nodeZ,[],evdZ,0,()):=h2.trans (by unfold bareF;rw [if_neg (by rw [e];decide),if_neg (by rw [e];decide),if_neg (by rw [e];decide),if_neg (by rw [e];decide),if_neg (by rw [e];decide),if_neg (by rw [e];decide),if_pos e]);rw [e1] at hb ⊢;unfold frmIn;rw [if_neg (by rw [e];decide),if_neg (by rw [e];decide),if_neg (by rw [e];decide),if_neg (by rw [e];decide),if_neg (by rw [e];decide),if_neg (by rw [e];decide),if_pos e];rw [RS.bytes_of (by have:=c.2;unfold top64;omega) (by have:=c.2;omega)]
  conv=>rhs;rw [e2]
  rw [e]
 rcases h1 with ⟨e,c⟩|h1
 ·skip
  have e1:frmP f=bytesOf f.2.2.2.1++(bytesOf (rootB f.2.2.2.2.2.1)++(prfB f.2.2.2.2.2.2.2.1++bytesOf (sB f.2.2.2.2.2.2.2.2.2.1))):=by unfold frmP;rw [if_neg (by rw [e];decide),if_neg (by rw [e];decide),if_neg (by rw [e];decide),if_neg (by rw [e];decide),if_neg (by rw [e];decide),if_neg (by rw [e];decide),if_neg (by rw [e];decide),if_pos e]
  have e2:f=(f.1,f.2.1,0,f.2.2.2.1,[],f.2.2.2.2.2.1,[],f.2.2.2.2.2.2.2.1,nodeZ,f.2.2.2.2.2.2.2.2.2.1,evdZ,0,()):=h2.trans (by unfold bareF;rw [if_neg (by rw [e];decide),if_neg (by rw [e];decide),if_neg (by rw [e];decide),if_neg (by rw [e];decide),if_neg (by rw [e];decide),if_neg (by rw [e];decide),if_neg (by rw [e];decide),if_pos e]);rw [e1] at hb ⊢;unfold frmIn;rw [if_neg (by rw [e];decide),if_neg (by rw [e];decide),if_neg (by rw [e];decide),if_neg (by rw [e];decide),if_neg (by rw [e];decide),if_neg (by rw [e];decide),if_neg (by rw [e];decide),if_pos e];obtain ⟨c1,c2,c3,c4,_⟩:=c;simp only [List.length_append,bytesOf_length] at hb;simp only [List.append_assoc];rw [RS.bytes_of (by unfold top64;omega) (by omega)]
  simp only
  rw [ownP_reads c2];simp only [Option.bind_some];rw [prfP_reads c3 (by omega)];simp only [Option.bind_some];rw [setR_reads c4 (by omega)];simp only [Option.map_some]
  conv=>rhs;rw [e2]
  rw [e]
 obtain ⟨e,c⟩:=h1
 skip
 have e1:frmP f=bytesOf (evdB f.2.2.2.2.2.2.2.2.2.2.1):=by unfold frmP;rw [if_neg (by rw [e];decide),if_neg (by rw [e];decide),if_neg (by rw [e];decide),if_neg (by rw [e];decide),if_neg (by rw [e];decide),if_neg (by rw [e];decide),if_neg (by rw [e];decide),if_neg (by rw [e];decide),if_pos e]
 have e2:f=(f.1,f.2.1,0,[],[],rootZ,[],prfZ,nodeZ,[],f.2.2.2.2.2.2.2.2.2.2.1,0,()):=h2.trans (by unfold bareF;rw [if_neg (by rw [e];decide),if_neg (by rw [e];decide),if_neg (by rw [e];decide),if_neg (by rw [e];decide),if_neg (by rw [e];decide),if_neg (by rw [e];decide),if_neg (by rw [e];decide),if_neg (by rw [e];decide),if_pos e]);rw [e1] at hb ⊢;unfold frmIn;rw [if_neg (by rw [e];decide),if_neg (by rw [e];decide),if_neg (by rw [e];decide),if_neg (by rw [e];decide),if_neg (by rw [e];decide),if_neg (by rw [e];decide),if_neg (by rw [e];decide),if_neg (by rw [e];decide),if_pos e];rw [proofP_reads c];simp only [Option.map_some]
 conv=>rhs;rw [e2]
 rw [e]
theorem frmB_length (f:FrmT):(frmB f).length=9+(frmP f).length:=by simp [frmB];omega
theorem frmOk_in {f:FrmT} (h:frmOk f):InI64 f.2.2.1∧InI64 f.2.2.2.2.2.2.2.2.2.2.2.1:=by
 obtain ⟨⟨h1,_,_⟩,h2⟩:=h
 rcases h1 with ⟨e,c⟩|h1
 ·skip
  have e2:f=(f.1,f.2.1,f.2.2.1,[],[],rootZ,[],prfZ,nodeZ,[],evdZ,0,()):=h2.trans (by unfold bareF;rw [if_pos e]);exact ⟨⟨by omega,by omega⟩,by rw [e2];exact RS.zero64⟩
 rcases h1 with ⟨e,c⟩|h1
 ·skip
  have e2:f=(f.1,f.2.1,0,[],[],f.2.2.2.2.2.1,f.2.2.2.2.2.2.1,prfZ,nodeZ,[],evdZ,0,()):=h2.trans (by unfold bareF;rw [if_neg (by rw [e];decide),if_pos e]);exact ⟨by rw [e2];exact RS.zero64,by rw [e2];exact RS.zero64⟩
 rcases h1 with ⟨e,c⟩|h1
 ·skip
  have e2:f=(f.1,f.2.1,0,[],f.2.2.2.2.1,rootZ,[],prfZ,nodeZ,[],evdZ,0,()):=h2.trans (by unfold bareF;rw [if_neg (by rw [e];decide),if_neg (by rw [e];decide),if_pos e]);exact ⟨by rw [e2];exact RS.zero64,by rw [e2];exact RS.zero64⟩
 rcases h1 with ⟨e,c⟩|h1
 ·skip
  have e2:f=(f.1,f.2.1,0,[],f.2.2.2.2.1,rootZ,[],prfZ,f.2.2.2.2.2.2.2.2.1,[],evdZ,0,()):=h2.trans (by unfold bareF;rw [if_neg (by rw [e];decide),if_neg (by rw [e];decide),if_neg (by rw [e];decide),if_pos e]);exact ⟨by rw [e2];exact RS.zero64,by rw [e2];exact RS.zero64⟩
 rcases h1 with ⟨e,c⟩|h1
 ·skip
  have e2:f=(f.1,f.2.1,0,[],[],rootZ,[],prfZ,nodeZ,f.2.2.2.2.2.2.2.2.2.1,evdZ,0,()):=h2.trans (by unfold bareF;rw [if_neg (by rw [e];decide),if_neg (by rw [e];decide),if_neg (by rw [e];decide),if_neg (by rw [e];decide),if_pos e]);exact ⟨by rw [e2];exact RS.zero64,by rw [e2];exact RS.zero64⟩
 rcases h1 with ⟨e,c⟩|h1
 ·skip
  have e2:f=(f.1,f.2.1,0,[],[],rootZ,[],prfZ,nodeZ,[],evdZ,f.2.2.2.2.2.2.2.2.2.2.2.1,()):=h2.trans (by unfold bareF;rw [if_neg (by rw [e];decide),if_neg (by rw [e];decide),if_neg (by rw [e];decide),if_neg (by rw [e];decide),if_neg (by rw [e];decide),if_pos e]);exact ⟨by rw [e2];exact RS.zero64,⟨by omega,by omega⟩⟩
 rcases h1 with ⟨e,c⟩|h1
 ·skip
  have e2:f=(f.1,f.2.1,0,f.2.2.2.1,[],rootZ,[],prfZ,nodeZ,[],evdZ,0,()):=h2.trans (by unfold bareF;rw [if_neg (by rw [e];decide),if_neg (by rw [e];decide),if_neg (by rw [e];decide),if_neg (by rw [e];decide),if_neg (by rw [e];decide),if_neg (by rw [e];decide),if_pos e]);exact ⟨by rw [e2];exact RS.zero64,by rw [e2];exact RS.zero64⟩
 rcases h1 with ⟨e,c⟩|h1
 ·skip
  have e2:f=(f.1,f.2.1,0,f.2.2.2.1,[],f.2.2.2.2.2.1,[],f.2.2.2.2.2.2.2.1,nodeZ,f.2.2.2.2.2.2.2.2.2.1,evdZ,0,()):=h2.trans (by unfold bareF;rw [if_neg (by rw [e];decide),if_neg (by rw [e];decide),if_neg (by rw [e];decide),if_neg (by rw [e];decide),if_neg (by rw [e];decide),if_neg (by rw [e];decide),if_neg (by rw [e];decide),if_pos e]);exact ⟨by rw [e2];exact RS.zero64,by rw [e2];exact RS.zero64⟩
 obtain ⟨e,c⟩:=h1
 skip
 have e2:f=(f.1,f.2.1,0,[],[],rootZ,[],prfZ,nodeZ,[],f.2.2.2.2.2.2.2.2.2.2.1,0,()):=h2.trans (by unfold bareF;rw [if_neg (by rw [e];decide),if_neg (by rw [e];decide),if_neg (by rw [e];decide),if_neg (by rw [e];decide),if_neg (by rw [e];decide),if_neg (by rw [e];decide),if_neg (by rw [e];decide),if_neg (by rw [e];decide),if_pos e]);exact ⟨by rw [e2];exact RS.zero64,by rw [e2];exact RS.zero64⟩
theorem frmRd_tail {f:FrmT} (h:frmOk f) (hb:(frmB f).length≤262144) (t:List UInt8):frmRd (frmB f++t)=some (f,⟨true,t⟩):=by
 have hl:=frmB_length f;obtain ⟨⟨_,h0,h1⟩,_⟩:=id h;unfold frmRd frmB;rw [List.cons_append,RS.byte_cons]
 simp only
 rw [List.append_assoc,RS.num_be ⟨by omega,by omega⟩];exact frmIn_reads h (frmOk_in h) (by omega) t
theorem frmGet_iff {b:List UInt8} (hb:b.length≤262144) {f:FrmT}:frmGet b=some f↔frmOk f∧frmB f=b:=by
 constructor
 ·intro h
  unfold frmGet at h;obtain ⟨p,_,h⟩:=Option.bind_eq_some_iff.1 h
  split at h
  ·rename_i c;cases h;exact c.2
  ·cases h
 ·rintro ⟨h,rfl⟩
  have:=frmRd_tail h hb [];rw [List.append_nil] at this;unfold frmGet;rw [this,Option.bind_some,if_pos ⟨rfl,h,rfl⟩]
theorem frmGet_self {f:FrmT} (h:frmOk f) (hb:(frmB f).length≤262144):frmGet (frmB f)=some f:=(frmGet_iff hb).2 ⟨h,rfl⟩
theorem frm_tail {f g:FrmT} {t:List UInt8} (hf:frmOk f) (hg:frmOk g) (hb:(frmB f).length≤262144) (e:frmB f=frmB g++t):f=g∧t=[]:=by
 have h1:=frmRd_tail hf hb [];have h2:=frmRd_tail hg (by rw [e,List.length_append] at hb;omega) t;rw [List.append_nil,e,h2] at h1;obtain ⟨h3,h4⟩:=Prod.mk.inj (Option.some.inj h1);exact ⟨h3.symm,(RS.mk.inj h4).2⟩
theorem frmGet_cut {f:FrmT} (h:frmOk f) (hb:(frmB f).length≤262144) {k:Nat} (hk:k<(frmB f).length):frmGet ((frmB f).take k)=none:=by
 cases e:frmGet ((frmB f).take k) with
 |none=>rfl
 |some g =>
  obtain ⟨h1,h2⟩:=(frmGet_iff (by rw [List.length_take];omega)).1 e;have h3:=(frm_tail h h1 hb (t:=(frmB f).drop k) (by rw [h2,List.take_append_drop])).2;have h4:=congrArg List.length h3
  simp at h4;omega
theorem frmGet_more {f:FrmT} {t:List UInt8} (h:frmOk f) (hb:(frmB f++t).length≤262144) (ht:t≠[]):frmGet (frmB f++t)=none:=by
 cases e:frmGet (frmB f++t) with
 |none=>rfl
 |some g =>
  obtain ⟨h1,h2⟩:=(frmGet_iff hb).1 e;exact absurd (frm_tail h1 h (by rw [h2];exact hb) h2).2 ht
theorem FrmRp.mkA {h:Fr} {x0:UInt8} {x1:Int} {x2:Int} {x3:List UInt8} {x4:List UInt8} {x5:Int} {x6:Int} {x7:Int} {x8:List UInt8} {v8:Value} {x9:List UInt8} {v9:Value} {x10:List UInt8} {v10:Value} {x11:List (List UInt8)} {v11:Value} {x12:List StubT} {v12:Value} {x13:UInt8} {x14:List UInt8} {v14:Value} {x15:List UInt8} {v15:Value} {x16:List LeafT} {v16:Value} {x17:List RecT} {v17:Value} {x18:Int} {x19:Int} {x20:Int} {x21:List UInt8} {v21:Value} {x22:List UInt8} {v22:Value} {x23:Int} {x24:Int} {x25:Int} {x26:List UInt8} {v26:Value} {x27:List UInt8} {v27:Value} {x28:Int} (h1:InI64 x1:=by first|assumption|exact RS.zero64|exact Arr.nil|decide) (h2:InI64 x2:=by first|assumption|exact RS.zero64|exact Arr.nil|decide) (h3:x3.length≤9223372036854775807:=by first|assumption|exact RS.zero64|exact Arr.nil|decide) (h4:x4.length≤9223372036854775807:=by first|assumption|exact RS.zero64|exact Arr.nil|decide) (h5:InI64 x5:=by first|assumption|exact RS.zero64|exact Arr.nil|decide) (h6:InI64 x6:=by first|assumption|exact RS.zero64|exact Arr.nil|decide) (h7:InI64 x7:=by first|assumption|exact RS.zero64|exact Arr.nil|decide) (h8:Arr Rp.u8 h v8 x8:=by first|assumption|exact RS.zero64|exact Arr.nil|decide) (h9:Arr Rp.u8 h v9 x9:=by first|assumption|exact RS.zero64|exact Arr.nil|decide) (h10:Arr Rp.u8 h v10 x10:=by first|assumption|exact RS.zero64|exact Arr.nil|decide) (h11:Arr (Rp.slice Rp.u8) h v11 x11:=by first|assumption|exact RS.zero64|exact Arr.nil|decide) (h12:Arr StubRp h v12 x12:=by first|assumption|exact RS.zero64|exact Arr.nil|decide) (h14:Arr Rp.u8 h v14 x14:=by first|assumption|exact RS.zero64|exact Arr.nil|decide) (h15:Arr Rp.u8 h v15 x15:=by first|assumption|exact RS.zero64|exact Arr.nil|decide) (h16:Arr LeafRp h v16 x16:=by first|assumption|exact RS.zero64|exact Arr.nil|decide) (h17:Arr RecRp h v17 x17:=by first|assumption|exact RS.zero64|exact Arr.nil|decide) (h18:InI64 x18:=by first|assumption|exact RS.zero64|exact Arr.nil|decide) (h19:InI64 x19:=by first|assumption|exact RS.zero64|exact Arr.nil|decide) (h20:InI64 x20:=by first|assumption|exact RS.zero64|exact Arr.nil|decide) (h21:Arr Rp.u8 h v21 x21:=by first|assumption|exact RS.zero64|exact Arr.nil|decide) (h22:Arr Rp.u8 h v22 x22:=by first|assumption|exact RS.zero64|exact Arr.nil|decide) (h23:InI64 x23:=by first|assumption|exact RS.zero64|exact Arr.nil|decide) (h24:InI64 x24:=by first|assumption|exact RS.zero64|exact Arr.nil|decide) (h25:InI64 x25:=by first|assumption|exact RS.zero64|exact Arr.nil|decide) (h26:Arr Rp.u8 h v26 x26:=by first|assumption|exact RS.zero64|exact Arr.nil|decide) (h27:Arr Rp.u8 h v27 x27:=by first|assumption|exact RS.zero64|exact Arr.nil|decide) (h28:InI64 x28:=by first|assumption|exact RS.zero64|exact Arr.nil|decide):FrmRp.rel h [byteV x0,.int .i64 x1,.int .i64 x2,.string (str x3),.string (str x4),.int .i64 x5,.int .i64 x6,.int .i64 x7,v8,v9,v10,v11,v12,byteV x13,v14,v15,v16,v17,.int .i64 x18,.int .i64 x19,.int .i64 x20,v21,v22,.int .i64 x23,.int .i64 x24,.int .i64 x25,v26,v27,.int .i64 x28] (x0,x1,x2,x3,x4,(x5,x6,x7,x8,x9,()),x10,(x11,x12,()),(x13,x14,x15,x16,()),x17,((x18,x19,x20,x21,x22,()),(x23,x24,x25,x26,x27,()),()),x28,()) :=FrmRp.mk h1 h2 h3 h4 h5 h6 h7 h8 h9 h10 h11 h12 h14 h15 h16 h17 h18 h19 h20 h21 h22 h23 h24 h25 h26 h27 h28
end Go.Sp
end
