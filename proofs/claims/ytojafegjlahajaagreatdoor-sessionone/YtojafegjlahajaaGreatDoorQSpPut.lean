/- Texts of this proof, one behind the other. -/
import Derived.Test.YtojafegjlahajaaGreatDoorQSpLaid
set_option linter.unusedSectionVars false
section
/- Texts of this proof, one behind the other. -/
section
/- Texts of this proof, one behind the other. -/
section
/- Texts of this proof, one behind the other. -/
section
/- Texts of this proof. -/
namespace Go.Sp
def mC (s:List UInt8):Prop:=1≤s.length∧s.length≤64
def kD (s:List UInt8):Prop:=s.length≤510∧∀ c∈s,c=48∨c=49
def tt {α:Type} (key:α→List UInt8) (l:List α):Prop:=∀ i (h:i<l.length),0<i→key (l[i - 1]'(by omega))<key l[i]
def oa (x:aH):Prop:=mC x.1∧fG x.2.1∧∃ h:0<x.2.1.length,x.2.1[0].1=x.1
def gx (n:dJ):Prop:=((∀ x∈n.2.2.2.1,oa x)∧tt (·.1) n.2.2.2.1)∧(n.1=1∧n.2.1=[]∧n.2.2.1=[]∧n.2.2.2.1=[]∨n.1=2∧n.2.1=[]∧n.2.2.1=[]∧n.2.2.2.1.length=1∨n.1=3∧n.2.1.length=64∧n.2.2.1.length=64∧n.2.2.2.1=[]∨n.1=4∧n.2.1=[]∧n.2.2.1=[]∧2≤n.2.2.2.1.length)
noncomputable instance (s:List UInt8):Decidable (mC s):=Classical.propDecidable _
noncomputable instance (s:List UInt8):Decidable (kD s):=Classical.propDecidable _
noncomputable instance (n:dJ):Decidable (gx n):=Classical.propDecidable _
end Go.Sp
end
section
/- Texts of this proof. -/
open Go
namespace Go.Sp
def ny (s:List UInt8) (l:List aQ):Prop:=fG l∧∀ h:0<l.length,l[0].1=s
noncomputable instance (s:List UInt8) (l:List aQ):Decidable (ny s l):=Classical.propDecidable _
noncomputable def gX (l:List aQ):List UInt8:=if fG l then gY (5::kE l) else []
theorem Up {l:List aQ} (h:fG l):gX l=gY (5::kE l):=by unfold gX;rw [if_pos h]
theorem Uo (l:List aQ):(gX l).length≤64:=by unfold gX;split;rw [o9];exact Nat.le_refl _;exact Nat.zero_le _
theorem Uq {l:List aQ} (h:fG l):(gX l).length=64:=by rw [Up h,o9]
def xI (k:UInt8):UInt8:=[0,0,1,2,3].getD k.toNat 0
noncomputable def o4 (l:List aH):List (List UInt8):=(l.map fun y=>[bytesOf y.1,gX y.2.1]).flatten
noncomputable def xH (x:dJ):List (List UInt8):=[[xI x.1],x.2.1,x.2.2.1]++o4 x.2.2.2.1
noncomputable def fV (x:dJ):List UInt8:=if gx x then gY (xH x).flatten else []
theorem Jg {x:dJ} (h:gx x):fV x=gY (xH x).flatten:=by unfold fV;rw [if_pos h]
theorem Jf {x:dJ} (h:¬ gx x):fV x=[]:=by unfold fV;rw [if_neg h]
theorem zR (x:dJ):(fV x).length=64↔gx x:=by
 by_cases h:gx x
 ·rw [Jg h,o9];exact ⟨fun _=>h,fun _=>rfl⟩
 ·rw [Jf h];exact ⟨fun w=>absurd w (by decide),fun w=>absurd w h⟩
theorem Rn {l:List aH} {k:Nat} (h:k<l.length):o4 (l.take k)++[bytesOf l[k].1,gX l[k].2.1]=o4 (l.take (k+1)):=by
 rw [List.take_succ_eq_append_getElem h];unfold o4;rw [List.map_append,List.flatten_append];simp
theorem IM:∀ l:List aH,(∀ y∈l,y.1.length≤64)→(o4 l).flatten.length≤136*l.length
 |[],_=>Nat.zero_le _
 |y::l,h=>by
  have:=IM l fun z hz=>h z (by simp [hz]);have h1:=h y (by simp);have h2:=Uo y.2.1;unfold o4 at *;simp only [List.map_cons,List.flatten_cons,List.flatten_append,List.length_append,List.length_cons,List.flatten_nil,List.length_nil,Gc];omega
theorem R4 {x:dJ} (h:gx x):x.1.toNat<5:=by
 rcases h.2 with h|h|h|h<;>(rw [h.1];decide)
end Go.Sp
end
end
section
/- Texts of this proof. -/
open Go
namespace Go.Sp
def LF (d:List UInt8) (i:Nat):UInt8:=48+((d.getD (i / 8) 0) >>>UInt8.ofNat (7 - i % 8) &&& 1)
def k4 (s:List UInt8):List UInt8:=gY (6::s)
theorem DS (s:List UInt8):(k4 s).length=64:=o9 _
def o_ (s:List UInt8):Nat:=((k4 s).getD 0 0).toNat / 64
def bT (s:List UInt8):List UInt8:=(List.range 510).map fun i=>LF (k4 s) (i+2)
@[simp] theorem lp (s:List UInt8):(bT s).length=510:=by simp [bT]
def dG (p:List UInt8) (l:List aH):List aH:=l.filter fun x=>p.isPrefixOf (bT x.1)
theorem E7 (p q:List UInt8) (l:List aH):dG (p++q) (dG p l)=dG (p++q) l:=by
 unfold dG;rw [List.filter_filter];congr 1;funext x
 cases h:(p++q).isPrefixOf (bT x.1) with
 |false=>rfl
 |true =>
  rw [List.isPrefixOf_iff_prefix] at h;have:p.isPrefixOf (bT x.1)=true:=List.isPrefixOf_iff_prefix.2 ((List.prefix_append p q).trans h);rw [this];rfl
theorem x7 (p:List UInt8) (l:List aH):(dG p l).Sublist l:=List.filter_sublist
def eT (l:List aH):Prop:=l.Pairwise fun a b=>a.1<b.1
theorem eT.keys {l:List aH} (h:eT l):tt (·.1) l:=fun i hi h0=>List.pairwise_iff_getElem.1 h _ _ (by omega) hi (by omega)
theorem eT.under {l:List aH} (h:eT l) (p:List UInt8):eT (dG p l):=h.sublist (x7 p l)
noncomputable def nx:Nat→List UInt8→List aH→dJ
 |_,_,[]=>(1,[],[],[],())
 |_,_,[x]=>(2,[],[],[x],())
 |0,_,l=>(4,[],[],l,())
 |n+1,p,l=>(3,fV (nx n (p++[48]) (dG (p++[48]) l)),fV (nx n (p++[49]) (dG (p++[49]) l)),[],())
theorem D6 (n:Nat) (p:List UInt8):nx n p []=(1,[],[],[],()):=by cases n<;>rfl
theorem D7 (n:Nat) (p:List UInt8) (x:aH):nx n p [x]=(2,[],[],[x],()):=by cases n<;>rfl
theorem D8 {p:List UInt8} {l:List aH} (h:2≤l.length):nx 0 p l=(4,[],[],l,()):=by
 match l,h with
 |_::_::_,_=>rfl
theorem D9 {n:Nat} {p:List UInt8} {l:List aH} (h:2≤l.length):nx (n+1) p l=(3,fV (nx n (p++[48]) (dG (p++[48]) l)),fV (nx n (p++[49]) (dG (p++[49]) l)),[],()):=by
 match l,h with
 |_::_::_,_=>rfl
theorem TL {a:aH}:eT [a]:=List.pairwise_singleton _ _
theorem Je:∀ (n:Nat) (p:List UInt8) (l:List aH),(∀ x∈l,oa x)→eT l→gx (nx n p l)
 |n,p,[],_,_=>by rw [D6];exact ⟨⟨fun _ h=>(List.not_mem_nil h).elim,(eT.keys .nil)⟩,.inl ⟨rfl,rfl,rfl,rfl⟩⟩
 |n,p,[x],h,_=>by rw [D7];exact ⟨⟨h,TL.keys⟩,.inr (.inl ⟨rfl,rfl,rfl,rfl⟩)⟩
 |0,p,x::y::l,h,hr=>by rw [D8 (by simp)];exact ⟨⟨h,hr.keys⟩,.inr (.inr (.inr ⟨rfl,rfl,rfl,by simp⟩))⟩
 |n+1,p,x::y::l,h,hr=>by
  rw [D9 (by simp)];have k:∀ q,(fV (nx n q (dG q (x::y::l)))).length=64:=fun q=>(zR _).2 (Je n q _ (fun z hz=>h z ((x7 q _).subset hz)) (hr.under q));exact ⟨⟨fun _ h=>(List.not_mem_nil h).elim,eT.keys .nil⟩,.inr (.inr (.inl ⟨rfl,k _,k _,rfl⟩))⟩
def gI (s:Nat) (L:List aH):Prop:=(∀ x∈L,oa x∧o_ x.1=s)∧eT L
theorem gI.nil (s:Nat):gI s []:=⟨fun _ h=>(List.not_mem_nil h).elim,.nil⟩
noncomputable def cF (L:List aH) (p:List UInt8):dJ:=nx (510 - p.length) p (dG p L)
noncomputable def bA (L:List aH) (p:List UInt8):List UInt8:=fV (cF L p)
theorem AF {s:Nat} {L:List aH} (h:gI s L) (p:List UInt8):gx (cF L p) :=
 Je _ _ _ (fun x hx=>(h.1 x ((x7 p L).subset hx)).1) (h.2.under p)
theorem qT {s:Nat} {L:List aH} (h:gI s L) (p:List UInt8):(bA L p).length=64:=(zR _).2 (AF h p)
theorem E2 {L:List aH} {p:List UInt8} (h:dG p L=[]):cF L p=(1,[],[],[],()):=by rw [cF,h,D6]
theorem E3 {L:List aH} {p:List UInt8} {x:aH} (h:dG p L=[x]):cF L p=(2,[],[],[x],()):=by rw [cF,h,D7]
theorem KD {L:List aH} {p:List UInt8} (h:2≤(dG p L).length) (hp:p.length=510):cF L p=(4,[],[],dG p L,()):=by
 rw [cF,hp];exact D8 h
theorem E4 {L:List aH} {p:List UInt8} (h:2≤(dG p L).length) (hp:p.length<510):cF L p=(3,bA L (p++[48]),bA L (p++[49]),[],()):=by
 have e:510 - p.length=(510 - (p++[48]).length)+1:=by simp;omega
 have e2:510 - (p++[48]).length=510 - (p++[49]).length:=by simp
 rw [cF,e,D9 h,E7,E7]
 conv=>lhs;arg 2;arg 2;arg 1;rw [e2]
 rfl
theorem U6 {L M:List aH} {p:List UInt8} (h:dG p L=dG p M):cF L p=cF M p:=by rw [cF,cF,h]
theorem U7 {L M:List aH} {p:List UInt8} (h:dG p L=dG p M):bA L p=bA M p:=by rw [bA,bA,U6 h]
noncomputable def dw (s:Int) (n:List UInt8):List UInt8:=if 0≤s∧s<4∧n.length=64 then gY (4::byteOf s::n) else []
def gf (L:List aH) (a:List Nat):List aH:=a.filterMap fun i=>L[i]?
def fp (L:List aH) (p:List UInt8) (a:List Nat):List Nat:=a.filter fun i=>p.isPrefixOf (((L[i]?).map fun x=>bT x.1).getD [])
theorem yp (L:List aH) (p:List UInt8):∀ a:List Nat,(∀ i∈a,i<L.length)→gf L (fp L p a)=dG p (gf L a)
 |[],_=>rfl
 |i::a,h=>by
  have hi:i<L.length:=h i (by simp);have ih:=yp L p a fun j hj=>h j (by simp [hj]);have e:L[i]?=some L[i]:=List.getElem?_eq_getElem hi;have e2:gf L (i::a)=L[i]::gf L a:=by simp [gf,e]
  rw [e2];unfold fp;rw [List.filter_cons];have b6:(((L[i]?).map fun x=>bT x.1).getD [])=bT L[i].1:=by rw [e,Option.map_some,Option.getD_some]
  rw [b6]
  by_cases hp:p.isPrefixOf (bT L[i].1)=true
  ·rw [if_pos hp]
   have:dG p (L[i]::gf L a)=L[i]::dG p (gf L a):=by unfold dG;rw [List.filter_cons,if_pos hp]
   rw [this,← ih]
   simp [gf,e,fp]
  ·rw [if_neg hp]
   have:dG p (L[i]::gf L a)=dG p (gf L a):=by unfold dG;rw [List.filter_cons,if_neg hp]
   rw [this,← ih];rfl
theorem E6 {L:List aH} {p:List UInt8} {a:List Nat} (h:∀ i∈a,i<L.length):∀ i∈fp L p a,i<L.length:=fun i hi=>h i (List.mem_filter.1 hi).1
theorem AH (L:List aH) (p:List UInt8) (a:List Nat):(fp L p a).length≤a.length:=List.length_filter_le _ _
theorem JJ (L:List aH):gf L (List.range L.length)=L:=by
 have h:∀ n,n≤L.length→gf L (List.range n)=L.take n:=by
  intro n
  induction n with
  |zero=>intro _;rfl
  |succ n ih =>
   intro hn
   have e:L[n]?=some L[n]:=List.getElem?_eq_getElem (by omega);have:gf L (List.range (n+1))=gf L (List.range n)++[L[n]]:=by rw [List.range_succ];simp [gf,e]
   rw [this,ih (by omega),List.take_succ_eq_append_getElem (by omega)]
 rw [h _ (Nat.le_refl _),List.take_length]
theorem vl (L:List aH):∀ i∈List.range L.length,i<L.length:=fun i hi=>List.mem_range.1 hi
theorem VE {L:List aH} {p:List UInt8} {a:List Nat} {k:Nat} (hk:k<a.length) (h:∀ i∈a,i<L.length) :
  fp L p (a.take (k+1))=if p.isPrefixOf (bT (L[a[k]]'(h _ (List.getElem_mem hk))).1)=true then fp L p (a.take k)++[a[k]] else fp L p (a.take k):=by
 have hi:=h _ (List.getElem_mem hk);rw [List.take_succ_eq_append_getElem hk];unfold fp;rw [List.filter_append];have b6:(((L[a[k]]?).map fun x=>bT x.1).getD [])=bT L[a[k]].1:=by rw [List.getElem?_eq_getElem hi,Option.map_some,Option.getD_some]
 split
 ·rename_i q;rw [List.filter_cons,b6,if_pos q];rfl
 ·rename_i q;rw [List.filter_cons,b6,if_neg q];simp
theorem yo {L:List aH}:∀ {a:List Nat},(∀ i∈a,i<L.length)→(gf L a).length=a.length
 |[],_=>rfl
 |i::a,h=>by
  have ih:=yo (L:=L) (a:=a) fun j hj=>h j (by simp [hj]);have e:L[i]?=some (L[i]'(h i (by simp))):=List.getElem?_eq_getElem _
  simpa [gf,e] using ih
theorem FX {L:List aH}:∀ {a:List Nat} (h:∀ i∈a,i<L.length) (k:Nat) (hk:k<a.length),(gf L a)[k]'(by rw [yo h];exact hk)=L[a[k]]'(h _ (List.getElem_mem hk))
 |i::a,h,k,hk=>by
  have e:L[i]?=some (L[i]'(h i (by simp))):=List.getElem?_eq_getElem _;have e2:gf L (i::a)=(L[i]'(h i (by simp)))::gf L a:=by simp [gf,e]
  cases k with
  |zero=>simp [e2]
  |succ k=>simp only [e2,List.getElem_cons_succ];exact FX (fun j hj=>h j (by simp [hj])) k (by simpa using hk)
theorem Jd (n:Nat) (p:List UInt8) (l:List aH):(nx n p l).2.2.2.1=[]∨(nx n p l).2.2.2.1=l:=by
 match l with
 |[]=>rw [D6];exact .inl rfl
 |[x]=>rw [D7];exact .inr rfl
 |x::y::l =>
  cases n with
  |zero=>rw [D8 (by simp)];exact .inr rfl
  |succ n=>rw [D9 (by simp)];exact .inl rfl
theorem KE {L:List aH} (h:L.length≤10000000∧∀ y∈L,y.2.1.length≤10000000) (p:List UInt8):(cF L p).2.2.2.1.length≤10000000∧∀ y∈(cF L p).2.2.2.1,y.2.1.length≤10000000:=by
 have hs:=x7 p L
 rcases Jd (510 - p.length) p (dG p L) with e|e
 ·unfold cF;rw [e];exact ⟨Nat.zero_le _,fun _ q=>by cases q⟩
 ·unfold cF;rw [e];exact ⟨Nat.le_trans hs.length_le h.1,fun y hy=>h.2 y (hs.subset hy)⟩
theorem D_ {x:dJ} (h:gx x):x.2.1.length≤1000000000000∧x.2.2.1.length≤1000000000000:=by
 rcases h.2 with q|q|q|q
 ·rw [q.2.1,q.2.2.1];decide
 ·rw [q.2.1,q.2.2.1];decide
 ·omega
 ·rw [q.2.1,q.2.2.1];decide
theorem E5 (L:List aH) (p:List UInt8):fV (cF L p)=bA L p:=rfl
end Go.Sp
end
end
section
/- Texts of this proof. -/
namespace Go.Sp
section
variable {ro:Option Nat} {P:Program} {fn:Func} {n:Nat} {R:Ending→World→Prop} {k:List Item} {σ:List (Nat × Value)} {D:List Deferred} {g:bh} {U ζ aN:List az} {ops:Array Oper} {i d:Nat} {ls:List Nat}
 {t e:TypeId} {x y z u:Operand} {w:World} {a:Option Addr} {m c s:Nat} {p q r:Nat} {kx ky DT:IntKind}
theorem aD.tT (ht:P.underlying t=some (.slice e)) (he:(P.info? e).map (·.size)=some s) (hx:aA σ x=some (.slice a m c)) (hy:aA σ y=some (.int ky (p:Int))) (hp:p≤c) :
  aD P (.slice t x none (some y) none) σ g U (.slice a p c) U:=.run fun o ρ w ho hk=>by
 simp [execOp,ho,hk x _ hx,hk y _ hy,Instr.sliceAt,run_underlying ht,Instr.slice,Instr.sliceBounds,Instr.sliceBound,asIntOf,hp,run_sizeOf he]
 intro _;cases a<;>simp [Addr.add_zero]
theorem aD.iv (ht:P.underlying t=some (.slice e)) (he:(P.info? e).map (·.size)=some s) (hx:aA σ x=some (.slice a m c)) (hy:aA σ y=some (.int ky (p:Int))) (hp:p≤m) :
  aD P (.slice t x (some y) none none) σ g U (.slice (if c=p then a else a.map (·.add (p*s))) (m - p) (c - p)) U:=.run fun o ρ w ho hk=>by
 simp [execOp,ho,hk x _ hx,hk y _ hy,Instr.sliceAt,run_underlying ht,Instr.slice,Instr.sliceBounds,Instr.sliceBound,asIntOf,hp,run_sizeOf he]
theorem aD.Kk (ht:P.underlying t=some (.slice e)) (he:(P.info? e).map (·.size)=some s) (hx:aA σ x=some (.slice a m c)) (hy:aA σ y=some (.int ky (p:Int))) (hz:aA σ z=some (.int DT (q:Int))) (hp:p≤q) (hq:q≤c) :
  aD P (.slice t x (some y) (some z) none) σ g U (.slice (if c=p then a else a.map (·.add (p*s))) (q - p) (c - p)) U:=.run fun o ρ w ho hk=>by
 simp [execOp,ho,hk x _ hx,hk y _ hy,hk z _ hz,Instr.sliceAt,run_underlying ht,Instr.slice,Instr.sliceBounds,Instr.sliceBound,asIntOf,hp,hq,run_sizeOf he]
theorem aD.Kj {Rh:IntKind} (ht:P.underlying t=some (.slice e)) (he:(P.info? e).map (·.size)=some s) (hx:aA σ x=some (.slice a m c)) (hy:aA σ y=some (.int ky (p:Int))) (hz:aA σ z=some (.int DT (q:Int))) (hu:aA σ u=some (.int Rh (r:Int))) (hp:p≤q) (hq:q≤r) (hr:r≤c) :
  aD P (.slice t x (some y) (some z) (some u)) σ g U (.slice (if r=p then a else a.map (·.add (p*s))) (q - p) (r - p)) U:=.run fun o ρ w ho hk=>by
 simp [execOp,ho,hk x _ hx,hk y _ hy,hk z _ hz,hk u _ hu,Instr.sliceAt,run_underlying ht,Instr.slice,Instr.sliceBounds,Instr.sliceBound,asIntOf,hp,hq,hr,run_sizeOf he]
theorem av.vp {α:Type} {T:ag α} {e:TypeId} {xs:List α} {a:Option Addr} {m c:Nat} {h:Fr} (x:av T e (.slice a m c) xs h) (h0:0<xs.length):(∃ b,a=some ⟨b,0,none⟩)∧m=xs.length∧xs.length≤c∧c≤9223372036854775807:=by
 obtain ⟨ak,h1,h2,h3|⟨b,cap,cur,h4,h5,h6,h7,h8,h9⟩⟩:=x
 ·omega
 ·injection h4 with e1 e2 b6
  subst e1 e2 b6;exact ⟨⟨b,rfl⟩,rfl,h6,h7⟩
theorem qg {k:Nat} {ak:List (List Value)} (h:∀ cs∈ak,cs.length=k):ak.flatten.length=ak.length*k:=by
 induction ak with
 |nil=>simp
 |cons x ak ih =>
  rw [List.flatten_cons,List.length_append,ih (fun cs hc=>h cs (List.mem_cons_of_mem _ hc)),h x (List.mem_cons_self ..),List.length_cons,Nat.add_mul,Nat.one_mul,Nat.add_comm]
theorem yA {k:Nat} {ak:List (List Value)} (h:∀ cs∈ak,cs.length=k) (i:Nat):ak.flatten.take (i*k)=(ak.take i).flatten:=by
 induction ak generalizing i with
 |nil=>simp
 |cons x ak ih =>
  cases i with
  |zero=>simp
  |succ i =>
   have hx:=h x (List.mem_cons_self ..);rw [List.flatten_cons,List.take_succ_cons,List.flatten_cons,Nat.add_mul,Nat.one_mul,← ih (fun cs hc=>h cs (List.mem_cons_of_mem _ hc)) i,List.take_append,hx];rw [List.take_of_length_le (by omega),show i*k+k - k=i*k from by omega]
theorem BG {k:Nat} {ak:List (List Value)} (h:∀ cs∈ak,cs.length=k) (i:Nat):ak.flatten.drop (i*k)=(ak.drop i).flatten:=by
 induction ak generalizing i with
 |nil=>simp
 |cons x ak ih =>
  cases i with
  |zero=>simp
  |succ i =>
   have hx:=h x (List.mem_cons_self ..);rw [List.flatten_cons,List.drop_succ_cons,Nat.add_mul,Nat.one_mul,← ih (fun cs hc=>h cs (List.mem_cons_of_mem _ hc)) i,List.drop_append,hx];rw [List.drop_of_length_le (by omega),show i*k+k - k=i*k from by omega,List.nil_append]
theorem q7 {k:Nat}:∀ {ak ds:List (List Value)},bY ((ag.cells k).rel Fr.emp) ak ds→ak=ds∧(∀ cs∈ak,cs.length=k)∧∀ cs∈ak,∀ v∈cs,v.oneCell' =true
 |[],[],_=>⟨rfl,by simp,by simp⟩
 |[],_::_,h=>h.elim
 |_::_,[],h=>h.elim
 |x::ak,y::ds,h=>by
  obtain ⟨h1,h2,h3⟩:=h.1;obtain ⟨q1,q2,cH⟩:=q7 h.2;subst h1 q1;exact ⟨rfl,List.forall_mem_cons.2 ⟨h2,q2⟩,List.forall_mem_cons.2 ⟨h3,cH⟩⟩
theorem q8 {k:Nat}:∀ {ak:List (List Value)},(∀ cs∈ak,cs.length=k)→(∀ cs∈ak,∀ v∈cs,v.oneCell' =true)→bY ((ag.cells k).rel Fr.emp) ak ak
 |[],_,_=>trivial
 |x::_,h1,h2=>⟨⟨rfl,h1 x (List.mem_cons_self ..),h2 x (List.mem_cons_self ..)⟩,q8 (fun cs hc=>h1 cs (List.mem_cons_of_mem _ hc)) fun cs hc=>h2 cs (List.mem_cons_of_mem _ hc)⟩
theorem G0 {ak:List (List Value)} (h:∀ cs∈ak,∀ v∈cs,v.oneCell' =true):∀ v∈ak.flatten,v.oneCell' =true:=fun v hv=>by
 obtain ⟨cs,hc,hv⟩:=List.mem_flatten.1 hv;exact h cs hc v hv
theorem erase_eq {α:Type} (xs:List α) (i:Nat):xs.eraseIdx i=xs.take i++xs.drop (i+1):=List.eraseIdx_eq_take_drop_succ _ _
theorem bE.ym {K ck:Nat} {jN:List Value} {ak:List (List Value)} {j:Nat} (ht:P.underlying t=some (.slice e)) (he:dy P e K ck jN) (hj:j<ak.length)
  (hx:aA σ x=some (.slice a j c)) (hy:aA σ y=some (.slice (if c=j+1 then a else a.map (·.add ((j+1)*K))) (ak.length - (j+1)) (c - (j+1)))) (hs:bf U (av (ag.cells K) e (.slice a ak.length c) ak) ζ) :
  bE P (.call ⟨.builtin .append,#[x,y],#[t,t]⟩) σ g U fun v ax =>v=.slice a (ak.length - 1) c∧ax =av (ag.cells K) e (.slice a (ak.length - 1) c) (ak.eraseIdx j)::ζ :=
 fun o ρ w ho hkn hw=>by
  have hw1:=hw.cu hs;obtain ⟨b,cap,cur,bF,hv,h1,h2,h3,h4,ha,fz,hfz,hb⟩:=hw1.oe (by omega);obtain ⟨rfl,hlen,hone⟩:=q7 ha
  injection hv with e1 _ b6
  subst e1 b6;obtain ⟨info,cz,hi,_,hsz,_,_,_⟩:=he;have hkk:(ag.cells K).k=K:=rfl;rw [hkk] at h3 h4 hfz;have hmul:bF.length*K≤c*K:=Nat.mul_le_mul_right K h1;have dY:cur.toList.length=c*K:=by simpa using h3
  let news:=(bF.drop (j+1)).flatten
  have hnl:news.length=(bF.length - (j+1))*info.size:=by
   rw [hsz];have:=qg (k:=K) (ak:=bF.drop (j+1)) (fun cs hc=>hlen cs (List.mem_of_mem_drop hc));rw [List.length_drop] at this;exact this
  have C9:news=(cur.toList.take (bF.length*K)).drop ((j+1)*K):=by rw [h4,BG hlen]
  have kY:=hb.block;have hcell:∀ iP v,news[iP]?=some v→w.cell? ⟨b,(j+1)*K+iP,none⟩=some v:=fun iP v hv=>by
   rw [C9,List.getElem?_drop,List.getElem?_take] at hv
   split at hv
   ·simp only [World.cell?,kY]
    simpa using hv
   ·cases hv
  have Xm:j*K+K+(bF.length - (j+1))*K=bF.length*K:=by
   have:bF.length=j+1+(bF.length - (j+1)):=by omega
   rw [this,Nat.add_mul,Nat.add_mul,Nat.one_mul]
   simp
  have hr:∃ ad,(if c=j+1 then some (⟨b,0,none⟩:Addr) else (some (⟨b,0,none⟩:Addr)).map (·.add ((j+1)*K)))=some ad∧∀ iP v,news[iP]?=some v→w.cell? (ad.add iP)=some v:=by
   by_cases hc:c=j+1
   ·refine ⟨⟨b,0,none⟩,by rw [if_pos hc],fun iP v hv=>?_⟩
    have:news=[]:=List.length_eq_zero_iff.1 (by rw [hnl,show bF.length - (j+1)=0 by omega,Nat.zero_mul]);rw [this] at hv;cases hv
   ·refine ⟨⟨b,(j+1)*K,none⟩,by rw [if_neg hc];simp [add_lit],fun iP v hv=>?_⟩
    rw [add_lit];exact hcell iP v hv
  obtain ⟨ad,had,hnews⟩:=hr;rw [had] at hy;have hfit:j*info.size+news.length≤cur.size:=by rw [hnl,hsz,h3];omega
  have hrun:=JW (P:=P) w t o.type e info ht hi b j c cur kY (by rw [h3];exact hfz) ad (bF.length - (j+1)) (c - (j+1)) news hnl hnews
   (fun v hv=>G0 (fun cs hc=>hone cs (List.mem_of_mem_drop hc)) v hv) (by omega) hfit
  rw [show j+(bF.length - (j+1))=bF.length - 1 by omega] at hrun;refine ⟨_,w.setRow b (cur.toList.take (j*info.size)++news++cur.toList.drop (j*info.size+news.length)).toArray,_,⟨rfl,rfl⟩,by simp only [execOp,ho,resolve,invoke,builtin,List.map_toArray,List.map_cons,List.map_nil,hkn x _ hx,hkn y _ hy,Sem.run_bind,hrun,Sem.run_pure,Result.andThen],?_⟩;refine (hb.setRow (cs:=(cur.toList.take (j*info.size)++news++cur.toList.drop (j*info.size+news.length)).toArray)).imp fun _ x=>Sat.fe (fun m' hm' =>?_) (fun _ z=>z) x;have hel:(bF.eraseIdx j).length=bF.length - 1:=List.length_eraseIdx_of_lt hj;have hsub:∀ cs∈bF.eraseIdx j,cs∈bF :=fun cs hc=>List.mem_of_mem_eraseIdx hc;refine ⟨bF.eraseIdx j,q8 (fun cs hc=>hlen cs (hsub cs hc)) (fun cs hc=>hone cs (hsub cs hc)),?_,.inr ⟨b,c,_,by rw [hel],⟨fz,hm',hfz⟩,by omega,h2,?_,?_⟩⟩
  ·rw [qg (fun cs hc=>hlen cs (hsub cs hc)),hkk]
  ·simp only [List.size_toArray,List.length_append,List.length_take,List.length_drop,hkk]
   rw [hnl,hsz,dY]
   omega
  ·rw [hel,hkk,erase_eq,List.flatten_append]
   have e1:cur.toList.take (j*info.size)=(bF.take j).flatten:=by
    rw [hsz,← yA hlen,← h4,List.take_take,Nat.min_eq_left (by omega)]
   have e2:(bF.length - 1)*K=((bF.take j).flatten++news).length:=by
    rw [List.length_append,hnl,hsz,qg (fun cs hc=>hlen cs (List.mem_of_mem_take hc)),List.length_take,Nat.min_eq_left (by omega),← Nat.add_mul]
    congr 1;omega
   rw [e1,List.toList_toArray,e2,List.take_left']
   rfl
theorem af.ym {K ck:Nat} {jN:List Value} {ak:List (List Value)} {j:Nat} (ho:bJ ops i n σ d (.call ⟨.builtin .append,#[x,y],#[t,t]⟩)) (hd:eu ops [i] ls=true) (ht:P.underlying t=some (.slice e)) (he:dy P e K ck jN) (hj:j<ak.length)
  (hx:aA σ x=some (.slice a j c)) (hy:aA σ y=some (.slice (if c=j+1 then a else a.map (·.add ((j+1)*K))) (ak.length - (j+1)) (c - (j+1)))) (hs:bf U (av (ag.cells K) e (.slice a ak.length c) ak) ζ)
  (h:af P fn n R ops k D g ls ((d,.slice a (ak.length - 1) c)::σ) (av (ag.cells K) e (.slice a (ak.length - 1) c) (ak.eraseIdx j)::ζ)):af P fn n R ops k D g (i::ls) σ U :=
 aK.perm hs.perm (af.fU (U:=av (ag.cells K) e (.slice a ak.length c) ak::ζ) (K:=fun v ax =>v=.slice a (ak.length - 1) c∧ax =av (ag.cells K) e (.slice a (ak.length - 1) c) (ak.eraseIdx j)::ζ) ho rfl hd
  (fun ua =>(bE.ym ht he hj hx hy bf.here).imp fun _ _ ⟨h1,h2⟩=>⟨_,⟨h1,rfl⟩,h2⟩) (by rintro _ _ ⟨rfl,rfl⟩;exact h))
theorem O.BH {K ck:Nat} {jN:List Value} {ak:List (List Value)} {b m' :Nat} (ho:j5 ops i=some (.call ⟨.builtin .clear,#[x],#[t]⟩)) (ht:P.underlying t=some (.slice e)) (he:dy P e K ck jN) (u0:∀ v∈jN,v.oneCell' =true) (hK:0<K) (h0:ak.length<m') (hm:m' ≤c)
  (hx:aA σ x=some (.slice (if c=ak.length then some ⟨b,0,none⟩ else (some (⟨b,0,none⟩:Addr)).map (·.add (ak.length*K))) (m' - ak.length) (c - ak.length))) (hs:bf U (av (ag.cells K) e (.slice (some ⟨b,0,none⟩) ak.length c) ak) ζ)
  (h:O ro P fn n R ops ls k σ D g (av (ag.cells K) e (.slice (some ⟨b,0,none⟩) ak.length c) ak::ζ)):O ro P fn n R ops (i::ls) k σ D g U:=by
 intro act w hf hd hw
 obtain ⟨o,hi,ek,hop,hg⟩:=o7 ho;have hw1:=hw.cu hs;obtain ⟨p1,p2,p3,K5,nV,s1,s2,k1,k2,kd,t1,t2,⟨bF,ha,hl,hA⟩,hr⟩:=hw1;obtain ⟨rfl,hlen,hone⟩:=q7 ha
 rcases hA with ⟨hv,_⟩|⟨b',cap,cur,hv,⟨fz,hb,hz⟩,h1,h2,h3,h4⟩
 ·cases hv
 ·injection hv with e1 _ b6
  injection e1 with e1
  injection e1 with e1
  subst e1 b6;have hkk:(ag.cells K).k=K:=rfl;rw [hkk] at h3 h4 hz;have hb0:Holds w g (blk b (.cells cur e fz)::ζ):=⟨p1,p2,p3,K5,nV,s1,s2,k1,k2,kd,t1,t2,hb,hr⟩;rw [if_neg (by omega:¬ c=bF.length)] at hx;simp only [Option.map_some,add_lit,Nat.zero_add] at hx;obtain ⟨info,cz,hin,PI,hsz,_,kv,hzl⟩:=he;have pN:(Builtin.zeroCells cz.cells (m' - bF.length)).toList=e9 jN (m' - bF.length):=by
   have hzs:cz.cells.size=K:=by rw [← hzl,← kv];simp
   have:=xC cz.cells (m' - bF.length) (by omega);rw [kv] at this;rw [← this];rfl
  have hrl:(e9 jN (m' - bF.length)).length=(m' - bF.length)*K:=by rw [rT,hzl]
  have hmul:bF.length*K+(m' - bF.length)*K=m' *K:=by rw [← Nat.add_mul];congr 1;omega
  have zk:m' *K≤c*K:=Nat.mul_le_mul_right K hm;have hro:∀ v∈e9 jN (m' - bF.length),v.oneCell' =true:=by
   generalize m' - bF.length=q
   induction q with
   |zero=>simp [e9]
   |succ q ih=>intro v hv;simp only [e9,List.mem_append] at hv;exact hv.elim (u0 v) (ih v)
  have hst:=r7 P b (bF.length*K) e (by rw [h3];exact hz:q4 fz cur.size) (e9 jN (m' - bF.length)) 0 cur w hb0.block (Nat.le_refl _) (by rw [hrl,h3];omega) hro;simp only [Nat.add_zero] at hst;have rO:(zeroValue e).run P w=.ok cz w:=EM (by simp [zeroOf,hin,PI]) w;obtain ⟨q0,Dp⟩:∃ q0,m' - bF.length=q0+1:=⟨m' - bF.length - 1,by omega⟩;have N5:(Builtin.clear_ #[t] o.type #[.slice (some ⟨b,bF.length*K,none⟩) (m' - bF.length) (c - bF.length)]).run P w=.ok (.tuple #[]) (w.setRow b (cur.toList.take (bF.length*K)++e9 jN (m' - bF.length)++cur.toList.drop (bF.length*K+(e9 jN (m' - bF.length)).length)).toArray):=by
   rw [Dp] at hst pN ⊢;simp only [Builtin.clear_,List.getElem?_toArray,List.getElem?_cons_zero,Sem.run_bind,run_underlying ht,Result.andThen,rO,pN,hst,Sem.run_pure]
  have hrun:(execOp act.eval o).run P w=.ok (.value (.tuple #[])) (w.setRow b (cur.toList.take (bF.length*K)++e9 jN (m' - bF.length)++cur.toList.drop (bF.length*K+(e9 jN (m' - bF.length)).length)).toArray):=by
   simp [execOp,hop,resolve,invoke,builtin,hf.j3 x _ hx,N5]
  refine O.mi hi (by simp [Region.wanted,hg]) (by rw [hop];intro c hc;cases hc) hrun ?_;rw [Oper.uponIn_value,ek];refine h _ _ hf hd ?_;refine (hb0.setRow (cs:=(cur.toList.take (bF.length*K)++e9 jN (m' - bF.length)++cur.toList.drop (bF.length*K+(e9 jN (m' - bF.length)).length)).toArray)).imp fun _ x=>Sat.fe (fun m0 hm0=>?_) (fun _ z=>z) x;have dY:cur.toList.length=c*K:=by simpa using h3
  refine ⟨bF,q8 hlen hone,hl,.inr ⟨b,c,_,rfl,⟨fz,hm0,hz⟩,h1,h2,?_,?_⟩⟩
  ·simp only [List.size_toArray,List.length_append,List.length_take,List.length_drop,hkk]
   rw [hrl,dY]
   omega
  ·rw [hkk,List.toList_toArray,List.append_assoc,List.take_append,List.length_take,dY,Nat.min_eq_left (by omega),Nat.sub_self,List.take_zero,List.append_nil,List.take_take,Nat.min_self]
   exact h4
end
end Go.Sp
end
end
section
/- Texts of this proof, one behind the other. -/
section
/- Texts of this proof. -/
open Go
namespace Go.Sp
def jP (q d k:Fr):Prop:=∀ i o,q i=some o→d i=some o∨k i=some o
theorem jP.own (d k:Fr):jP k d k:=fun _ _ h=>.inr h
theorem jP.mono {q d k k' :Fr} (s:k.sub k') (h:jP q d k):jP q d k' :=fun i o e=>(h i o e).imp id (s i o)
theorem jP.sub {q d k g:Fr} (hd:d.sub g) (hk:k.sub g) (h:jP q d k):q.sub g:=fun i o e=>(h i o e).elim (hd i o) (hk i o)
section
variable {α:Type}
def ag.fP (d k:Fr) (T:ag α):ag α:={ k:=T.k,rel:=fun _ cs a=>∃ q,jP q d k∧T.rel q cs a,len:=fun ⟨_,_,h⟩=>T.len h,mono:=fun _ h=>h,one:=fun ⟨_,_,h⟩=>T.one h }
theorem ag.yJ {T:ag α} {d k h g:Fr} {cs:List Value} {a:α} (hd:d.sub g) (hk:k.sub g):(ag.fP d k T).rel h cs a→T.rel g cs a:=fun ⟨_,c,x⟩=>T.mono (c.sub hd hk) x
theorem ag.yI {T:ag α} {d k k' h h' :Fr} {cs:List Value} {a:α} (s:k.sub k'):(ag.fP d k T).rel h cs a→(ag.fP d k' T).rel h' cs a:=fun ⟨q,c,x⟩=>⟨q,c.mono s,x⟩
theorem av.imp {T kF:ag α} {e:TypeId} {v:Value} {xs:List α} {m:Fr} (hk:T.k=kF.k) (h:∀ cs a,T.rel Fr.emp cs a→kF.rel Fr.emp cs a):av T e v xs m→av kF e v xs m:=fun ⟨ak,a,o⟩=>⟨ak,a.imp fun _ _=>h _ _,by rw [← hk];exact o⟩
theorem av.yI {T:ag α} {e:TypeId} {d k k' :Fr} {v:Value} {xs:List α} {m:Fr} (s:k.sub k') (x:av (ag.fP d k T) e v xs m):av (ag.fP d k' T) e v xs m:=av.imp (T:=ag.fP d k T) (kF:=ag.fP d k' T) rfl (fun _ _=>ag.yI s) x
theorem aj.yJ {T:ag α} {d k h:Fr} {v:Value} {xs:List α} (hd:d.sub h) (hk:k.sub h):aj (ag.fP d k T) h v xs→aj T h v xs:=fun ⟨ak,a,b⟩=>⟨ak,a.imp fun _ _ x=>ag.yJ hd hk x,b⟩
end
def iy (d k:Fr) (L:List aH) (M:List (b8 (List UInt8))):Prop:=∀ p v,cG M p=some v→kD p∧∃ q,jP q d k∧aj ag.u8 q v (bA L p)
theorem iy.mono {d k k' :Fr} {L:List aH} {M:List (b8 (List UInt8))} (s:k.sub k') (h:iy d k L M):iy d k' L M:=fun p v e=>⟨(h p v e).1,(h p v e).2.elim fun q x=>⟨q,x.1.mono s,x.2⟩⟩
theorem iy.nil (d k:Fr) (L:List aH):iy d k L []:=fun p v h=>by cases h
theorem iy.put {d k:Fr} {L:List aH} {M:List (b8 (List UInt8))} {c:Nat} {p:List UInt8} {v:Value} (h:iy d k L M) (hp:kD p) (hv:∃ q,jP q d k∧aj ag.u8 q v (bA L p)):iy d k L (ir M c p v):=fun j u e=>by
 rw [G8] at e
 split at e
 ·rename_i q;subst q;cases e;exact ⟨hp,hv⟩
 ·exact h j u e
structure eV where
 tree:TypeId
 leaf:TypeId
 str:TypeId
def dS (aN:eV) (d k:Fr) (b:Nat) (s:Nat) (L:List aH):az:=fun m=>∃ c8 c9 mid M c,(gB M c∧iy d k L M) ∧
 Sat [obj b aN.tree [c8,c9,.int .i64 (s:Int),.map (some mid)],av (ag.fP d k cq) aN.leaf c8 L,av ag.str aN.str c9 (L.map fun y=>bT y.1),cc encS mid M c] m
def jt (k:Fr):az:=fun m=>m=k
def bp (aN:eV) (d:Fr) (b:Nat) (s:Nat) (L:List aH):az:=fun m=>∃ k,Sat [jt k,dS aN d k b s L] m
def je (aN:eV) (d:Fr) (b:Nat) (s:Nat) (L:List aH) (v:Value) (xs:List UInt8):az:=fun m=>∃ k,(∃ q,jP q d k∧aj ag.u8 q v xs)∧Sat [jt k,dS aN d k b s L] m
abbrev ag.nat:ag Nat:=ag.Gu (fun n:Nat=>(n:Int)) ag.i64
def kf (h:Fr) (b:Nat) (s:Nat) (L:List aH):Prop:=∃ cO cQ cB cC mid,At h ⟨b,0,none⟩ [.slice cO L.length cQ,.slice cB L.length cC,.int .i64 (s:Int),.map (some mid)]∧aj cq h (.slice cO L.length cQ) L∧aj ag.str h (.slice cB L.length cC) (L.map fun y=>bT y.1)
theorem kf.mono {h h' :Fr} {b s:Nat} {L:List aH} (e:h.sub h'):kf h b s L→kf h' b s L:=fun ⟨a,c,x,y,mid,h1,h2,h3⟩=>⟨a,c,x,y,mid,h1.mono e,h2.mono e,h3.mono e⟩
theorem dS.a {aN:eV} {d k g:Fr} {b s:Nat} {L:List aH} {m:Fr} (hd:d.sub g) (hk:k.sub g) (hm:m.sub g):dS aN d k b s L m→kf g b s L:=fun ⟨c8,c9,mid,M,c,_,hs⟩=>by
 obtain ⟨m1,_,_,s1,t1,o,m2,_,_,s2,t2,sr,m3,_,_,s3,_,vu,_⟩:=hs;have h1:m2.sub m:=Fr.aI s2 t1;have h2:m3.sub m:=Fr.aI s3 (Fr.aI t2 t1);obtain ⟨cO,cQ,rfl⟩:=sr.shape;obtain ⟨cB,cC,hw⟩:=vu.shape;rw [List.length_map] at hw;subst hw;refine ⟨cO,cQ,cB,cC,mid,((fK o).mono s1).mono hm,?_,(vu.arr.mono h2).mono hm⟩;exact ((sr.arr.mono h1).mono hm).yJ hd hk
theorem bp.a {aN:eV} {d g:Fr} {b s:Nat} {L:List aH} {m:Fr} (hd:d.sub g) (hm:m.sub g):bp aN d b s L m→kf g b s L:=fun ⟨k,h⟩=>by
 obtain ⟨m1,_,_,s1,t1,o,m2,_,_,s2,t2,sr,_⟩:=h
 cases (o:m1=k)
 exact dS.a hd (Fr.aI s1 hm) (Fr.aI (Fr.aI s2 t1) hm) sr
theorem z6 {α:Type} {T:ag α} {e:TypeId}:av T e (.slice none 0 0) ([]:List α) Fr.emp:=⟨[],trivial,(Nat.zero_mul _).symm,.inl ⟨rfl,rfl⟩⟩
theorem U9 {aN:eV} {b mid s:Nat} {m:Fr} (h:Sat [obj b aN.tree [.slice none 0 0,.slice none 0 0,.int .i64 (s:Int),.map (some mid)],cc encS mid [] 0] m):bp aN Fr.emp b s [] m:=by
 obtain ⟨m1,m2,d,s1,s2,o,m3,m4,d2,s3,oh,x,_⟩:=h;refine ⟨Fr.emp,Fr.emp,m,Fr.dW _,Fr.c4 _,Fr.bW _,rfl,m,Fr.emp,Fr.eX (Fr.dW _),Fr.bW _,Fr.c4 _,⟨.slice none 0 0,.slice none 0 0,mid,[],0,⟨gB.nil,iy.nil _ _ _⟩,?_⟩,trivial⟩;exact ⟨m1,m2,d,s1,s2,o,Fr.emp,m2,Fr.dW _,Fr.c4 _,Fr.bW _,z6,Fr.emp,m2,Fr.dW _,Fr.c4 _,Fr.bW _,z6,m3,m4,d2,s3,oh,x,trivial⟩
structure bP (d:Fr) (L:List aH) where
 k:Fr
 c8:Value
 c9:Value
 mid:Nat
 M:List (b8 (List UInt8))
 c:Nat
 wf:gB M c
 ok:iy d k L M
abbrev bP.ws {d:Fr} {L:List aH} (aN:eV) (b s:Nat) (x:bP d L):List az :=
 [jt x.k,obj b aN.tree [x.c8,x.c9,.int .i64 (s:Int),.map (some x.mid)],av (ag.fP d x.k cq) aN.leaf x.c8 L,av ag.str aN.str x.c9 (L.map fun y=>bT y.1),cc encS x.mid x.M x.c]
theorem bp.gy {aN:eV} {d:Fr} {b s:Nat} {L:List aH} {m:Fr}:bp aN d b s L m→∃ x:bP d L,Sat (x.ws aN b s) m
 |⟨k,m1,m2,d1,s1,s2,o,_,_,_,s3,_,⟨c8,c9,mid,M,c,⟨h1,h2⟩,hs⟩,_⟩=>⟨⟨k,c8,c9,mid,M,c,h1,h2⟩,m1,m2,d1,s1,s2,o,Sat.mono s3 hs⟩
theorem bp.fold {aN:eV} {d:Fr} {b s:Nat} {L:List aH} {m:Fr} (x:bP d L):Sat (x.ws aN b s) m→bp aN d b s L m
 |⟨m1,m2,d1,s1,s2,o,hs⟩=>⟨x.k,m1,m2,d1,s1,s2,o,m2,Fr.emp,Fr.eX (Fr.dW _),Fr.bW _,Fr.c4 _,⟨x.c8,x.c9,x.mid,x.M,x.c,⟨x.wf,x.ok⟩,hs⟩,trivial⟩
theorem je.fold {aN:eV} {d:Fr} {b s:Nat} {L:List aH} {m:Fr} (x:bP d L) {p:List UInt8} {v:Value} (e:cG x.M p=some v):Sat (x.ws aN b s) m→je aN d b s L v (bA L p) m
 |⟨m1,m2,d1,s1,s2,o,hs⟩=>⟨x.k,(x.ok p v e).2,m1,m2,d1,s1,s2,o,m2,Fr.emp,Fr.eX (Fr.dW _),Fr.bW _,Fr.c4 _,⟨x.c8,x.c9,x.mid,x.M,x.c,⟨x.wf,x.ok⟩,hs⟩,trivial⟩
attribute [local irreducible] bA
abbrev bP.KX {d:Fr} {L:List aH} (aN:eV) (b s:Nat) (x:bP d L) (e:TypeId) (v:Value) (p xs:List UInt8):List az :=
 [jt x.k,av ag.u8 e v xs,obj b aN.tree [x.c8,x.c9,.int .i64 (s:Int),.map (some x.mid)],av (ag.fP d x.k cq) aN.leaf x.c8 L,av ag.str aN.str x.c9 (L.map fun y=>bT y.1),cc encS x.mid (ir x.M x.c p v) (kI x.M x.c p)]
theorem je.put {aN:eV} {d:Fr} {b s:Nat} {L:List aH} {m:Fr} {e:TypeId} (x:bP d L) {p:List UInt8} {v:Value} {xs:List UInt8} (hp:kD p) (hx:xs=bA L p)
  (h:Sat (x.KX aN b s e v p xs) m) :
  je aN d b s L v (bA L p) m:=by
 subst hx;obtain ⟨n1,r1,d1,s1,s2,o1,n2,m2,d2,t1,t2,o2,hs⟩:=h;have e1:n1=x.k:=o1;have BZ:(n1.add n2).cI m2:=Fr.pJ (fun i=>(d1 i).imp id fun q=>by
  cases c:m2 i with
  |none=>rfl
  |some o=>rw [t2 i o c] at q;cases q) d2
 have d12:n1.cI n2:=fun i=>(d1 i).imp id fun q=>by
  cases c:n2 i with
  |none=>rfl
  |some o=>rw [t1 i o c] at q;cases q
 have sm:(n1.add n2).sub m:=Fr.hG s1 (Fr.aI t1 s2);have hk:x.k.sub (n1.add n2):=e1 ▸ Fr.cw n1 n2;have hv:∃ q,jP q d (n1.add n2)∧aj ag.u8 q v (bA L p):=⟨n1.add n2,jP.own _ _,o2.arr.mono (Fr.dA d12)⟩;have hs' :dS aN d (n1.add n2) b s L m2:=by
  obtain ⟨a1,a2,da,sa,sb,q1,b1,b2,db,sc,sd,q2,cH⟩:=hs;exact ⟨x.c8,x.c9,x.mid,ir x.M x.c p v,kI x.M x.c p,⟨Ag x.wf p v,(x.ok.mono hk).put (c:=x.c) hp hv⟩,a1,a2,da,sa,sb,q1,b1,b2,db,sc,sd,q2.yI hk,cH⟩
 exact ⟨n1.add n2,hv,n1.add n2,m2,BZ,sm,Fr.aI t2 s2,rfl,m2,Fr.emp,Fr.eX (Fr.dW _),Fr.bW _,Fr.c4 _,hs',trivial⟩
theorem bp.jF {aN:eV} {d g:Fr} {b s:Nat} {L:List aH} {m:Fr} {U:List az} (hd:d.sub g) (hm:g.cI m):Sat (bp aN d b s L::U) m→kf (g.add m) b s L
 |⟨_,_,_,s1,_,o,_⟩=>bp.a (Fr.aI hd (Fr.cw _ _)) (Fr.aI s1 (Fr.dA hm)) o
theorem je.jF {aN:eV} {d g:Fr} {b s:Nat} {L:List aH} {v:Value} {xs:List UInt8} {m:Fr} (hd:d.sub g) (hm:g.cI m):Sat [je aN d b s L v xs] m→aj ag.u8 (g.add m) v xs
 |⟨_,_,_,s1,_,⟨k,⟨q,c,a⟩,n1,_,_,t1,_,o,_⟩,_⟩=>a.mono (c.sub (Fr.aI hd (Fr.cw _ _)) (by
  have e:n1=k:=o;exact e ▸ Fr.aI t1 (Fr.aI s1 (Fr.dA hm))))
theorem je.toX {aN:eV} {d:Fr} {b s:Nat} {L:List aH} {v:Value} {xs:List UInt8} {m:Fr}:Sat [je aN d b s L v xs] m→bp aN d b s L m
 |⟨_,_,_,s1,_,⟨k,_,n1,n2,bc,t1,t2,o,hs⟩,_⟩=>⟨k,n1,n2,bc,Fr.aI t1 s1,Fr.aI t2 s1,o,hs⟩
theorem RA {α:Type} {G:bR α} {e:TypeId} {v:Value} {m:Fr} {k:Nat} (hk:G.jb.k=k):Sat [av (ag.cells k) e v []] m→c_ G e v [] m
 |⟨m1,m2,d,s1,s2,o,_⟩=>by subst hk;exact ⟨[],m1,m2,d,s1,s2,o,m2,Fr.emp,Fr.eX (Fr.dW _),Fr.bW _,Fr.c4 _,trivial,trivial⟩
theorem Jr {α:Type} {A:az} {T:ag α} {e:TypeId} {v:Value} {xs:List α} {m:Fr} {U:List az} (h:Sat (A::av T e v xs::U) m):aj T m v xs:=by
 obtain ⟨_,_,_,_,s2,_,m3,_,_,s3,_,o,_⟩:=h;exact o.arr.mono (Fr.aI s3 s2)
theorem aD.sk {P:Program} {σ:List (Nat × Value)} {g:bh} {U ζ:List az} {t:TypeId} {x:Operand} {aN:eV} {d:Fr} {b s:Nat} {L:List aH} (ht:dR P t=true) (hx:aA σ x=some (.pointer (some ⟨b,2,none⟩))) (hs:bf U (bp aN d b s L) ζ) :
  aD P (.load t x) σ g U (.int .i64 (s:Int)) U:=fun o ρ w ho hk hw=>⟨w,by
 obtain ⟨_,_,_,k,_,_,s2,k1,_,_,t1,_,VT,_⟩:=hw.cu hs;obtain ⟨y,m1,m2,_,_,u2,_,m3,_,_,Vy,_,o,_⟩:=bp.gy VT;have hb:w.heap[b]?=some (.cells [y.c8,y.c9,.int .i64 (s:Int),.map (some y.mid)].toArray aN.tree (0,0)):=s2 _ _ (t1 _ _ (u2 _ _ (Vy _ _ o)));have hc:w.cell? ⟨b,2,none⟩=some (.int .i64 (s:Int)):=by simp [World.cell?,hb]
 simp [execOp,ho,hk x _ hx,Instr.loadAt,Instr.sureAddr,loadVar,r6 (ru ht),hc],hw⟩
theorem bO.cr {P:Program} {fn:Func} {n:Nat} {R:Ending→World→Prop} {k:List Item} {σ:List (Nat × Value)} {D:List Deferred} {g:bh} {U:List az} {ops:Array Oper} {l:List Nat} {i d:Nat} {t:TypeId} {x:Operand} {v:Value}
  (ho:bJ ops i n σ d (.load t x)) (_:true=true) (de:∀ ζ,aD P (.load t x) σ g (U++ζ) v (U++ζ)) (h:af P fn n R ops k D g l ((d,v)::σ) U):aK P fn n R ops k D g true (i::l) σ U :=
 bO.fU (K:=fun v' ax =>v' =v∧ax =U) ho rfl rfl (fun ζ o ρ w h1 h2 h3=>let ⟨w',a,b⟩:=de ζ o ρ w h1 h2 h3;⟨v,w',U++ζ,⟨U,⟨rfl,rfl⟩,rfl⟩,a,b⟩) (by rintro _ _ ⟨rfl,rfl⟩;exact h)
theorem dS.Si {aN:eV} {d k g:Fr} {b s:Nat} {L:List aH} {m:Fr} (hd:d.sub g) (hk:k.sub g):dS aN d k b s L m→dS aN g Fr.emp b s L m
 |⟨c8,c9,mid,M,c,⟨h1,h2⟩,a1,a2,da,sa,sb,q1,b1,b2,db,sc,sd,q2,cH⟩=>⟨c8,c9,mid,M,c,⟨h1,fun p v e=>⟨(h2 p v e).1,(h2 p v e).2.elim fun q x=>⟨q,fun i o z=>.inl (x.1.sub hd hk i o z),x.2⟩⟩⟩,a1,a2,da,sa,sb,q1,b1,b2,db,sc,sd,
  av.imp (T:=ag.fP d k cq) (kF:=ag.fP g Fr.emp cq) rfl (fun _ _ ⟨q,x,y⟩=>⟨q,fun i o z=>.inl (x.sub hd hk i o z),y⟩) q2,cH⟩
theorem dS.toX {aN:eV} {d:Fr} {b s:Nat} {L:List aH} {m:Fr}:Sat [dS aN d Fr.emp b s L] m→bp aN d b s L m
 |⟨m1,_,_,s1,_,o,_⟩=>⟨Fr.emp,Fr.emp,m1,Fr.dW _,Fr.c4 _,s1,rfl,m1,Fr.emp,Fr.eX (Fr.dW _),Fr.bW _,Fr.c4 _,o,trivial⟩
abbrev bP.p4 {d:Fr} {L:List aH} (aN:eV) (b s:Nat) (x:bP d L):List az :=
 [obj b aN.tree [x.c8,x.c9,.int .i64 (s:Int),.map (some x.mid)],av (ag.fP d x.k cq) aN.leaf x.c8 L,av ag.str aN.str x.c9 (L.map fun y=>bT y.1),cc encS x.mid x.M x.c]
theorem dS.gy {aN:eV} {d:Fr} {b s:Nat} {L:List aH} {m:Fr}:dS aN d Fr.emp b s L m→∃ x:{x:bP d L // x.k=Fr.emp},Sat (x.1.p4 aN b s) m
 |⟨c8,c9,mid,M,c,⟨h1,h2⟩,hs⟩=>⟨⟨⟨Fr.emp,c8,c9,mid,M,c,h1,h2⟩,rfl⟩,hs⟩
theorem dS.fold {aN:eV} {d:Fr} {b s:Nat} {L:List aH} {m:Fr} (x:bP d L) (hs:Sat (x.p4 aN b s) m):dS aN d x.k b s L m:=⟨x.c8,x.c9,x.mid,x.M,x.c,⟨x.wf,x.ok⟩,hs⟩
theorem Rp {dx:q5} {d m:Fr} {e:TypeId} {v:Value} {L:List aH} (h:c_ (ef dx) e v L m):∃ k,Sat [jt k,av (ag.fP d k cq) e v L] m:=by
 obtain ⟨ak,m1,m2,dd,s1,s2,o,m3,_,_,s3,_,x,_⟩:=h;have hx:bY ((ag.fP d m2 cq).rel Fr.emp) ak L:=b5.sB (R:=fun cs a=>(ag.fP d m2 cq).rel Fr.emp cs a) (k:=m2) (fun cs a m' z s=>⟨m',jP.mono s (jP.own d m'),(ef dx).rel z⟩) x s3;obtain ⟨ds,hds,hown⟩:=o;obtain ⟨rfl,h1,h2⟩:=q7 hds;exact ⟨m2,m2,m1,Fr.eX dd,s2,s1,rfl,m1,Fr.emp,Fr.eX (Fr.dW _),Fr.bW _,Fr.c4 _,⟨ds,hx,by rw [← hx.length];exact hown⟩,trivial⟩
theorem bp.made {aN:eV} {dx:q5} {d:Fr} {b s mid c:Nat} {L:List aH} {M:List (b8 (List UInt8))} {c8 c9:Value} {m:Fr} (wf:gB M c) (ok:iy d Fr.emp L M)
  (h:Sat [c_ (ef dx) aN.leaf c8 L,obj b aN.tree [c8,c9,.int .i64 (s:Int),.map (some mid)],av ag.str aN.str c9 (L.map fun y=>bT y.1),cc encS mid M c] m):bp aN d b s L m:=by
 obtain ⟨m1,r1,d1,s1,s2,x1,hr⟩:=h;obtain ⟨k,hk⟩:=Rp (d:=d) x1;have h5:=Sat.mono (Fr.hG s1 s2) (Sat.append d1 hk hr);exact bp.fold (aN:=aN) (b:=b) (s:=s) ⟨k,c8,c9,mid,M,c,wf,ok.mono (Fr.c4 _)⟩ (h5.perm (.cons _ (.swap _ _ _)))
end Go.Sp
end
section
/- Texts of this proof. -/
open Go
namespace Go.Sp
theorem IX {a b:List UInt8} (h:¬ a<b) (h' :a≠b):b<a:=Classical.byContradiction fun q=>h' (List.le_antisymm (List.not_lt.1 q) (List.not_lt.1 h))
def gF (L:List aH) (x:aH):List aH:=L.filter (fun y=>decide (y.1<x.1))++(if x.2.1.length=0 then [] else [x])++L.filter (fun y=>decide (x.1<y.1))
theorem D4 {L:List aH} {x y:aH}:y∈gF L x↔(y∈L∧y.1≠x.1)∨(y=x∧x.2.1.length≠0):=by
 unfold gF;simp only [List.mem_append,List.mem_filter,decide_eq_true_eq]
 constructor
 ·rintro ((⟨h,q⟩|h)|⟨h,q⟩)
  ·exact .inl ⟨h,fun e=>by rw [e] at q;exact List.lt_irrefl _ q⟩
  ·split at h
   ·cases h
   ·rename_i q;exact .inr ⟨List.mem_singleton.1 h,q⟩
  ·exact .inl ⟨h,fun e=>by rw [e] at q;exact List.lt_irrefl _ q⟩
 ·rintro (⟨h,q⟩|⟨rfl,q⟩)
  ·by_cases hl:y.1<x.1
   ·exact .inl (.inl ⟨h,hl⟩)
   ·exact .inr ⟨h,IX hl q⟩
  ·rw [if_neg q];exact .inl (.inr (List.mem_singleton.2 rfl))
theorem eT.put {L:List aH} (h:eT L) (x:aH):eT (gF L x):=by
 unfold gF eT;rw [List.append_assoc,List.pairwise_append];refine ⟨h.sublist List.filter_sublist,?_,?_⟩
 ·rw [List.pairwise_append]
  refine ⟨?_,h.sublist List.filter_sublist,?_⟩
  ·split
   ·exact .nil
   ·exact List.pairwise_singleton _ _
  ·intro a ha b hb
   split at ha
   ·cases ha
   ·cases List.mem_singleton.1 ha;exact of_decide_eq_true (List.mem_filter.1 hb).2
 ·intro a ha b hb
  have h1:=of_decide_eq_true (List.mem_filter.1 ha).2
  rcases List.mem_append.1 hb with hb|hb
  ·split at hb
   ·cases hb
   ·cases List.mem_singleton.1 hb;exact h1
  ·exact List.lt_trans h1 (of_decide_eq_true (List.mem_filter.1 hb).2)
theorem eT.ext:∀ {L M:List aH},eT L→eT M→(∀ y,y∈L↔y∈M)→L=M
 |[],[],_,_,_=>rfl
 |[],y::_,_,_,h=>absurd ((h y).2 (by simp)) (by simp)
 |x::_,[],_,_,h=>absurd ((h x).1 (by simp)) (by simp)
 |x::L,y::M,hL,uM,h=>by
  have hx:=List.pairwise_cons.1 hL;have hy:=List.pairwise_cons.1 uM;have e:x=y:=by
   rcases List.mem_cons.1 ((h x).1 (by simp)) with e|e
   ·exact e
   ·rcases List.mem_cons.1 ((h y).2 (by simp)) with q|q
    ·exact q.symm
    ·exact absurd (List.lt_trans (hy.1 x e) (hx.1 y q)) (List.lt_irrefl _)
  subst e
  congr 1
  refine eT.ext hx.2 hy.2 fun z=>⟨fun hz=>?_,fun hz=>?_⟩
  ·rcases List.mem_cons.1 ((h z).1 (by simp [hz])) with e|e
   ·subst e;exact absurd (hx.1 z hz) (List.lt_irrefl _)
   ·exact e
  ·rcases List.mem_cons.1 ((h z).2 (by simp [hz])) with e|e
   ·subst e;exact absurd (hy.1 z hz) (List.lt_irrefl _)
   ·exact e
noncomputable def mG (s:Nat) (x:aH):Int:=if ¬ (mC x.1∧o_ x.1=s) then 22 else if ¬ ny x.1 x.2.1 then 4 else 0
noncomputable def jo (s:Nat):List aH→Int
 |[]=>0
 |x::l=>if mG s x=0 then jo s l else mG s x
def tI (s:Nat) (x:aH):Prop:=(mC x.1∧o_ x.1=s)∧ny x.1 x.2.1
theorem Et {s:Nat} {x:aH}:mG s x=0↔tI s x:=by
 unfold mG tI
 by_cases h:mC x.1∧o_ x.1=s
 ·rw [if_neg (by simp [h])]
  by_cases k:ny x.1 x.2.1
  ·rw [if_neg (by simp [k])];exact ⟨fun _=>⟨h,k⟩,fun _=>rfl⟩
  ·rw [if_pos k];exact ⟨fun q=>absurd q (by decide),fun q=>absurd q.2 k⟩
 ·rw [if_pos h];exact ⟨fun q=>absurd q (by decide),fun q=>absurd q.1 h⟩
theorem Eu {s:Nat}:∀ {l:List aH},jo s l=0↔∀ x∈l,tI s x
 |[]=>by simp [jo]
 |x::l=>by
  unfold jo
  by_cases h:mG s x=0
  ·rw [if_pos h,Eu,List.forall_mem_cons,← Et];exact ⟨fun q=>⟨h,q⟩,fun q=>q.2⟩
  ·rw [if_neg h,List.forall_mem_cons,← Et];exact ⟨fun q=>absurd q h,fun q=>absurd q.1 h⟩
theorem gI.put {s:Nat} {L:List aH} {x:aH} (h:gI s L) (hx:tI s x):gI s (gF L x):=by
 refine ⟨fun y hy=>?_,h.2.put x⟩
 rcases D4.1 hy with ⟨q,_⟩|⟨rfl,q⟩
 ·exact h.1 y q
 ·have h0:0<y.2.1.length:=by omega
  exact ⟨⟨hx.1.1,hx.2.1,h0,hx.2.2 h0⟩,hx.1.2⟩
noncomputable def fW (L:List aH) (l:List aH):List aH:=l.foldl gF L
theorem gI.Ev {s:Nat}:∀ {l L:List aH},gI s L→(∀ x∈l,tI s x)→gI s (fW L l)
 |[],_,h,_=>h
 |x::l,L,h,hl=>gI.Ev (l:=l) (L:=gF L x) (h.put (hl x (by simp))) fun y hy=>hl y (by simp [hy])
theorem VF {L:List aH} {x:aH} {p:List UInt8} (hr:eT L) (h:p.isPrefixOf (bT x.1)=false):dG p (gF L x)=dG p L:=by
 refine eT.ext ((hr.put x).under p) (hr.under p) fun y=>?_;unfold dG;rw [List.mem_filter,List.mem_filter,D4]
 constructor
 ·rintro ⟨⟨q,_⟩|⟨rfl,_⟩,k⟩
  ·exact ⟨q,k⟩
  ·rw [h] at k;cases k
 ·rintro ⟨q,k⟩
  exact ⟨.inl ⟨q,fun e=>by rw [e,h] at k;cases k⟩,k⟩
def a_ (L:List aH) (s:List UInt8):Nat:=(L.filter fun y=>decide (y.1<s)).length
theorem IS (L:List aH) (s:List UInt8):a_ L s≤L.length:=List.length_filter_le _ _
theorem zJ:∀ {L:List aH} (s:List UInt8),eT L→L.take (a_ L s)=L.filter (fun y=>decide (y.1<s))∧L.drop (a_ L s)=L.filter (fun y=>!decide (y.1<s))
 |[],_,_=>⟨rfl,rfl⟩
 |x::L,s,h=>by
  have hx:=List.pairwise_cons.1 h;obtain ⟨h1,h2⟩:=zJ s hx.2
  by_cases q:x.1<s
  ·have e:a_ (x::L) s=a_ L s+1:=by unfold a_;rw [List.filter_cons_of_pos (by simpa using q)];rfl
   rw [e,List.take_succ_cons,List.drop_succ_cons,h1,h2,List.filter_cons_of_pos (by simpa using q),List.filter_cons_of_neg (by simpa using q)];exact ⟨rfl,rfl⟩
  ·have n:∀ y∈L,¬ y.1<s:=fun y hy k=>q (List.lt_trans (hx.1 y hy) k)
   have e0:L.filter (fun y=>decide (y.1<s))=[]:=List.filter_eq_nil_iff.2 fun y hy=>by simpa using n y hy
   have e:a_ (x::L) s=0:=by unfold a_;rw [List.filter_cons_of_neg (by simpa using q),e0];rfl
   have e1:L.filter (fun y=>!decide (y.1<s))=L:=List.filter_eq_self.2 fun y hy=>by simpa using n y hy
   rw [e,List.filter_cons_of_neg (by simpa using q),List.filter_cons_of_pos (by simpa using q),e0,e1];exact ⟨rfl,rfl⟩
theorem DY {L:List aH} {s:List UInt8} (h:eT L) {i:Nat} (hi:i<L.length):L[i].1<s↔i<a_ L s:=by
 obtain ⟨h1,h2⟩:=zJ s h
 constructor
 ·intro q
  refine Nat.lt_of_not_ge fun k=>?_;have:L[i]∈L.drop (a_ L s):=List.mem_drop_iff_getElem.2 ⟨i - a_ L s,by omega,by congr 1;omega⟩;rw [h2,List.mem_filter] at this
  simpa [q] using this.2
 ·intro q
  have:L[i]∈L.take (a_ L s):=List.mem_take_iff_getElem.2 ⟨i,by omega,rfl⟩;rw [h1,List.mem_filter] at this
  simpa using this.2
def mA (L:List aH) (s:List UInt8):Prop:=∃ h:a_ L s<L.length,L[a_ L s].1=s
noncomputable instance (L:List aH) (s:List UInt8):Decidable (mA L s):=Classical.propDecidable _
theorem Qp {L:List aH} {s:List UInt8} (h:eT L):mA L s↔∃ x∈L,x.1=s:=by
 constructor
 ·rintro ⟨q,e⟩;exact ⟨_,List.getElem_mem q,e⟩
 ·rintro ⟨x,hx,e⟩
  obtain ⟨i,hi,rfl⟩:=List.getElem_of_mem hx;have h1:¬ i<a_ L s:=fun q=>by have:=(DY h hi).2 q;rw [e] at this;exact List.lt_irrefl _ this
  have h2:¬ a_ L s<i:=fun q=>by
   have:=List.pairwise_iff_getElem.1 h _ _ (by omega) hi q;rw [e] at this;exact absurd ((DY h (by omega)).1 this) (Nat.lt_irrefl _)
  have e2:i=a_ L s:=by omega
  exact ⟨by omega,(congrArg Prod.fst (show L[a_ L s]=L[i] by congr 1;exact e2.symm)).trans e⟩
theorem JB {L:List aH} {x:aH} (h:eT L) (q:mA L x.1):gF L x=L.take (a_ L x.1)++(if x.2.1.length=0 then [] else [x])++L.drop (a_ L x.1+1):=by
 obtain ⟨h1,h2⟩:=zJ x.1 h;obtain ⟨q1,q2⟩:=q;unfold gF;rw [h1];congr 1;have e:L.drop (a_ L x.1)=L[a_ L x.1]::L.drop (a_ L x.1+1):=List.drop_eq_getElem_cons q1;have hp:eT (L.drop (a_ L x.1)):=h.sublist (List.drop_sublist _ _);rw [e] at hp;have hq:=(List.pairwise_cons.1 hp).1;have k:L.filter (fun y=>decide (x.1<y.1))=(L.drop (a_ L x.1)).filter (fun y=>decide (x.1<y.1)):=by
  rw [h2,List.filter_filter];congr 1;funext y
  by_cases c:x.1<y.1
  ·have:¬ y.1<x.1:=fun z=>List.lt_irrefl _ (List.lt_trans c z)
   simp [c,this]
  ·simp [c]
 rw [k,e,List.filter_cons_of_neg (by simp [q2,List.lt_irrefl])];exact List.filter_eq_self.2 fun y hy=>by simpa [q2] using hq y hy
theorem Jz {L:List aH} {x:aH} (h:eT L) (q:¬ mA L x.1):gF L x=L.take (a_ L x.1)++(if x.2.1.length=0 then [] else [x])++L.drop (a_ L x.1):=by
 obtain ⟨h1,h2⟩:=zJ x.1 h;unfold gF;rw [h1,h2];congr 1;refine List.filter_congr fun y hy=>?_;have ne:y.1≠x.1:=fun e=>q ((Qp h).2 ⟨y,hy,e⟩)
 by_cases c:y.1<x.1
 ·have:¬ x.1<y.1:=fun z=>List.lt_irrefl _ (List.lt_trans c z)
  simp [c,this]
 ·simp [c,IX c ne]
end Go.Sp
end
end
