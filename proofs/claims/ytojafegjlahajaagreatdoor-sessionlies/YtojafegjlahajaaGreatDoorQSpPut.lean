/- Texts of this proof, one behind the other. -/
import Derived.Test.YtojafegjlahajaaGreatDoorQSpLaid
set_option linter.unusedSectionVars false
section
/- Texts of this proof, one behind the other. -/
section
/- Texts of this proof, one behind the other. -/
section
/- Texts of this proof, one behind the other. -/
section
/- Texts of this proof. -/
namespace Go.Sp
def mQ (s:List UInt8):Prop:=1≤s.length∧s.length≤64
def js (s:List UInt8):Prop:=s.length≤510∧∀ c∈s,c=48∨c=49
def tV {α:Type} (key:α→List UInt8) (l:List α):Prop:=∀ i (h:i<l.length),0<i→key (l[i - 1]'(by omega))<key l[i]
def ov (x:aG):Prop:=mQ x.1∧fJ x.2.1∧∃ h:0<x.2.1.length,x.2.1[0].1=x.1
def gE (n:dJ):Prop:=((∀ x∈n.2.2.2.1,ov x)∧tV (·.1) n.2.2.2.1)∧(n.1=1∧n.2.1=[]∧n.2.2.1=[]∧n.2.2.2.1=[]∨n.1=2∧n.2.1=[]∧n.2.2.1=[]∧n.2.2.2.1.length=1∨n.1=3∧n.2.1.length=64∧n.2.2.1.length=64∧n.2.2.2.1=[]∨n.1=4∧n.2.1=[]∧n.2.2.1=[]∧2≤n.2.2.2.1.length)
noncomputable instance (s:List UInt8):Decidable (mQ s):=Classical.propDecidable _
noncomputable instance (s:List UInt8):Decidable (js s):=Classical.propDecidable _
noncomputable instance (n:dJ):Decidable (gE n):=Classical.propDecidable _
end Go.Sp
end
section
/- Texts of this proof. -/
open Go
namespace Go.Sp
def nM (s:List UInt8) (l:List aP):Prop:=fJ l∧∀ h:0<l.length,l[0].1=s
noncomputable instance (s:List UInt8) (l:List aP):Decidable (nM s l):=Classical.propDecidable _
noncomputable def ij (l:List aP):List UInt8:=if fJ l then lM (5::kQ l) else []
theorem V_ {l:List aP} (h:fJ l):ij l=lM (5::kQ l):=by unfold ij;rw [if_pos h]
theorem V9 (l:List aP):(ij l).length≤64:=by unfold ij;split;rw [qj];exact Nat.le_refl _;exact Nat.zero_le _
theorem Wa {l:List aP} (h:fJ l):(ij l).length=64:=by rw [V_ h,qj]
def yc (k:UInt8):UInt8:=[0,0,1,2,3].getD k.toNat 0
noncomputable def pJ (l:List aG):List (List UInt8):=(l.map fun y=>[bytesOf y.1,ij y.2.1]).flatten
noncomputable def yb (x:dJ):List (List UInt8):=[[yc x.1],x.2.1,x.2.2.1]++pJ x.2.2.2.1
noncomputable def fP (x:dJ):List UInt8:=if gE x then lM (yb x).flatten else []
theorem JX {x:dJ} (h:gE x):fP x=lM (yb x).flatten:=by unfold fP;rw [if_pos h]
theorem JW {x:dJ} (h:¬ gE x):fP x=[]:=by unfold fP;rw [if_neg h]
theorem Ar (x:dJ):(fP x).length=64↔gE x:=by
 by_cases h:gE x
 ·rw [JX h,qj];exact ⟨fun _=>h,fun _=>rfl⟩
 ·rw [JW h];exact ⟨fun w=>absurd w (by decide),fun w=>absurd w h⟩
theorem SP {l:List aG} {k:Nat} (h:k<l.length):pJ (l.take k)++[bytesOf l[k].1,ij l[k].2.1]=pJ (l.take (k+1)):=by
 rw [List.take_succ_eq_append_getElem h];unfold pJ;rw [List.map_append,List.flatten_append];simp
theorem Jx:∀ l:List aG,(∀ y∈l,y.1.length≤64)→(pJ l).flatten.length≤136*l.length
 |[],_=>Nat.zero_le _
 |y::l,h=>by
  have:=Jx l fun z hz=>h z (by simp [hz]);have h1:=h y (by simp);have h2:=V9 y.2.1;unfold pJ at *;simp only [List.map_cons,List.flatten_cons,List.flatten_append,List.length_append,List.length_cons,List.flatten_nil,List.length_nil,GU];omega
theorem Tv {x:dJ} (h:gE x):x.1.toNat<5:=by
 rcases h.2 with h|h|h|h<;>(rw [h.1];decide)
end Go.Sp
end
end
section
/- Texts of this proof. -/
open Go
namespace Go.Sp
def Mw (d:List UInt8) (i:Nat):UInt8:=48+((d.getD (i / 8) 0) >>>UInt8.ofNat (7 - i % 8) &&& 1)
def lE (s:List UInt8):List UInt8:=lM (6::s)
theorem Ez (s:List UInt8):(lE s).length=64:=qj _
def pP (s:List UInt8):Nat:=((lE s).getD 0 0).toNat / 64
def bS (s:List UInt8):List UInt8:=(List.range 510).map fun i=>Mw (lE s) (i+2)
@[simp] theorem lN (s:List UInt8):(bS s).length=510:=by simp [bS]
def dO (p:List UInt8) (l:List aG):List aG:=l.filter fun x=>p.isPrefixOf (bS x.1)
theorem FV (p q:List UInt8) (l:List aG):dO (p++q) (dO p l)=dO (p++q) l:=by
 unfold dO;rw [List.filter_filter];congr 1;funext x
 cases h:(p++q).isPrefixOf (bS x.1) with
 |false=>rfl
 |true =>
  rw [List.isPrefixOf_iff_prefix] at h;have:p.isPrefixOf (bS x.1)=true:=List.isPrefixOf_iff_prefix.2 ((List.prefix_append p q).trans h);rw [this];rfl
theorem yC (p:List UInt8) (l:List aG):(dO p l).Sublist l:=List.filter_sublist
def eC (l:List aG):Prop:=l.Pairwise fun a b=>a.1<b.1
theorem eC.keys {l:List aG} (h:eC l):tV (·.1) l:=fun i hi h0=>List.pairwise_iff_getElem.1 h _ _ (by omega) hi (by omega)
theorem eC.under {l:List aG} (h:eC l) (p:List UInt8):eC (dO p l):=h.sublist (yC p l)
noncomputable def nL:Nat→List UInt8→List aG→dJ
 |_,_,[]=>(1,[],[],[],())
 |_,_,[x]=>(2,[],[],[x],())
 |0,_,l=>(4,[],[],l,())
 |n+1,p,l=>(3,fP (nL n (p++[48]) (dO (p++[48]) l)),fP (nL n (p++[49]) (dO (p++[49]) l)),[],())
theorem EP (n:Nat) (p:List UInt8):nL n p []=(1,[],[],[],()):=by cases n<;>rfl
theorem ER (n:Nat) (p:List UInt8) (x:aG):nL n p [x]=(2,[],[],[x],()):=by cases n<;>rfl
theorem ES {p:List UInt8} {l:List aG} (h:2≤l.length):nL 0 p l=(4,[],[],l,()):=by
 match l,h with
 |_::_::_,_=>rfl
theorem ET {n:Nat} {p:List UInt8} {l:List aG} (h:2≤l.length):nL (n+1) p l=(3,fP (nL n (p++[48]) (dO (p++[48]) l)),fP (nL n (p++[49]) (dO (p++[49]) l)),[],()):=by
 match l,h with
 |_::_::_,_=>rfl
theorem Vt {a:aG}:eC [a]:=List.pairwise_singleton _ _
theorem JV:∀ (n:Nat) (p:List UInt8) (l:List aG),(∀ x∈l,ov x)→eC l→gE (nL n p l)
 |n,p,[],_,_=>by rw [EP];exact ⟨⟨fun _ h=>(List.not_mem_nil h).elim,(eC.keys .nil)⟩,.inl ⟨rfl,rfl,rfl,rfl⟩⟩
 |n,p,[x],h,_=>by rw [ER];exact ⟨⟨h,Vt.keys⟩,.inr (.inl ⟨rfl,rfl,rfl,rfl⟩)⟩
 |0,p,x::y::l,h,hr=>by rw [ES (by simp)];exact ⟨⟨h,hr.keys⟩,.inr (.inr (.inr ⟨rfl,rfl,rfl,by simp⟩))⟩
 |n+1,p,x::y::l,h,hr=>by
  rw [ET (by simp)];have k:∀ q,(fP (nL n q (dO q (x::y::l)))).length=64:=fun q=>(Ar _).2 (JV n q _ (fun z hz=>h z ((yC q _).subset hz)) (hr.under q));exact ⟨⟨fun _ h=>(List.not_mem_nil h).elim,eC.keys .nil⟩,.inr (.inr (.inl ⟨rfl,k _,k _,rfl⟩))⟩
def iv (s:Nat) (L:List aG):Prop:=(∀ x∈L,ov x∧pP x.1=s)∧eC L
theorem iv.nil (s:Nat):iv s []:=⟨fun _ h=>(List.not_mem_nil h).elim,.nil⟩
noncomputable def bw (L:List aG) (p:List UInt8):dJ:=nL (510 - p.length) p (dO p L)
noncomputable def bZ (L:List aG) (p:List UInt8):List UInt8:=fP (bw L p)
theorem Bc {s:Nat} {L:List aG} (h:iv s L) (p:List UInt8):gE (bw L p) :=
 JV _ _ _ (fun x hx=>(h.1 x ((yC p L).subset hx)).1) (h.2.under p)
theorem qn {s:Nat} {L:List aG} (h:iv s L) (p:List UInt8):(bZ L p).length=64:=(Ar _).2 (Bc h p)
theorem FP {L:List aG} {p:List UInt8} (h:dO p L=[]):bw L p=(1,[],[],[],()):=by rw [bw,h,EP]
theorem FQ {L:List aG} {p:List UInt8} {x:aG} (h:dO p L=[x]):bw L p=(2,[],[],[x],()):=by rw [bw,h,ER]
theorem Ll {L:List aG} {p:List UInt8} (h:2≤(dO p L).length) (hp:p.length=510):bw L p=(4,[],[],dO p L,()):=by
 rw [bw,hp];exact ES h
theorem FT {L:List aG} {p:List UInt8} (h:2≤(dO p L).length) (hp:p.length<510):bw L p=(3,bZ L (p++[48]),bZ L (p++[49]),[],()):=by
 have e:510 - p.length=(510 - (p++[48]).length)+1:=by simp;omega
 have e2:510 - (p++[48]).length=510 - (p++[49]).length:=by simp
 rw [bw,e,ET h,FV,FV]
 conv=>lhs;arg 2;arg 2;arg 1;rw [e2]
 rfl
theorem WR {L M:List aG} {p:List UInt8} (h:dO p L=dO p M):bw L p=bw M p:=by rw [bw,bw,h]
theorem WT {L M:List aG} {p:List UInt8} (h:dO p L=dO p M):bZ L p=bZ M p:=by rw [bZ,bZ,WR h]
noncomputable def ek (s:Int) (n:List UInt8):List UInt8:=if 0≤s∧s<4∧n.length=64 then lM (4::byteOf s::n) else []
def gi (L:List aG) (a:List Nat):List aG:=a.filterMap fun i=>L[i]?
def fC (L:List aG) (p:List UInt8) (a:List Nat):List Nat:=a.filter fun i=>p.isPrefixOf (((L[i]?).map fun x=>bS x.1).getD [])
theorem yV (L:List aG) (p:List UInt8):∀ a:List Nat,(∀ i∈a,i<L.length)→gi L (fC L p a)=dO p (gi L a)
 |[],_=>rfl
 |i::a,h=>by
  have hi:i<L.length:=h i (by simp);have ih:=yV L p a fun j hj=>h j (by simp [hj]);have e:L[i]?=some L[i]:=List.getElem?_eq_getElem hi;have e2:gi L (i::a)=L[i]::gi L a:=by simp [gi,e]
  rw [e2];unfold fC;rw [List.filter_cons];have bY:(((L[i]?).map fun x=>bS x.1).getD [])=bS L[i].1:=by rw [e,Option.map_some,Option.getD_some]
  rw [bY]
  by_cases hp:p.isPrefixOf (bS L[i].1)=true
  ·rw [if_pos hp]
   have:dO p (L[i]::gi L a)=L[i]::dO p (gi L a):=by unfold dO;rw [List.filter_cons,if_pos hp]
   rw [this,← ih]
   simp [gi,e,fC]
  ·rw [if_neg hp]
   have:dO p (L[i]::gi L a)=dO p (gi L a):=by unfold dO;rw [List.filter_cons,if_neg hp]
   rw [this,← ih];rfl
theorem FU {L:List aG} {p:List UInt8} {a:List Nat} (h:∀ i∈a,i<L.length):∀ i∈fC L p a,i<L.length:=fun i hi=>h i (List.mem_filter.1 hi).1
theorem Be (L:List aG) (p:List UInt8) (a:List Nat):(fC L p a).length≤a.length:=List.length_filter_le _ _
theorem Ko (L:List aG):gi L (List.range L.length)=L:=by
 have h:∀ n,n≤L.length→gi L (List.range n)=L.take n:=by
  intro n
  induction n with
  |zero=>intro _;rfl
  |succ n ih =>
   intro hn
   have e:L[n]?=some L[n]:=List.getElem?_eq_getElem (by omega);have:gi L (List.range (n+1))=gi L (List.range n)++[L[n]]:=by rw [List.range_succ];simp [gi,e]
   rw [this,ih (by omega),List.take_succ_eq_append_getElem (by omega)]
 rw [h _ (Nat.le_refl _),List.take_length]
theorem vV (L:List aG):∀ i∈List.range L.length,i<L.length:=fun i hi=>List.mem_range.1 hi
theorem Xq {L:List aG} {p:List UInt8} {a:List Nat} {k:Nat} (hk:k<a.length) (h:∀ i∈a,i<L.length) :
  fC L p (a.take (k+1))=if p.isPrefixOf (bS (L[a[k]]'(h _ (List.getElem_mem hk))).1)=true then fC L p (a.take k)++[a[k]] else fC L p (a.take k):=by
 have hi:=h _ (List.getElem_mem hk);rw [List.take_succ_eq_append_getElem hk];unfold fC;rw [List.filter_append];have bY:(((L[a[k]]?).map fun x=>bS x.1).getD [])=bS L[a[k]].1:=by rw [List.getElem?_eq_getElem hi,Option.map_some,Option.getD_some]
 split
 ·rename_i q;rw [List.filter_cons,bY,if_pos q];rfl
 ·rename_i q;rw [List.filter_cons,bY,if_neg q];simp
theorem yU {L:List aG}:∀ {a:List Nat},(∀ i∈a,i<L.length)→(gi L a).length=a.length
 |[],_=>rfl
 |i::a,h=>by
  have ih:=yU (L:=L) (a:=a) fun j hj=>h j (by simp [hj]);have e:L[i]?=some (L[i]'(h i (by simp))):=List.getElem?_eq_getElem _
  simpa [gi,e] using ih
theorem GD {L:List aG}:∀ {a:List Nat} (h:∀ i∈a,i<L.length) (k:Nat) (hk:k<a.length),(gi L a)[k]'(by rw [yU h];exact hk)=L[a[k]]'(h _ (List.getElem_mem hk))
 |i::a,h,k,hk=>by
  have e:L[i]?=some (L[i]'(h i (by simp))):=List.getElem?_eq_getElem _;have e2:gi L (i::a)=(L[i]'(h i (by simp)))::gi L a:=by simp [gi,e]
  cases k with
  |zero=>simp [e2]
  |succ k=>simp only [e2,List.getElem_cons_succ];exact GD (fun j hj=>h j (by simp [hj])) k (by simpa using hk)
theorem JU (n:Nat) (p:List UInt8) (l:List aG):(nL n p l).2.2.2.1=[]∨(nL n p l).2.2.2.1=l:=by
 match l with
 |[]=>rw [EP];exact .inl rfl
 |[x]=>rw [ER];exact .inr rfl
 |x::y::l =>
  cases n with
  |zero=>rw [ES (by simp)];exact .inr rfl
  |succ n=>rw [ET (by simp)];exact .inl rfl
theorem FR {L:List aG} (h:L.length≤10000000∧∀ y∈L,y.2.1.length≤10000000) (p:List UInt8):(bw L p).2.2.2.1.length≤10000000∧∀ y∈(bw L p).2.2.2.1,y.2.1.length≤10000000:=by
 have hs:=yC p L
 rcases JU (510 - p.length) p (dO p L) with e|e
 ·unfold bw;rw [e];exact ⟨Nat.zero_le _,fun _ q=>by cases q⟩
 ·unfold bw;rw [e];exact ⟨Nat.le_trans hs.length_le h.1,fun y hy=>h.2 y (hs.subset hy)⟩
theorem Au {x:dJ} (h:gE x):x.2.1.length≤1000000000000∧x.2.2.1.length≤1000000000000:=by
 rcases h.2 with q|q|q|q
 ·rw [q.2.1,q.2.2.1];decide
 ·rw [q.2.1,q.2.2.1];decide
 ·omega
 ·rw [q.2.1,q.2.2.1];decide
theorem Ln (L:List aG) (p:List UInt8):fP (bw L p)=bZ L p:=rfl
end Go.Sp
end
end
section
/- Texts of this proof. -/
namespace Go.Sp
section
variable {ro:Option Nat} {P:Program} {fn:Func} {n:Nat} {R:Ending→World→Prop} {k:List Item} {σ:List (Nat × Value)} {D:List Deferred} {g:bk} {U ζ aO:List az} {ops:Array Oper} {i d:Nat} {ls:List Nat}
 {t e:TypeId} {x y z u:Operand} {w:World} {a:Option Addr} {m c s:Nat} {p q r:Nat} {kx ky EA:IntKind}
theorem aF.ur (ht:P.underlying t=some (.slice e)) (he:(P.info? e).map (·.size)=some s) (hx:aA σ x=some (.slice a m c)) (hy:aA σ y=some (.int ky (p:Int))) (hp:p≤c) :
  aF P (.slice t x none (some y) none) σ g U (.slice a p c) U:=.run fun o ρ w ho hk=>by
 simp [execOp,ho,hk x _ hx,hk y _ hy,Instr.sliceAt,run_underlying ht,Instr.slice,Instr.sliceBounds,Instr.sliceBound,asIntOf,hp,run_sizeOf he]
 intro _;cases a<;>simp [Addr.add_zero]
theorem aF.iK (ht:P.underlying t=some (.slice e)) (he:(P.info? e).map (·.size)=some s) (hx:aA σ x=some (.slice a m c)) (hy:aA σ y=some (.int ky (p:Int))) (hp:p≤m) :
  aF P (.slice t x (some y) none none) σ g U (.slice (if c=p then a else a.map (·.add (p*s))) (m - p) (c - p)) U:=.run fun o ρ w ho hk=>by
 simp [execOp,ho,hk x _ hx,hk y _ hy,Instr.sliceAt,run_underlying ht,Instr.slice,Instr.sliceBounds,Instr.sliceBound,asIntOf,hp,run_sizeOf he]
theorem aF.K3 (ht:P.underlying t=some (.slice e)) (he:(P.info? e).map (·.size)=some s) (hx:aA σ x=some (.slice a m c)) (hy:aA σ y=some (.int ky (p:Int))) (hz:aA σ z=some (.int EA (q:Int))) (hp:p≤q) (hq:q≤c) :
  aF P (.slice t x (some y) (some z) none) σ g U (.slice (if c=p then a else a.map (·.add (p*s))) (q - p) (c - p)) U:=.run fun o ρ w ho hk=>by
 simp [execOp,ho,hk x _ hx,hk y _ hy,hk z _ hz,Instr.sliceAt,run_underlying ht,Instr.slice,Instr.sliceBounds,Instr.sliceBound,asIntOf,hp,hq,run_sizeOf he]
theorem aF.K2 {SF:IntKind} (ht:P.underlying t=some (.slice e)) (he:(P.info? e).map (·.size)=some s) (hx:aA σ x=some (.slice a m c)) (hy:aA σ y=some (.int ky (p:Int))) (hz:aA σ z=some (.int EA (q:Int))) (hu:aA σ u=some (.int SF (r:Int))) (hp:p≤q) (hq:q≤r) (hr:r≤c) :
  aF P (.slice t x (some y) (some z) (some u)) σ g U (.slice (if r=p then a else a.map (·.add (p*s))) (q - p) (r - p)) U:=.run fun o ρ w ho hk=>by
 simp [execOp,ho,hk x _ hx,hk y _ hy,hk z _ hz,hk u _ hu,Instr.sliceAt,run_underlying ht,Instr.slice,Instr.sliceBounds,Instr.sliceBound,asIntOf,hp,hq,hr,run_sizeOf he]
theorem av.vZ {α:Type} {T:ag α} {e:TypeId} {xs:List α} {a:Option Addr} {m c:Nat} {h:Fr} (x:av T e (.slice a m c) xs h) (h0:0<xs.length):(∃ b,a=some ⟨b,0,none⟩)∧m=xs.length∧xs.length≤c∧c≤9223372036854775807:=by
 obtain ⟨ak,h1,h2,h3|⟨b,cap,cur,h4,h5,h6,h7,h8,h9⟩⟩:=x
 ·omega
 ·injection h4 with e1 e2 bY
  subst e1 e2 bY;exact ⟨⟨b,rfl⟩,rfl,h6,h7⟩
theorem qC {k:Nat} {ak:List (List Value)} (h:∀ cs∈ak,cs.length=k):ak.flatten.length=ak.length*k:=by
 induction ak with
 |nil=>simp
 |cons x ak ih =>
  rw [List.flatten_cons,List.length_append,ih (fun cs hc=>h cs (List.mem_cons_of_mem _ hc)),h x (List.mem_cons_self ..),List.length_cons,Nat.add_mul,Nat.one_mul,Nat.add_comm]
theorem y6 {k:Nat} {ak:List (List Value)} (h:∀ cs∈ak,cs.length=k) (i:Nat):ak.flatten.take (i*k)=(ak.take i).flatten:=by
 induction ak generalizing i with
 |nil=>simp
 |cons x ak ih =>
  cases i with
  |zero=>simp
  |succ i =>
   have hx:=h x (List.mem_cons_self ..);rw [List.flatten_cons,List.take_succ_cons,List.flatten_cons,Nat.add_mul,Nat.one_mul,← ih (fun cs hc=>h cs (List.mem_cons_of_mem _ hc)) i,List.take_append,hx];rw [List.take_of_length_le (by omega),show i*k+k - k=i*k from by omega]
theorem B7 {k:Nat} {ak:List (List Value)} (h:∀ cs∈ak,cs.length=k) (i:Nat):ak.flatten.drop (i*k)=(ak.drop i).flatten:=by
 induction ak generalizing i with
 |nil=>simp
 |cons x ak ih =>
  cases i with
  |zero=>simp
  |succ i =>
   have hx:=h x (List.mem_cons_self ..);rw [List.flatten_cons,List.drop_succ_cons,Nat.add_mul,Nat.one_mul,← ih (fun cs hc=>h cs (List.mem_cons_of_mem _ hc)) i,List.drop_append,hx];rw [List.drop_of_length_le (by omega),show i*k+k - k=i*k from by omega,List.nil_append]
theorem rC {k:Nat}:∀ {ak ds:List (List Value)},bV ((ag.cells k).rel Fr.emp) ak ds→ak=ds∧(∀ cs∈ak,cs.length=k)∧∀ cs∈ak,∀ v∈cs,v.oneCell' =true
 |[],[],_=>⟨rfl,by simp,by simp⟩
 |[],_::_,h=>h.elim
 |_::_,[],h=>h.elim
 |x::ak,y::ds,h=>by
  obtain ⟨h1,h2,h3⟩:=h.1;obtain ⟨q1,q2,cF⟩:=rC h.2;subst h1 q1;exact ⟨rfl,List.forall_mem_cons.2 ⟨h2,q2⟩,List.forall_mem_cons.2 ⟨h3,cF⟩⟩
theorem rD {k:Nat}:∀ {ak:List (List Value)},(∀ cs∈ak,cs.length=k)→(∀ cs∈ak,∀ v∈cs,v.oneCell' =true)→bV ((ag.cells k).rel Fr.emp) ak ak
 |[],_,_=>trivial
 |x::_,h1,h2=>⟨⟨rfl,h1 x (List.mem_cons_self ..),h2 x (List.mem_cons_self ..)⟩,rD (fun cs hc=>h1 cs (List.mem_cons_of_mem _ hc)) fun cs hc=>h2 cs (List.mem_cons_of_mem _ hc)⟩
theorem HJ {ak:List (List Value)} (h:∀ cs∈ak,∀ v∈cs,v.oneCell' =true):∀ v∈ak.flatten,v.oneCell' =true:=fun v hv=>by
 obtain ⟨cs,hc,hv⟩:=List.mem_flatten.1 hv;exact h cs hc v hv
theorem erase_eq {α:Type} (xs:List α) (i:Nat):xs.eraseIdx i=xs.take i++xs.drop (i+1):=List.eraseIdx_eq_take_drop_succ _ _
theorem bC.yT {K cn:Nat} {j0:List Value} {ak:List (List Value)} {j:Nat} (ht:P.underlying t=some (.slice e)) (he:dG P e K cn j0) (hj:j<ak.length)
  (hx:aA σ x=some (.slice a j c)) (hy:aA σ y=some (.slice (if c=j+1 then a else a.map (·.add ((j+1)*K))) (ak.length - (j+1)) (c - (j+1)))) (hs:a_ U (av (ag.cells K) e (.slice a ak.length c) ak) ζ) :
  bC P (.call ⟨.builtin .append,#[x,y],#[t,t]⟩) σ g U fun v ax =>v=.slice a (ak.length - 1) c∧ax =av (ag.cells K) e (.slice a (ak.length - 1) c) (ak.eraseIdx j)::ζ :=
 fun o ρ w ho hkn hw=>by
  have hw1:=hw.cr hs;obtain ⟨b,cap,cur,bE,hv,h1,h2,h3,h4,ha,fz,hfz,hb⟩:=hw1.oA (by omega);obtain ⟨rfl,hlen,hone⟩:=rC ha
  injection hv with e1 _ bY
  subst e1 bY;obtain ⟨info,cw,hi,_,hsz,_,_,_⟩:=he;have hkk:(ag.cells K).k=K:=rfl;rw [hkk] at h3 h4 hfz;have hmul:bE.length*K≤c*K:=Nat.mul_le_mul_right K h1;have eb:cur.toList.length=c*K:=by simpa using h3
  let news:=(bE.drop (j+1)).flatten
  have hnl:news.length=(bE.length - (j+1))*info.size:=by
   rw [hsz];have:=qC (k:=K) (ak:=bE.drop (j+1)) (fun cs hc=>hlen cs (List.mem_of_mem_drop hc));rw [List.length_drop] at this;exact this
  have DH:news=(cur.toList.take (bE.length*K)).drop ((j+1)*K):=by rw [h4,B7 hlen]
  have lB:=hb.block;have hcell:∀ ja v,news[ja]?=some v→w.cell? ⟨b,(j+1)*K+ja,none⟩=some v:=fun ja v hv=>by
   rw [DH,List.getElem?_drop,List.getElem?_take] at hv
   split at hv
   ·simp only [World.cell?,lB]
    simpa using hv
   ·cases hv
  have Za:j*K+K+(bE.length - (j+1))*K=bE.length*K:=by
   have:bE.length=j+1+(bE.length - (j+1)):=by omega
   rw [this,Nat.add_mul,Nat.add_mul,Nat.one_mul]
   simp
  have hr:∃ ad,(if c=j+1 then some (⟨b,0,none⟩:Addr) else (some (⟨b,0,none⟩:Addr)).map (·.add ((j+1)*K)))=some ad∧∀ ja v,news[ja]?=some v→w.cell? (ad.add ja)=some v:=by
   by_cases hc:c=j+1
   ·refine ⟨⟨b,0,none⟩,by rw [if_pos hc],fun ja v hv=>?_⟩
    have:news=[]:=List.length_eq_zero_iff.1 (by rw [hnl,show bE.length - (j+1)=0 by omega,Nat.zero_mul]);rw [this] at hv;cases hv
   ·refine ⟨⟨b,(j+1)*K,none⟩,by rw [if_neg hc];simp [add_lit],fun ja v hv=>?_⟩
    rw [add_lit];exact hcell ja v hv
  obtain ⟨ad,had,hnews⟩:=hr;rw [had] at hy;have hfit:j*info.size+news.length≤cur.size:=by rw [hnl,hsz,h3];omega
  have hrun:=KC (P:=P) w t o.type e info ht hi b j c cur lB (by rw [h3];exact hfz) ad (bE.length - (j+1)) (c - (j+1)) news hnl hnews
   (fun v hv=>HJ (fun cs hc=>hone cs (List.mem_of_mem_drop hc)) v hv) (by omega) hfit
  rw [show j+(bE.length - (j+1))=bE.length - 1 by omega] at hrun;refine ⟨_,w.setRow b (cur.toList.take (j*info.size)++news++cur.toList.drop (j*info.size+news.length)).toArray,_,⟨rfl,rfl⟩,by simp only [execOp,ho,resolve,invoke,builtin,List.map_toArray,List.map_cons,List.map_nil,hkn x _ hx,hkn y _ hy,Sem.run_bind,hrun,Sem.run_pure,Result.andThen],?_⟩;refine (hb.setRow (cs:=(cur.toList.take (j*info.size)++news++cur.toList.drop (j*info.size+news.length)).toArray)).imp fun _ x=>Sat.fk (fun m' hm' =>?_) (fun _ z=>z) x;have hel:(bE.eraseIdx j).length=bE.length - 1:=List.length_eraseIdx_of_lt hj;have hsub:∀ cs∈bE.eraseIdx j,cs∈bE :=fun cs hc=>List.mem_of_mem_eraseIdx hc;refine ⟨bE.eraseIdx j,rD (fun cs hc=>hlen cs (hsub cs hc)) (fun cs hc=>hone cs (hsub cs hc)),?_,.inr ⟨b,c,_,by rw [hel],⟨fz,hm',hfz⟩,by omega,h2,?_,?_⟩⟩
  ·rw [qC (fun cs hc=>hlen cs (hsub cs hc)),hkk]
  ·simp only [List.size_toArray,List.length_append,List.length_take,List.length_drop,hkk]
   rw [hnl,hsz,eb]
   omega
  ·rw [hel,hkk,erase_eq,List.flatten_append]
   have e1:cur.toList.take (j*info.size)=(bE.take j).flatten:=by
    rw [hsz,← y6 hlen,← h4,List.take_take,Nat.min_eq_left (by omega)]
   have e2:(bE.length - 1)*K=((bE.take j).flatten++news).length:=by
    rw [List.length_append,hnl,hsz,qC (fun cs hc=>hlen cs (List.mem_of_mem_take hc)),List.length_take,Nat.min_eq_left (by omega),← Nat.add_mul]
    congr 1;omega
   rw [e1,List.toList_toArray,e2,List.take_left']
   rfl
theorem af.yT {K cn:Nat} {j0:List Value} {ak:List (List Value)} {j:Nat} (ho:bG ops i n σ d (.call ⟨.builtin .append,#[x,y],#[t,t]⟩)) (hd:eF ops [i] ls=true) (ht:P.underlying t=some (.slice e)) (he:dG P e K cn j0) (hj:j<ak.length)
  (hx:aA σ x=some (.slice a j c)) (hy:aA σ y=some (.slice (if c=j+1 then a else a.map (·.add ((j+1)*K))) (ak.length - (j+1)) (c - (j+1)))) (hs:a_ U (av (ag.cells K) e (.slice a ak.length c) ak) ζ)
  (h:af P fn n R ops k D g ls ((d,.slice a (ak.length - 1) c)::σ) (av (ag.cells K) e (.slice a (ak.length - 1) c) (ak.eraseIdx j)::ζ)):af P fn n R ops k D g (i::ls) σ U :=
 aI.perm hs.perm (af.gd (U:=av (ag.cells K) e (.slice a ak.length c) ak::ζ) (K:=fun v ax =>v=.slice a (ak.length - 1) c∧ax =av (ag.cells K) e (.slice a (ak.length - 1) c) (ak.eraseIdx j)::ζ) ho rfl hd
  (fun uG =>(bC.yT ht he hj hx hy a_.here).imp fun _ _ ⟨h1,h2⟩=>⟨_,⟨h1,rfl⟩,h2⟩) (by rintro _ _ ⟨rfl,rfl⟩;exact h))
theorem O.B8 {K cn:Nat} {j0:List Value} {ak:List (List Value)} {b m' :Nat} (ho:ko ops i=some (.call ⟨.builtin .clear,#[x],#[t]⟩)) (ht:P.underlying t=some (.slice e)) (he:dG P e K cn j0) (vC:∀ v∈j0,v.oneCell' =true) (hK:0<K) (h0:ak.length<m') (hm:m' ≤c)
  (hx:aA σ x=some (.slice (if c=ak.length then some ⟨b,0,none⟩ else (some (⟨b,0,none⟩:Addr)).map (·.add (ak.length*K))) (m' - ak.length) (c - ak.length))) (hs:a_ U (av (ag.cells K) e (.slice (some ⟨b,0,none⟩) ak.length c) ak) ζ)
  (h:O ro P fn n R ops ls k σ D g (av (ag.cells K) e (.slice (some ⟨b,0,none⟩) ak.length c) ak::ζ)):O ro P fn n R ops (i::ls) k σ D g U:=by
 intro act w hf hd hw
 obtain ⟨o,hi,eB,hop,hg⟩:=pM ho;have hw1:=hw.cr hs;obtain ⟨p1,p2,p3,LX,oe,s1,s2,k1,k2,kd,t1,t2,⟨bE,ha,hl,hA⟩,hr⟩:=hw1;obtain ⟨rfl,hlen,hone⟩:=rC ha
 rcases hA with ⟨hv,_⟩|⟨b',cap,cur,hv,⟨fz,hb,hz⟩,h1,h2,h3,h4⟩
 ·cases hv
 ·injection hv with e1 _ bY
  injection e1 with e1
  injection e1 with e1
  subst e1 bY;have hkk:(ag.cells K).k=K:=rfl;rw [hkk] at h3 h4 hz;have hb0:Holds w g (blk b (.cells cur e fz)::ζ):=⟨p1,p2,p3,LX,oe,s1,s2,k1,k2,kd,t1,t2,hb,hr⟩;rw [if_neg (by omega:¬ c=bE.length)] at hx;simp only [Option.map_some,add_lit,Nat.zero_add] at hx;obtain ⟨info,cw,hin,Q9,hsz,_,kM,hzl⟩:=he;have p9:(Builtin.zeroCells cw.cells (m' - bE.length)).toList=fe j0 (m' - bE.length):=by
   have hzs:cw.cells.size=K:=by rw [← hzl,← kM];simp
   have:=x7 cw.cells (m' - bE.length) (by omega);rw [kM] at this;rw [← this];rfl
  have hrl:(fe j0 (m' - bE.length)).length=(m' - bE.length)*K:=by rw [r8,hzl]
  have hmul:bE.length*K+(m' - bE.length)*K=m' *K:=by rw [← Nat.add_mul];congr 1;omega
  have zT:m' *K≤c*K:=Nat.mul_le_mul_right K hm;have hro:∀ v∈fe j0 (m' - bE.length),v.oneCell' =true:=by
   generalize m' - bE.length=q
   induction q with
   |zero=>simp [fe]
   |succ q ih=>intro v hv;simp only [fe,List.mem_append] at hv;exact hv.elim (vC v) (ih v)
  have hst:=sx P b (bE.length*K) e (by rw [h3];exact hz:ry fz cur.size) (fe j0 (m' - bE.length)) 0 cur w hb0.block (Nat.le_refl _) (by rw [hrl,h3];omega) hro;simp only [Nat.add_zero] at hst;have r0:(zeroValue e).run P w=.ok cw w:=Fz (by simp [zeroOf,hin,Q9]) w;obtain ⟨q0,D6⟩:∃ q0,m' - bE.length=q0+1:=⟨m' - bE.length - 1,by omega⟩;have Pe:(Builtin.clear_ #[t] o.type #[.slice (some ⟨b,bE.length*K,none⟩) (m' - bE.length) (c - bE.length)]).run P w=.ok (.tuple #[]) (w.setRow b (cur.toList.take (bE.length*K)++fe j0 (m' - bE.length)++cur.toList.drop (bE.length*K+(fe j0 (m' - bE.length)).length)).toArray):=by
   rw [D6] at hst p9 ⊢;simp only [Builtin.clear_,List.getElem?_toArray,List.getElem?_cons_zero,Sem.run_bind,run_underlying ht,Result.andThen,r0,p9,hst,Sem.run_pure]
  have hrun:(execOp act.eval o).run P w=.ok (.value (.tuple #[])) (w.setRow b (cur.toList.take (bE.length*K)++fe j0 (m' - bE.length)++cur.toList.drop (bE.length*K+(fe j0 (m' - bE.length)).length)).toArray):=by
   simp [execOp,hop,resolve,invoke,builtin,hf.kn x _ hx,Pe]
  refine O.mJ hi (by simp [Region.wanted,hg]) (by rw [hop];intro c hc;cases hc) hrun ?_;rw [Oper.uponIn_value,eB];refine h _ _ hf hd ?_;refine (hb0.setRow (cs:=(cur.toList.take (bE.length*K)++fe j0 (m' - bE.length)++cur.toList.drop (bE.length*K+(fe j0 (m' - bE.length)).length)).toArray)).imp fun _ x=>Sat.fk (fun m0 hm0=>?_) (fun _ z=>z) x;have eb:cur.toList.length=c*K:=by simpa using h3
  refine ⟨bE,rD hlen hone,hl,.inr ⟨b,c,_,rfl,⟨fz,hm0,hz⟩,h1,h2,?_,?_⟩⟩
  ·simp only [List.size_toArray,List.length_append,List.length_take,List.length_drop,hkk]
   rw [hrl,eb]
   omega
  ·rw [hkk,List.toList_toArray,List.append_assoc,List.take_append,List.length_take,eb,Nat.min_eq_left (by omega),Nat.sub_self,List.take_zero,List.append_nil,List.take_take,Nat.min_self]
   exact h4
end
end Go.Sp
end
end
section
/- Texts of this proof, one behind the other. -/
section
/- Texts of this proof. -/
open Go
namespace Go.Sp
def j3 (q d k:Fr):Prop:=∀ i o,q i=some o→d i=some o∨k i=some o
theorem j3.own (d k:Fr):j3 k d k:=fun _ _ h=>.inr h
theorem j3.mono {q d k k' :Fr} (s:k.sub k') (h:j3 q d k):j3 q d k' :=fun i o e=>(h i o e).imp id (s i o)
theorem j3.sub {q d k g:Fr} (hd:d.sub g) (hk:k.sub g) (h:j3 q d k):q.sub g:=fun i o e=>(h i o e).elim (hd i o) (hk i o)
section
variable {α:Type}
def ag.ga (d k:Fr) (T:ag α):ag α:={ k:=T.k,rel:=fun _ cs a=>∃ q,j3 q d k∧T.rel q cs a,len:=fun ⟨_,_,h⟩=>T.len h,mono:=fun _ h=>h,one:=fun ⟨_,_,h⟩=>T.one h }
theorem ag.zf {T:ag α} {d k h g:Fr} {cs:List Value} {a:α} (hd:d.sub g) (hk:k.sub g):(ag.ga d k T).rel h cs a→T.rel g cs a:=fun ⟨_,c,x⟩=>T.mono (c.sub hd hk) x
theorem ag.ze {T:ag α} {d k k' h h' :Fr} {cs:List Value} {a:α} (s:k.sub k'):(ag.ga d k T).rel h cs a→(ag.ga d k' T).rel h' cs a:=fun ⟨q,c,x⟩=>⟨q,c.mono s,x⟩
theorem av.imp {T kR:ag α} {e:TypeId} {v:Value} {xs:List α} {m:Fr} (hk:T.k=kR.k) (h:∀ cs a,T.rel Fr.emp cs a→kR.rel Fr.emp cs a):av T e v xs m→av kR e v xs m:=fun ⟨ak,a,o⟩=>⟨ak,a.imp fun _ _=>h _ _,by rw [← hk];exact o⟩
theorem av.ze {T:ag α} {e:TypeId} {d k k' :Fr} {v:Value} {xs:List α} {m:Fr} (s:k.sub k') (x:av (ag.ga d k T) e v xs m):av (ag.ga d k' T) e v xs m:=av.imp (T:=ag.ga d k T) (kR:=ag.ga d k' T) rfl (fun _ _=>ag.ze s) x
theorem aj.zf {T:ag α} {d k h:Fr} {v:Value} {xs:List α} (hd:d.sub h) (hk:k.sub h):aj (ag.ga d k T) h v xs→aj T h v xs:=fun ⟨ak,a,b⟩=>⟨ak,a.imp fun _ _ x=>ag.zf hd hk x,b⟩
end
def iN (d k:Fr) (L:List aG) (M:List (cg (List UInt8))):Prop:=∀ p v,cE M p=some v→js p∧∃ q,j3 q d k∧aj ag.u8 q v (bZ L p)
theorem iN.mono {d k k' :Fr} {L:List aG} {M:List (cg (List UInt8))} (s:k.sub k') (h:iN d k L M):iN d k' L M:=fun p v e=>⟨(h p v e).1,(h p v e).2.elim fun q x=>⟨q,x.1.mono s,x.2⟩⟩
theorem iN.nil (d k:Fr) (L:List aG):iN d k L []:=fun p v h=>by cases h
theorem iN.put {d k:Fr} {L:List aG} {M:List (cg (List UInt8))} {c:Nat} {p:List UInt8} {v:Value} (h:iN d k L M) (hp:js p) (hv:∃ q,j3 q d k∧aj ag.u8 q v (bZ L p)):iN d k L (iI M c p v):=fun j u e=>by
 rw [HR] at e
 split at e
 ·rename_i q;subst q;cases e;exact ⟨hp,hv⟩
 ·exact h j u e
structure eX where
 tree:TypeId
 leaf:TypeId
 str:TypeId
def dX (aO:eX) (d k:Fr) (b:Nat) (s:Nat) (L:List aG):az:=fun m=>∃ c8 c9 mid M c,(gL M c∧iN d k L M) ∧
 Sat [obj b aO.tree [c8,c9,.int .i64 (s:Int),.map (some mid)],av (ag.ga d k bW) aO.leaf c8 L,av ag.str aO.str c9 (L.map fun y=>bS y.1),ck encS mid M c] m
def jK (k:Fr):az:=fun m=>m=k
def bl (aO:eX) (d:Fr) (b:Nat) (s:Nat) (L:List aG):az:=fun m=>∃ k,Sat [jK k,dX aO d k b s L] m
def jB (aO:eX) (d:Fr) (b:Nat) (s:Nat) (L:List aG) (v:Value) (xs:List UInt8):az:=fun m=>∃ k,(∃ q,j3 q d k∧aj ag.u8 q v xs)∧Sat [jK k,dX aO d k b s L] m
abbrev ag.nat:ag Nat:=ag.G8 (fun n:Nat=>(n:Int)) ag.i64
def kC (h:Fr) (b:Nat) (s:Nat) (L:List aG):Prop:=∃ cO cQ cz cA mid,At h ⟨b,0,none⟩ [.slice cO L.length cQ,.slice cz L.length cA,.int .i64 (s:Int),.map (some mid)]∧aj bW h (.slice cO L.length cQ) L∧aj ag.str h (.slice cz L.length cA) (L.map fun y=>bS y.1)
theorem kC.mono {h h' :Fr} {b s:Nat} {L:List aG} (e:h.sub h'):kC h b s L→kC h' b s L:=fun ⟨a,c,x,y,mid,h1,h2,h3⟩=>⟨a,c,x,y,mid,h1.mono e,h2.mono e,h3.mono e⟩
theorem dX.a {aO:eX} {d k g:Fr} {b s:Nat} {L:List aG} {m:Fr} (hd:d.sub g) (hk:k.sub g) (hm:m.sub g):dX aO d k b s L m→kC g b s L:=fun ⟨c8,c9,mid,M,c,_,hs⟩=>by
 obtain ⟨m1,_,_,s1,t1,o,m2,_,_,s2,t2,sG,m3,_,_,s3,_,wg,_⟩:=hs;have h1:m2.sub m:=Fr.aH s2 t1;have h2:m3.sub m:=Fr.aH s3 (Fr.aH t2 t1);obtain ⟨cO,cQ,rfl⟩:=sG.shape;obtain ⟨cz,cA,hw⟩:=wg.shape;rw [List.length_map] at hw;subst hw;refine ⟨cO,cQ,cz,cA,mid,((gf o).mono s1).mono hm,?_,(wg.arr.mono h2).mono hm⟩;exact ((sG.arr.mono h1).mono hm).zf hd hk
theorem bl.a {aO:eX} {d g:Fr} {b s:Nat} {L:List aG} {m:Fr} (hd:d.sub g) (hm:m.sub g):bl aO d b s L m→kC g b s L:=fun ⟨k,h⟩=>by
 obtain ⟨m1,_,_,s1,t1,o,m2,_,_,s2,t2,sG,_⟩:=h
 cases (o:m1=k)
 exact dX.a hd (Fr.aH s1 hm) (Fr.aH (Fr.aH s2 t1) hm) sG
theorem AD {α:Type} {T:ag α} {e:TypeId}:av T e (.slice none 0 0) ([]:List α) Fr.emp:=⟨[],trivial,(Nat.zero_mul _).symm,.inl ⟨rfl,rfl⟩⟩
theorem WW {aO:eX} {b mid s:Nat} {m:Fr} (h:Sat [obj b aO.tree [.slice none 0 0,.slice none 0 0,.int .i64 (s:Int),.map (some mid)],ck encS mid [] 0] m):bl aO Fr.emp b s [] m:=by
 obtain ⟨m1,m2,d,s1,s2,o,m3,m4,d2,s3,pO,x,_⟩:=h;refine ⟨Fr.emp,Fr.emp,m,Fr.dZ _,Fr.cV _,Fr.bU _,rfl,m,Fr.emp,Fr.eZ (Fr.dZ _),Fr.bU _,Fr.cV _,⟨.slice none 0 0,.slice none 0 0,mid,[],0,⟨gL.nil,iN.nil _ _ _⟩,?_⟩,trivial⟩;exact ⟨m1,m2,d,s1,s2,o,Fr.emp,m2,Fr.dZ _,Fr.cV _,Fr.bU _,AD,Fr.emp,m2,Fr.dZ _,Fr.cV _,Fr.bU _,AD,m3,m4,d2,s3,pO,x,trivial⟩
structure bP (d:Fr) (L:List aG) where
 k:Fr
 c8:Value
 c9:Value
 mid:Nat
 M:List (cg (List UInt8))
 c:Nat
 wf:gL M c
 ok:iN d k L M
abbrev bP.ws {d:Fr} {L:List aG} (aO:eX) (b s:Nat) (x:bP d L):List az :=
 [jK x.k,obj b aO.tree [x.c8,x.c9,.int .i64 (s:Int),.map (some x.mid)],av (ag.ga d x.k bW) aO.leaf x.c8 L,av ag.str aO.str x.c9 (L.map fun y=>bS y.1),ck encS x.mid x.M x.c]
theorem bl.jq {aO:eX} {d:Fr} {b s:Nat} {L:List aG} {m:Fr}:bl aO d b s L m→∃ x:bP d L,Sat (x.ws aO b s) m
 |⟨k,m1,m2,d1,s1,s2,o,_,_,_,s3,_,⟨c8,c9,mid,M,c,⟨h1,h2⟩,hs⟩,_⟩=>⟨⟨k,c8,c9,mid,M,c,h1,h2⟩,m1,m2,d1,s1,s2,o,Sat.mono s3 hs⟩
theorem bl.fold {aO:eX} {d:Fr} {b s:Nat} {L:List aG} {m:Fr} (x:bP d L):Sat (x.ws aO b s) m→bl aO d b s L m
 |⟨m1,m2,d1,s1,s2,o,hs⟩=>⟨x.k,m1,m2,d1,s1,s2,o,m2,Fr.emp,Fr.eZ (Fr.dZ _),Fr.bU _,Fr.cV _,⟨x.c8,x.c9,x.mid,x.M,x.c,⟨x.wf,x.ok⟩,hs⟩,trivial⟩
theorem jB.fold {aO:eX} {d:Fr} {b s:Nat} {L:List aG} {m:Fr} (x:bP d L) {p:List UInt8} {v:Value} (e:cE x.M p=some v):Sat (x.ws aO b s) m→jB aO d b s L v (bZ L p) m
 |⟨m1,m2,d1,s1,s2,o,hs⟩=>⟨x.k,(x.ok p v e).2,m1,m2,d1,s1,s2,o,m2,Fr.emp,Fr.eZ (Fr.dZ _),Fr.bU _,Fr.cV _,⟨x.c8,x.c9,x.mid,x.M,x.c,⟨x.wf,x.ok⟩,hs⟩,trivial⟩
attribute [local irreducible] bZ
abbrev bP.LI {d:Fr} {L:List aG} (aO:eX) (b s:Nat) (x:bP d L) (e:TypeId) (v:Value) (p xs:List UInt8):List az :=
 [jK x.k,av ag.u8 e v xs,obj b aO.tree [x.c8,x.c9,.int .i64 (s:Int),.map (some x.mid)],av (ag.ga d x.k bW) aO.leaf x.c8 L,av ag.str aO.str x.c9 (L.map fun y=>bS y.1),ck encS x.mid (iI x.M x.c p v) (kT x.M x.c p)]
theorem jB.put {aO:eX} {d:Fr} {b s:Nat} {L:List aG} {m:Fr} {e:TypeId} (x:bP d L) {p:List UInt8} {v:Value} {xs:List UInt8} (hp:js p) (hx:xs=bZ L p)
  (h:Sat (x.LI aO b s e v p xs) m) :
  jB aO d b s L v (bZ L p) m:=by
 subst hx;obtain ⟨n1,r1,d1,s1,s2,o1,n2,m2,d2,t1,t2,o2,hs⟩:=h;have e1:n1=x.k:=o1;have Cp:(n1.add n2).cR m2:=Fr.p4 (fun i=>(d1 i).imp id fun q=>by
  cases c:m2 i with
  |none=>rfl
  |some o=>rw [t2 i o c] at q;cases q) d2
 have d12:n1.cR n2:=fun i=>(d1 i).imp id fun q=>by
  cases c:n2 i with
  |none=>rfl
  |some o=>rw [t1 i o c] at q;cases q
 have sm:(n1.add n2).sub m:=Fr.iw s1 (Fr.aH t1 s2);have hk:x.k.sub (n1.add n2):=e1 ▸ Fr.de n1 n2;have hv:∃ q,j3 q d (n1.add n2)∧aj ag.u8 q v (bZ L p):=⟨n1.add n2,j3.own _ _,o2.arr.mono (Fr.dL d12)⟩;have hs' :dX aO d (n1.add n2) b s L m2:=by
  obtain ⟨a1,a2,da,sa,sb,q1,b1,b2,db,sc,sd,q2,cF⟩:=hs;exact ⟨x.c8,x.c9,x.mid,iI x.M x.c p v,kT x.M x.c p,⟨AN x.wf p v,(x.ok.mono hk).put (c:=x.c) hp hv⟩,a1,a2,da,sa,sb,q1,b1,b2,db,sc,sd,q2.ze hk,cF⟩
 exact ⟨n1.add n2,hv,n1.add n2,m2,Cp,sm,Fr.aH t2 s2,rfl,m2,Fr.emp,Fr.eZ (Fr.dZ _),Fr.bU _,Fr.cV _,hs',trivial⟩
theorem bl.jG {aO:eX} {d g:Fr} {b s:Nat} {L:List aG} {m:Fr} {U:List az} (hd:d.sub g) (hm:g.cR m):Sat (bl aO d b s L::U) m→kC (g.add m) b s L
 |⟨_,_,_,s1,_,o,_⟩=>bl.a (Fr.aH hd (Fr.de _ _)) (Fr.aH s1 (Fr.dL hm)) o
theorem jB.jG {aO:eX} {d g:Fr} {b s:Nat} {L:List aG} {v:Value} {xs:List UInt8} {m:Fr} (hd:d.sub g) (hm:g.cR m):Sat [jB aO d b s L v xs] m→aj ag.u8 (g.add m) v xs
 |⟨_,_,_,s1,_,⟨k,⟨q,c,a⟩,n1,_,_,t1,_,o,_⟩,_⟩=>a.mono (c.sub (Fr.aH hd (Fr.de _ _)) (by
  have e:n1=k:=o;exact e ▸ Fr.aH t1 (Fr.aH s1 (Fr.dL hm))))
theorem jB.toX {aO:eX} {d:Fr} {b s:Nat} {L:List aG} {v:Value} {xs:List UInt8} {m:Fr}:Sat [jB aO d b s L v xs] m→bl aO d b s L m
 |⟨_,_,_,s1,_,⟨k,_,n1,n2,aZ,t1,t2,o,hs⟩,_⟩=>⟨k,n1,n2,aZ,Fr.aH t1 s1,Fr.aH t2 s1,o,hs⟩
theorem S5 {α:Type} {G:bN α} {e:TypeId} {v:Value} {m:Fr} {k:Nat} (hk:G.jd.k=k):Sat [av (ag.cells k) e v []] m→cH G e v [] m
 |⟨m1,m2,d,s1,s2,o,_⟩=>by subst hk;exact ⟨[],m1,m2,d,s1,s2,o,m2,Fr.emp,Fr.eZ (Fr.dZ _),Fr.bU _,Fr.cV _,trivial,trivial⟩
theorem J_ {α:Type} {A:az} {T:ag α} {e:TypeId} {v:Value} {xs:List α} {m:Fr} {U:List az} (h:Sat (A::av T e v xs::U) m):aj T m v xs:=by
 obtain ⟨_,_,_,_,s2,_,m3,_,_,s3,_,o,_⟩:=h;exact o.arr.mono (Fr.aH s3 s2)
theorem aF.sD {P:Program} {σ:List (Nat × Value)} {g:bk} {U ζ:List az} {t:TypeId} {x:Operand} {aO:eX} {d:Fr} {b s:Nat} {L:List aG} (ht:dU P t=true) (hx:aA σ x=some (.pointer (some ⟨b,2,none⟩))) (hs:a_ U (bl aO d b s L) ζ) :
  aF P (.load t x) σ g U (.int .i64 (s:Int)) U:=fun o ρ w ho hk hw=>⟨w,by
 obtain ⟨_,_,_,k,_,_,s2,k1,_,_,t1,_,XF,_⟩:=hw.cr hs;obtain ⟨y,m1,m2,_,_,u2,_,m3,_,_,Xl,_,o,_⟩:=bl.jq XF;have hb:w.heap[b]?=some (.cells [y.c8,y.c9,.int .i64 (s:Int),.map (some y.mid)].toArray aO.tree (0,0)):=s2 _ _ (t1 _ _ (u2 _ _ (Xl _ _ o)));have hc:w.cell? ⟨b,2,none⟩=some (.int .i64 (s:Int)):=by simp [World.cell?,hb]
 simp [execOp,ho,hk x _ hx,Instr.loadAt,Instr.sureAddr,loadVar,sw (rL ht),hc],hw⟩
theorem bO.cu {P:Program} {fn:Func} {n:Nat} {R:Ending→World→Prop} {k:List Item} {σ:List (Nat × Value)} {D:List Deferred} {g:bk} {U:List az} {ops:Array Oper} {l:List Nat} {i d:Nat} {t:TypeId} {x:Operand} {v:Value}
  (ho:bG ops i n σ d (.load t x)) (_:true=true) (dc:∀ ζ,aF P (.load t x) σ g (U++ζ) v (U++ζ)) (h:af P fn n R ops k D g l ((d,v)::σ) U):aI P fn n R ops k D g true (i::l) σ U :=
 bO.gd (K:=fun v' ax =>v' =v∧ax =U) ho rfl rfl (fun ζ o ρ w h1 h2 h3=>let ⟨w',a,b⟩:=dc ζ o ρ w h1 h2 h3;⟨v,w',U++ζ,⟨U,⟨rfl,rfl⟩,rfl⟩,a,b⟩) (by rintro _ _ ⟨rfl,rfl⟩;exact h)
theorem dX.TN {aO:eX} {d k g:Fr} {b s:Nat} {L:List aG} {m:Fr} (hd:d.sub g) (hk:k.sub g):dX aO d k b s L m→dX aO g Fr.emp b s L m
 |⟨c8,c9,mid,M,c,⟨h1,h2⟩,a1,a2,da,sa,sb,q1,b1,b2,db,sc,sd,q2,cF⟩=>⟨c8,c9,mid,M,c,⟨h1,fun p v e=>⟨(h2 p v e).1,(h2 p v e).2.elim fun q x=>⟨q,fun i o z=>.inl (x.1.sub hd hk i o z),x.2⟩⟩⟩,a1,a2,da,sa,sb,q1,b1,b2,db,sc,sd,
  av.imp (T:=ag.ga d k bW) (kR:=ag.ga g Fr.emp bW) rfl (fun _ _ ⟨q,x,y⟩=>⟨q,fun i o z=>.inl (x.sub hd hk i o z),y⟩) q2,cF⟩
theorem dX.toX {aO:eX} {d:Fr} {b s:Nat} {L:List aG} {m:Fr}:Sat [dX aO d Fr.emp b s L] m→bl aO d b s L m
 |⟨m1,_,_,s1,_,o,_⟩=>⟨Fr.emp,Fr.emp,m1,Fr.dZ _,Fr.cV _,s1,rfl,m1,Fr.emp,Fr.eZ (Fr.dZ _),Fr.bU _,Fr.cV _,o,trivial⟩
abbrev bP.qs {d:Fr} {L:List aG} (aO:eX) (b s:Nat) (x:bP d L):List az :=
 [obj b aO.tree [x.c8,x.c9,.int .i64 (s:Int),.map (some x.mid)],av (ag.ga d x.k bW) aO.leaf x.c8 L,av ag.str aO.str x.c9 (L.map fun y=>bS y.1),ck encS x.mid x.M x.c]
theorem dX.jq {aO:eX} {d:Fr} {b s:Nat} {L:List aG} {m:Fr}:dX aO d Fr.emp b s L m→∃ x:{x:bP d L // x.k=Fr.emp},Sat (x.1.qs aO b s) m
 |⟨c8,c9,mid,M,c,⟨h1,h2⟩,hs⟩=>⟨⟨⟨Fr.emp,c8,c9,mid,M,c,h1,h2⟩,rfl⟩,hs⟩
theorem dX.fold {aO:eX} {d:Fr} {b s:Nat} {L:List aG} {m:Fr} (x:bP d L) (hs:Sat (x.qs aO b s) m):dX aO d x.k b s L m:=⟨x.c8,x.c9,x.mid,x.M,x.c,⟨x.wf,x.ok⟩,hs⟩
theorem SR {dB:rz} {d m:Fr} {e:TypeId} {v:Value} {L:List aG} (h:cH (en dB) e v L m):∃ k,Sat [jK k,av (ag.ga d k bW) e v L] m:=by
 obtain ⟨ak,m1,m2,dd,s1,s2,o,m3,_,_,s3,_,x,_⟩:=h;have hx:bV ((ag.ga d m2 bW).rel Fr.emp) ak L:=b6.sU (R:=fun cs a=>(ag.ga d m2 bW).rel Fr.emp cs a) (k:=m2) (fun cs a m' z s=>⟨m',j3.mono s (j3.own d m'),(en dB).rel z⟩) x s3;obtain ⟨ds,hds,hown⟩:=o;obtain ⟨rfl,h1,h2⟩:=rC hds;exact ⟨m2,m2,m1,Fr.eZ dd,s2,s1,rfl,m1,Fr.emp,Fr.eZ (Fr.dZ _),Fr.bU _,Fr.cV _,⟨ds,hx,by rw [← hx.length];exact hown⟩,trivial⟩
theorem bl.made {aO:eX} {dB:rz} {d:Fr} {b s mid c:Nat} {L:List aG} {M:List (cg (List UInt8))} {c8 c9:Value} {m:Fr} (wf:gL M c) (ok:iN d Fr.emp L M)
  (h:Sat [cH (en dB) aO.leaf c8 L,obj b aO.tree [c8,c9,.int .i64 (s:Int),.map (some mid)],av ag.str aO.str c9 (L.map fun y=>bS y.1),ck encS mid M c] m):bl aO d b s L m:=by
 obtain ⟨m1,r1,d1,s1,s2,x1,hr⟩:=h;obtain ⟨k,hk⟩:=SR (d:=d) x1;have h5:=Sat.mono (Fr.iw s1 s2) (Sat.append d1 hk hr);exact bl.fold (aO:=aO) (b:=b) (s:=s) ⟨k,c8,c9,mid,M,c,wf,ok.mono (Fr.cV _)⟩ (h5.perm (.cons _ (.swap _ _ _)))
end Go.Sp
end
section
/- Texts of this proof. -/
open Go
namespace Go.Sp
theorem JF {a b:List UInt8} (h:¬ a<b) (h' :a≠b):b<a:=Classical.byContradiction fun q=>h' (List.le_antisymm (List.not_lt.1 q) (List.not_lt.1 h))
def gQ (L:List aG) (x:aG):List aG:=L.filter (fun y=>decide (y.1<x.1))++(if x.2.1.length=0 then [] else [x])++L.filter (fun y=>decide (x.1<y.1))
theorem EM {L:List aG} {x y:aG}:y∈gQ L x↔(y∈L∧y.1≠x.1)∨(y=x∧x.2.1.length≠0):=by
 unfold gQ;simp only [List.mem_append,List.mem_filter,decide_eq_true_eq]
 constructor
 ·rintro ((⟨h,q⟩|h)|⟨h,q⟩)
  ·exact .inl ⟨h,fun e=>by rw [e] at q;exact List.lt_irrefl _ q⟩
  ·split at h
   ·cases h
   ·rename_i q;exact .inr ⟨List.mem_singleton.1 h,q⟩
  ·exact .inl ⟨h,fun e=>by rw [e] at q;exact List.lt_irrefl _ q⟩
 ·rintro (⟨h,q⟩|⟨rfl,q⟩)
  ·by_cases hl:y.1<x.1
   ·exact .inl (.inl ⟨h,hl⟩)
   ·exact .inr ⟨h,JF hl q⟩
  ·rw [if_neg q];exact .inl (.inr (List.mem_singleton.2 rfl))
theorem eC.put {L:List aG} (h:eC L) (x:aG):eC (gQ L x):=by
 unfold gQ eC;rw [List.append_assoc,List.pairwise_append];refine ⟨h.sublist List.filter_sublist,?_,?_⟩
 ·rw [List.pairwise_append]
  refine ⟨?_,h.sublist List.filter_sublist,?_⟩
  ·split
   ·exact .nil
   ·exact List.pairwise_singleton _ _
  ·intro a ha b hb
   split at ha
   ·cases ha
   ·cases List.mem_singleton.1 ha;exact of_decide_eq_true (List.mem_filter.1 hb).2
 ·intro a ha b hb
  have h1:=of_decide_eq_true (List.mem_filter.1 ha).2
  rcases List.mem_append.1 hb with hb|hb
  ·split at hb
   ·cases hb
   ·cases List.mem_singleton.1 hb;exact h1
  ·exact List.lt_trans h1 (of_decide_eq_true (List.mem_filter.1 hb).2)
theorem eC.ext:∀ {L M:List aG},eC L→eC M→(∀ y,y∈L↔y∈M)→L=M
 |[],[],_,_,_=>rfl
 |[],y::_,_,_,h=>absurd ((h y).2 (by simp)) (by simp)
 |x::_,[],_,_,h=>absurd ((h x).1 (by simp)) (by simp)
 |x::L,y::M,hL,vn,h=>by
  have hx:=List.pairwise_cons.1 hL;have hy:=List.pairwise_cons.1 vn;have e:x=y:=by
   rcases List.mem_cons.1 ((h x).1 (by simp)) with e|e
   ·exact e
   ·rcases List.mem_cons.1 ((h y).2 (by simp)) with q|q
    ·exact q.symm
    ·exact absurd (List.lt_trans (hy.1 x e) (hx.1 y q)) (List.lt_irrefl _)
  subst e
  congr 1
  refine eC.ext hx.2 hy.2 fun z=>⟨fun hz=>?_,fun hz=>?_⟩
  ·rcases List.mem_cons.1 ((h z).1 (by simp [hz])) with e|e
   ·subst e;exact absurd (hx.1 z hz) (List.lt_irrefl _)
   ·exact e
  ·rcases List.mem_cons.1 ((h z).2 (by simp [hz])) with e|e
   ·subst e;exact absurd (hy.1 z hz) (List.lt_irrefl _)
   ·exact e
theorem eC.key {L:List aG} (h:eC L) {x y:aG} (hx:x∈L) (hy:y∈L) (e:x.1=y.1):x=y:=by
 obtain ⟨i,hi,rfl⟩:=List.getElem_of_mem hx;obtain ⟨j,hj,rfl⟩:=List.getElem_of_mem hy
 rcases Nat.lt_trichotomy i j with q|q|q
 ·exact absurd (List.pairwise_iff_getElem.1 h i j hi hj q) (by rw [e];exact List.lt_irrefl _)
 ·subst q;rfl
 ·exact absurd (List.pairwise_iff_getElem.1 h j i hj hi q) (by rw [e];exact List.lt_irrefl _)
noncomputable def mT (s:Nat) (x:aG):Int:=if ¬ (mQ x.1∧pP x.1=s) then 22 else if ¬ nM x.1 x.2.1 then 4 else 0
noncomputable def jt (s:Nat):List aG→Int
 |[]=>0
 |x::l=>if mT s x=0 then jt s l else mT s x
def uc (s:Nat) (x:aG):Prop:=(mQ x.1∧pP x.1=s)∧nM x.1 x.2.1
theorem Fc {s:Nat} {x:aG}:mT s x=0↔uc s x:=by
 unfold mT uc
 by_cases h:mQ x.1∧pP x.1=s
 ·rw [if_neg (by simp [h])]
  by_cases k:nM x.1 x.2.1
  ·rw [if_neg (by simp [k])];exact ⟨fun _=>⟨h,k⟩,fun _=>rfl⟩
  ·rw [if_pos k];exact ⟨fun q=>absurd q (by decide),fun q=>absurd q.2 k⟩
 ·rw [if_pos h];exact ⟨fun q=>absurd q (by decide),fun q=>absurd q.1 h⟩
theorem Fe {s:Nat}:∀ {l:List aG},jt s l=0↔∀ x∈l,uc s x
 |[]=>by simp [jt]
 |x::l=>by
  unfold jt
  by_cases h:mT s x=0
  ·rw [if_pos h,Fe,List.forall_mem_cons,← Fc];exact ⟨fun q=>⟨h,q⟩,fun q=>q.2⟩
  ·rw [if_neg h,List.forall_mem_cons,← Fc];exact ⟨fun q=>absurd q h,fun q=>absurd q.1 h⟩
theorem iv.put {s:Nat} {L:List aG} {x:aG} (h:iv s L) (hx:uc s x):iv s (gQ L x):=by
 refine ⟨fun y hy=>?_,h.2.put x⟩
 rcases EM.1 hy with ⟨q,_⟩|⟨rfl,q⟩
 ·exact h.1 y q
 ·have h0:0<y.2.1.length:=by omega
  exact ⟨⟨hx.1.1,hx.2.1,h0,hx.2.2 h0⟩,hx.1.2⟩
noncomputable def fQ (L:List aG) (l:List aG):List aG:=l.foldl gQ L
theorem iv.Fh {s:Nat}:∀ {l L:List aG},iv s L→(∀ x∈l,uc s x)→iv s (fQ L l)
 |[],_,h,_=>h
 |x::l,L,h,hl=>iv.Fh (l:=l) (L:=gQ L x) (h.put (hl x (by simp))) fun y hy=>hl y (by simp [hy])
theorem Xr {L:List aG} {x:aG} {p:List UInt8} (hr:eC L) (h:p.isPrefixOf (bS x.1)=false):dO p (gQ L x)=dO p L:=by
 refine eC.ext ((hr.put x).under p) (hr.under p) fun y=>?_;unfold dO;rw [List.mem_filter,List.mem_filter,EM]
 constructor
 ·rintro ⟨⟨q,_⟩|⟨rfl,_⟩,k⟩
  ·exact ⟨q,k⟩
  ·rw [h] at k;cases k
 ·rintro ⟨q,k⟩
  exact ⟨.inl ⟨q,fun e=>by rw [e,h] at k;cases k⟩,k⟩
def aY (L:List aG) (s:List UInt8):Nat:=(L.filter fun y=>decide (y.1<s)).length
theorem Jz (L:List aG) (s:List UInt8):aY L s≤L.length:=List.length_filter_le _ _
theorem Ak:∀ {L:List aG} (s:List UInt8),eC L→L.take (aY L s)=L.filter (fun y=>decide (y.1<s))∧L.drop (aY L s)=L.filter (fun y=>!decide (y.1<s))
 |[],_,_=>⟨rfl,rfl⟩
 |x::L,s,h=>by
  have hx:=List.pairwise_cons.1 h;obtain ⟨h1,h2⟩:=Ak s hx.2
  by_cases q:x.1<s
  ·have e:aY (x::L) s=aY L s+1:=by unfold aY;rw [List.filter_cons_of_pos (by simpa using q)];rfl
   rw [e,List.take_succ_cons,List.drop_succ_cons,h1,h2,List.filter_cons_of_pos (by simpa using q),List.filter_cons_of_neg (by simpa using q)];exact ⟨rfl,rfl⟩
  ·have n:∀ y∈L,¬ y.1<s:=fun y hy k=>q (List.lt_trans (hx.1 y hy) k)
   have e0:L.filter (fun y=>decide (y.1<s))=[]:=List.filter_eq_nil_iff.2 fun y hy=>by simpa using n y hy
   have e:aY (x::L) s=0:=by unfold aY;rw [List.filter_cons_of_neg (by simpa using q),e0];rfl
   have e1:L.filter (fun y=>!decide (y.1<s))=L:=List.filter_eq_self.2 fun y hy=>by simpa using n y hy
   rw [e,List.filter_cons_of_neg (by simpa using q),List.filter_cons_of_pos (by simpa using q),e0,e1];exact ⟨rfl,rfl⟩
theorem EG {L:List aG} {s:List UInt8} (h:eC L) {i:Nat} (hi:i<L.length):L[i].1<s↔i<aY L s:=by
 obtain ⟨h1,h2⟩:=Ak s h
 constructor
 ·intro q
  refine Nat.lt_of_not_ge fun k=>?_;have:L[i]∈L.drop (aY L s):=List.mem_drop_iff_getElem.2 ⟨i - aY L s,by omega,by congr 1;omega⟩;rw [h2,List.mem_filter] at this
  simpa [q] using this.2
 ·intro q
  have:L[i]∈L.take (aY L s):=List.mem_take_iff_getElem.2 ⟨i,by omega,rfl⟩;rw [h1,List.mem_filter] at this
  simpa using this.2
def k6 (L:List aG) (s:List UInt8):Prop:=∃ h:aY L s<L.length,L[aY L s].1=s
noncomputable instance (L:List aG) (s:List UInt8):Decidable (k6 L s):=Classical.propDecidable _
theorem Ji {L:List aG} {s:List UInt8} (h:eC L):k6 L s↔∃ x∈L,x.1=s:=by
 constructor
 ·rintro ⟨q,e⟩;exact ⟨_,List.getElem_mem q,e⟩
 ·rintro ⟨x,hx,e⟩
  obtain ⟨i,hi,rfl⟩:=List.getElem_of_mem hx;have h1:¬ i<aY L s:=fun q=>by have:=(EG h hi).2 q;rw [e] at this;exact List.lt_irrefl _ this
  have h2:¬ aY L s<i:=fun q=>by
   have:=List.pairwise_iff_getElem.1 h _ _ (by omega) hi q;rw [e] at this;exact absurd ((EG h (by omega)).1 this) (Nat.lt_irrefl _)
  have e2:i=aY L s:=by omega
  exact ⟨by omega,(congrArg Prod.fst (show L[aY L s]=L[i] by congr 1;exact e2.symm)).trans e⟩
theorem Kh {L:List aG} {x:aG} (h:eC L) (q:k6 L x.1):gQ L x=L.take (aY L x.1)++(if x.2.1.length=0 then [] else [x])++L.drop (aY L x.1+1):=by
 obtain ⟨h1,h2⟩:=Ak x.1 h;obtain ⟨q1,q2⟩:=q;unfold gQ;rw [h1];congr 1;have e:L.drop (aY L x.1)=L[aY L x.1]::L.drop (aY L x.1+1):=List.drop_eq_getElem_cons q1;have hp:eC (L.drop (aY L x.1)):=h.sublist (List.drop_sublist _ _);rw [e] at hp;have hq:=(List.pairwise_cons.1 hp).1;have k:L.filter (fun y=>decide (x.1<y.1))=(L.drop (aY L x.1)).filter (fun y=>decide (x.1<y.1)):=by
  rw [h2,List.filter_filter];congr 1;funext y
  by_cases c:x.1<y.1
  ·have:¬ y.1<x.1:=fun z=>List.lt_irrefl _ (List.lt_trans c z)
   simp [c,this]
  ·simp [c]
 rw [k,e,List.filter_cons_of_neg (by simp [q2,List.lt_irrefl])];exact List.filter_eq_self.2 fun y hy=>by simpa [q2] using hq y hy
theorem Kg {L:List aG} {x:aG} (h:eC L) (q:¬ k6 L x.1):gQ L x=L.take (aY L x.1)++(if x.2.1.length=0 then [] else [x])++L.drop (aY L x.1):=by
 obtain ⟨h1,h2⟩:=Ak x.1 h;unfold gQ;rw [h1,h2];congr 1;refine List.filter_congr fun y hy=>?_;have ne:y.1≠x.1:=fun e=>q ((Ji h).2 ⟨y,hy,e⟩)
 by_cases c:y.1<x.1
 ·have:¬ x.1<y.1:=fun z=>List.lt_irrefl _ (List.lt_trans c z)
  simp [c,this]
 ·simp [c,JF c ne]
noncomputable def nB (L:List aG) (s:List UInt8):List aP:=if h:k6 L s then (L[aY L s]'h.1).2.1 else []
theorem Og {L:List aG} (h:eC L) {x:aG} (hx:x∈L):nB L x.1=x.2.1:=by
 have q:k6 L x.1:=(Ji h).2 ⟨x,hx,rfl⟩;unfold nB;rw [dif_pos q];rw [h.key (List.getElem_mem q.1) hx q.2]
end Go.Sp
end
end
