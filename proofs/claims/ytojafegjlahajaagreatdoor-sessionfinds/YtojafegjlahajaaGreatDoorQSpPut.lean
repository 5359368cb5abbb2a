/- Texts of this proof, one behind the other. -/
import Derived.Test.YtojafegjlahajaaGreatDoorQSpLaid
set_option linter.unusedSectionVars false
section
/- Texts of this proof, one behind the other. -/
section
/- Texts of this proof, one behind the other. -/
section
/- Texts of this proof, one behind the other. -/
section
/- Texts of this proof. -/
namespace Go.Sp
def mQ (s:List UInt8):Prop:=1≤s.length∧s.length≤64
def gJ (s:List UInt8):Prop:=s.length≤510∧∀ c∈s,c=48∨c=49
def uc {α:Type} (key:α→List UInt8) (l:List α):Prop:=∀ i (h:i<l.length),0<i→key (l[i - 1]'(by omega))<key l[i]
def oz (x:aD):Prop:=mQ x.1∧fJ x.2.1∧∃ h:0<x.2.1.length,x.2.1[0].1=x.1
def gB (n:ed):Prop:=((∀ x∈n.2.2.2.1,oz x)∧uc (·.1) n.2.2.2.1)∧(n.1=1∧n.2.1=[]∧n.2.2.1=[]∧n.2.2.2.1=[]∨n.1=2∧n.2.1=[]∧n.2.2.1=[]∧n.2.2.2.1.length=1∨n.1=3∧n.2.1.length=64∧n.2.2.1.length=64∧n.2.2.2.1=[]∨n.1=4∧n.2.1=[]∧n.2.2.1=[]∧2≤n.2.2.2.1.length)
noncomputable instance (s:List UInt8):Decidable (mQ s):=Classical.propDecidable _
noncomputable instance (s:List UInt8):Decidable (gJ s):=Classical.propDecidable _
noncomputable instance (n:ed):Decidable (gB n):=Classical.propDecidable _
end Go.Sp
end
section
/- Texts of this proof. -/
open Go
namespace Go.Sp
def nQ (s:List UInt8) (l:List aP):Prop:=fJ l∧∀ h:0<l.length,l[0].1=s
noncomputable instance (s:List UInt8) (l:List aP):Decidable (nQ s l):=Classical.propDecidable _
noncomputable def hG (l:List aP):List UInt8:=if fJ l then lK (5::kN l) else []
theorem WQ {l:List aP} (h:fJ l):hG l=lK (5::kN l):=by unfold hG;rw [if_pos h]
theorem WO (l:List aP):(hG l).length≤64:=by unfold hG;split;rw [qi];exact Nat.le_refl _;exact Nat.zero_le _
theorem WR {l:List aP} (h:fJ l):(hG l).length=64:=by rw [WQ h,qi]
def yc (k:UInt8):UInt8:=[0,0,1,2,3].getD k.toNat 0
noncomputable def pI (l:List aD):List (List UInt8):=(l.map fun y=>[bytesOf y.1,hG y.2.1]).flatten
noncomputable def yb (x:ed):List (List UInt8):=[[yc x.1],x.2.1,x.2.2.1]++pI x.2.2.2.1
noncomputable def iB (x:ed):List UInt8:=if gB x then lK (yb x).flatten else []
theorem Kk {x:ed} (h:gB x):iB x=lK (yb x).flatten:=by unfold iB;rw [if_pos h]
theorem Kj {x:ed} (h:¬ gB x):iB x=[]:=by unfold iB;rw [if_neg h]
theorem AF (x:ed):(iB x).length=64↔gB x:=by
 by_cases h:gB x
 ·rw [Kk h,qi];exact ⟨fun _=>h,fun _=>rfl⟩
 ·rw [Kj h];exact ⟨fun w=>absurd w (by decide),fun w=>absurd w h⟩
theorem Tn {l:List aD} {k:Nat} (h:k<l.length):pI (l.take k)++[bytesOf l[k].1,hG l[k].2.1]=pI (l.take (k+1)):=by
 rw [List.take_succ_eq_append_getElem h];unfold pI;rw [List.map_append,List.flatten_append];simp
theorem JR:∀ l:List aD,(∀ y∈l,y.1.length≤64)→(pI l).flatten.length≤136*l.length
 |[],_=>Nat.zero_le _
 |y::l,h=>by
  have:=JR l fun z hz=>h z (by simp [hz]);have h1:=h y (by simp);have h2:=WO y.2.1;unfold pI at *;simp only [List.map_cons,List.flatten_cons,List.flatten_append,List.length_append,List.length_cons,List.flatten_nil,List.length_nil,Ho];omega
theorem T5 {x:ed} (h:gB x):x.1.toNat<5:=by
 rcases h.2 with h|h|h|h<;>(rw [h.1];decide)
end Go.Sp
end
end
section
/- Texts of this proof. -/
open Go
namespace Go.Sp
def y7 (d:List UInt8) (i:Nat):UInt8:=48+((d.getD (i / 8) 0) >>>UInt8.ofNat (7 - i % 8) &&& 1)
def lE (s:List UInt8):List UInt8:=lK (6::s)
theorem EZ (s:List UInt8):(lE s).length=64:=qi _
def pQ (s:List UInt8):Nat:=((lE s).getD 0 0).toNat / 64
def bq (s:List UInt8):List UInt8:=(List.range 510).map fun i=>y7 (lE s) (i+2)
@[simp] theorem kO (s:List UInt8):(bq s).length=510:=by simp [bq]
theorem MV (d:List UInt8) (i:Nat):y7 d i=48∨y7 d i=49:=by
 unfold y7;generalize (d.getD (i / 8) 0) >>>UInt8.ofNat (7 - i % 8)=x;have h:x &&& 1=0∨x &&& 1=1:=by
  have:(x &&& 1).toNat=x.toNat % 2:=by rw [UInt8.toNat_and];exact Nat.and_one_is_mod _
  rcases Nat.mod_two_eq_zero_or_one x.toNat with e|e
  ·left;apply UInt8.toNat_inj.1;rw [this,e];rfl
  ·right;apply UInt8.toNat_inj.1;rw [this,e];rfl
 rcases h with h|h<;>rw [h]
 ·left;rfl
 ·right;rfl
theorem L6 (s:List UInt8):∀ c∈bq s,c=48∨c=49:=fun c hc=>by
 obtain ⟨i,_,rfl⟩:=List.mem_map.1 hc;exact MV _ _
def di (p:List UInt8) (l:List aD):List aD:=l.filter fun x=>p.isPrefixOf (bq x.1)
theorem Gf (p q:List UInt8) (l:List aD):di (p++q) (di p l)=di (p++q) l:=by
 unfold di;rw [List.filter_filter];congr 1;funext x
 cases h:(p++q).isPrefixOf (bq x.1) with
 |false=>rfl
 |true =>
  rw [List.isPrefixOf_iff_prefix] at h;have:p.isPrefixOf (bq x.1)=true:=List.isPrefixOf_iff_prefix.2 ((List.prefix_append p q).trans h);rw [this];rfl
theorem v8 (p:List UInt8) (l:List aD):(di p l).Sublist l:=List.filter_sublist
def eE (l:List aD):Prop:=l.Pairwise fun a b=>a.1<b.1
theorem eE.keys {l:List aD} (h:eE l):uc (·.1) l:=fun i hi h0=>List.pairwise_iff_getElem.1 h _ _ (by omega) hi (by omega)
theorem eE.under {l:List aD} (h:eE l) (p:List UInt8):eE (di p l):=h.sublist (v8 p l)
noncomputable def nP:Nat→List UInt8→List aD→ed
 |_,_,[]=>(1,[],[],[],())
 |_,_,[x]=>(2,[],[],[x],())
 |0,_,l=>(4,[],[],l,())
 |n+1,p,l=>(3,iB (nP n (p++[48]) (di (p++[48]) l)),iB (nP n (p++[49]) (di (p++[49]) l)),[],())
theorem Fa (n:Nat) (p:List UInt8):nP n p []=(1,[],[],[],()):=by cases n<;>rfl
theorem Fb (n:Nat) (p:List UInt8) (x:aD):nP n p [x]=(2,[],[],[x],()):=by cases n<;>rfl
theorem Fc {p:List UInt8} {l:List aD} (h:2≤l.length):nP 0 p l=(4,[],[],l,()):=by
 match l,h with
 |_::_::_,_=>rfl
theorem Fe {n:Nat} {p:List UInt8} {l:List aD} (h:2≤l.length):nP (n+1) p l=(3,iB (nP n (p++[48]) (di (p++[48]) l)),iB (nP n (p++[49]) (di (p++[49]) l)),[],()):=by
 match l,h with
 |_::_::_,_=>rfl
theorem V8 {a:aD}:eE [a]:=List.pairwise_singleton _ _
theorem Ki:∀ (n:Nat) (p:List UInt8) (l:List aD),(∀ x∈l,oz x)→eE l→gB (nP n p l)
 |n,p,[],_,_=>by rw [Fa];exact ⟨⟨fun _ h=>(List.not_mem_nil h).elim,(eE.keys .nil)⟩,.inl ⟨rfl,rfl,rfl,rfl⟩⟩
 |n,p,[x],h,_=>by rw [Fb];exact ⟨⟨h,V8.keys⟩,.inr (.inl ⟨rfl,rfl,rfl,rfl⟩)⟩
 |0,p,x::y::l,h,hr=>by rw [Fc (by simp)];exact ⟨⟨h,hr.keys⟩,.inr (.inr (.inr ⟨rfl,rfl,rfl,by simp⟩))⟩
 |n+1,p,x::y::l,h,hr=>by
  rw [Fe (by simp)];have k:∀ q,(iB (nP n q (di q (x::y::l)))).length=64:=fun q=>(AF _).2 (Ki n q _ (fun z hz=>h z ((v8 q _).subset hz)) (hr.under q));exact ⟨⟨fun _ h=>(List.not_mem_nil h).elim,eE.keys .nil⟩,.inr (.inr (.inl ⟨rfl,k _,k _,rfl⟩))⟩
def gu (s:Nat) (L:List aD):Prop:=(∀ x∈L,oz x∧pQ x.1=s)∧eE L
theorem gu.nil (s:Nat):gu s []:=⟨fun _ h=>(List.not_mem_nil h).elim,.nil⟩
noncomputable def bN (L:List aD) (p:List UInt8):ed:=nP (510 - p.length) p (di p L)
noncomputable def bw (L:List aD) (p:List UInt8):List UInt8:=iB (bN L p)
theorem Gc {s:Nat} {L:List aD} (h:gu s L) (p:List UInt8):gB (bN L p) :=
 Ki _ _ _ (fun x hx=>(h.1 x ((v8 p L).subset hx)).1) (h.2.under p)
theorem qn {s:Nat} {L:List aD} (h:gu s L) (p:List UInt8):(bw L p).length=64:=(AF _).2 (Gc h p)
theorem yF {L:List aD} {p:List UInt8} (h:di p L=[]):bN L p=(1,[],[],[],()):=by rw [bN,h,Fa]
theorem yG {L:List aD} {p:List UInt8} {x:aD} (h:di p L=[x]):bN L p=(2,[],[],[x],()):=by rw [bN,h,Fb]
theorem Bm {L:List aD} {p:List UInt8} (h:2≤(di p L).length) (hp:p.length=510):bN L p=(4,[],[],di p L,()):=by
 rw [bN,hp];exact Fc h
theorem Bn {L:List aD} {p:List UInt8} (h:2≤(di p L).length) (hp:p.length<510):bN L p=(3,bw L (p++[48]),bw L (p++[49]),[],()):=by
 have e:510 - p.length=(510 - (p++[48]).length)+1:=by simp;omega
 have e2:510 - (p++[48]).length=510 - (p++[49]).length:=by simp
 rw [bN,e,Fe h,Gf,Gf]
 conv=>lhs;arg 2;arg 2;arg 1;rw [e2]
 rfl
theorem Xu {L M:List aD} {p:List UInt8} (h:di p L=di p M):bN L p=bN M p:=by rw [bN,bN,h]
theorem Xw {L M:List aD} {p:List UInt8} (h:di p L=di p M):bw L p=bw M p:=by rw [bw,bw,Xu h]
noncomputable def er (s:Int) (n:List UInt8):List UInt8:=if 0≤s∧s<4∧n.length=64 then lK (4::byteOf s::n) else []
def gf (L:List aD) (a:List Nat):List aD:=a.filterMap fun i=>L[i]?
def fC (L:List aD) (p:List UInt8) (a:List Nat):List Nat:=a.filter fun i=>p.isPrefixOf (((L[i]?).map fun x=>bq x.1).getD [])
theorem y4 (L:List aD) (p:List UInt8):∀ a:List Nat,(∀ i∈a,i<L.length)→gf L (fC L p a)=di p (gf L a)
 |[],_=>rfl
 |i::a,h=>by
  have hi:i<L.length:=h i (by simp);have ih:=y4 L p a fun j hj=>h j (by simp [hj]);have e:L[i]?=some L[i]:=List.getElem?_eq_getElem hi;have e2:gf L (i::a)=L[i]::gf L a:=by simp [gf,e]
  rw [e2];unfold fC;rw [List.filter_cons];have ck:(((L[i]?).map fun x=>bq x.1).getD [])=bq L[i].1:=by rw [e,Option.map_some,Option.getD_some]
  rw [ck]
  by_cases hp:p.isPrefixOf (bq L[i].1)=true
  ·rw [if_pos hp]
   have:di p (L[i]::gf L a)=L[i]::di p (gf L a):=by unfold di;rw [List.filter_cons,if_pos hp]
   rw [this,← ih]
   simp [gf,e,fC]
  ·rw [if_neg hp]
   have:di p (L[i]::gf L a)=di p (gf L a):=by unfold di;rw [List.filter_cons,if_neg hp]
   rw [this,← ih];rfl
theorem Ge {L:List aD} {p:List UInt8} {a:List Nat} (h:∀ i∈a,i<L.length):∀ i∈fC L p a,i<L.length:=fun i hi=>h i (List.mem_filter.1 hi).1
theorem Bo (L:List aD) (p:List UInt8) (a:List Nat):(fC L p a).length≤a.length:=List.length_filter_le _ _
theorem KU (L:List aD):gf L (List.range L.length)=L:=by
 have h:∀ n,n≤L.length→gf L (List.range n)=L.take n:=by
  intro n
  induction n with
  |zero=>intro _;rfl
  |succ n ih =>
   intro hn
   have e:L[n]?=some L[n]:=List.getElem?_eq_getElem (by omega);have:gf L (List.range (n+1))=gf L (List.range n)++[L[n]]:=by rw [List.range_succ];simp [gf,e]
   rw [this,ih (by omega),List.take_succ_eq_append_getElem (by omega)]
 rw [h _ (Nat.le_refl _),List.take_length]
theorem vV (L:List aD):∀ i∈List.range L.length,i<L.length:=fun i hi=>List.mem_range.1 hi
theorem X8 {L:List aD} {p:List UInt8} {a:List Nat} {k:Nat} (hk:k<a.length) (h:∀ i∈a,i<L.length) :
  fC L p (a.take (k+1))=if p.isPrefixOf (bq (L[a[k]]'(h _ (List.getElem_mem hk))).1)=true then fC L p (a.take k)++[a[k]] else fC L p (a.take k):=by
 have hi:=h _ (List.getElem_mem hk);rw [List.take_succ_eq_append_getElem hk];unfold fC;rw [List.filter_append];have ck:(((L[a[k]]?).map fun x=>bq x.1).getD [])=bq L[a[k]].1:=by rw [List.getElem?_eq_getElem hi,Option.map_some,Option.getD_some]
 split
 ·rename_i q;rw [List.filter_cons,ck,if_pos q];rfl
 ·rename_i q;rw [List.filter_cons,ck,if_neg q];simp
theorem y3 {L:List aD}:∀ {a:List Nat},(∀ i∈a,i<L.length)→(gf L a).length=a.length
 |[],_=>rfl
 |i::a,h=>by
  have ih:=y3 (L:=L) (a:=a) fun j hj=>h j (by simp [hj]);have e:L[i]?=some (L[i]'(h i (by simp))):=List.getElem?_eq_getElem _
  simpa [gf,e] using ih
theorem G2 {L:List aD}:∀ {a:List Nat} (h:∀ i∈a,i<L.length) (k:Nat) (hk:k<a.length),(gf L a)[k]'(by rw [y3 h];exact hk)=L[a[k]]'(h _ (List.getElem_mem hk))
 |i::a,h,k,hk=>by
  have e:L[i]?=some (L[i]'(h i (by simp))):=List.getElem?_eq_getElem _;have e2:gf L (i::a)=(L[i]'(h i (by simp)))::gf L a:=by simp [gf,e]
  cases k with
  |zero=>simp [e2]
  |succ k=>simp only [e2,List.getElem_cons_succ];exact G2 (fun j hj=>h j (by simp [hj])) k (by simpa using hk)
theorem Kh (n:Nat) (p:List UInt8) (l:List aD):(nP n p l).2.2.2.1=[]∨(nP n p l).2.2.2.1=l:=by
 match l with
 |[]=>rw [Fa];exact .inl rfl
 |[x]=>rw [Fb];exact .inr rfl
 |x::y::l =>
  cases n with
  |zero=>rw [Fc (by simp)];exact .inr rfl
  |succ n=>rw [Fe (by simp)];exact .inl rfl
theorem Xv {L:List aD} (h:L.length≤10000000∧∀ y∈L,y.2.1.length≤10000000) (p:List UInt8):(bN L p).2.2.2.1.length≤10000000∧∀ y∈(bN L p).2.2.2.1,y.2.1.length≤10000000:=by
 have hs:=v8 p L
 rcases Kh (510 - p.length) p (di p L) with e|e
 ·unfold bN;rw [e];exact ⟨Nat.zero_le _,fun _ q=>by cases q⟩
 ·unfold bN;rw [e];exact ⟨Nat.le_trans hs.length_le h.1,fun y hy=>h.2 y (hs.subset hy)⟩
theorem Km {x:ed} (h:gB x):x.2.1.length≤1000000000000∧x.2.2.1.length≤1000000000000:=by
 rcases h.2 with q|q|q|q
 ·rw [q.2.1,q.2.2.1];decide
 ·rw [q.2.1,q.2.2.1];decide
 ·omega
 ·rw [q.2.1,q.2.2.1];decide
theorem LR (L:List aD) (p:List UInt8):iB (bN L p)=bw L p:=rfl
end Go.Sp
end
end
section
/- Texts of this proof. -/
namespace Go.Sp
section
variable {ro:Option Nat} {P:Program} {fn:Func} {n:Nat} {R:Ending→World→Prop} {k:List Item} {σ:List (Nat × Value)} {D:List Deferred} {g:bn} {U ζ aO:List az} {ops:Array Oper} {i d:Nat} {ls:List Nat}
 {t e:TypeId} {x y z u:Operand} {w:World} {a:Option Addr} {m c s:Nat} {p q r:Nat} {kx ky E0:IntKind}
theorem aG.uB (ht:P.underlying t=some (.slice e)) (he:(P.info? e).map (·.size)=some s) (hx:aA σ x=some (.slice a m c)) (hy:aA σ y=some (.int ky (p:Int))) (hp:p≤c) :
  aG P (.slice t x none (some y) none) σ g U (.slice a p c) U:=.run fun o ρ w ho hk=>by
 simp [execOp,ho,hk x _ hx,hk y _ hy,Instr.sliceAt,run_underlying ht,Instr.slice,Instr.sliceBounds,Instr.sliceBound,asIntOf,hp,run_sizeOf he]
 intro _;cases a<;>simp [Addr.add_zero]
theorem aG.iG (ht:P.underlying t=some (.slice e)) (he:(P.info? e).map (·.size)=some s) (hx:aA σ x=some (.slice a m c)) (hy:aA σ y=some (.int ky (p:Int))) (hp:p≤m) :
  aG P (.slice t x (some y) none none) σ g U (.slice (if c=p then a else a.map (·.add (p*s))) (m - p) (c - p)) U:=.run fun o ρ w ho hk=>by
 simp [execOp,ho,hk x _ hx,hk y _ hy,Instr.sliceAt,run_underlying ht,Instr.slice,Instr.sliceBounds,Instr.sliceBound,asIntOf,hp,run_sizeOf he]
theorem aG.LA (ht:P.underlying t=some (.slice e)) (he:(P.info? e).map (·.size)=some s) (hx:aA σ x=some (.slice a m c)) (hy:aA σ y=some (.int ky (p:Int))) (hz:aA σ z=some (.int E0 (q:Int))) (hp:p≤q) (hq:q≤c) :
  aG P (.slice t x (some y) (some z) none) σ g U (.slice (if c=p then a else a.map (·.add (p*s))) (q - p) (c - p)) U:=.run fun o ρ w ho hk=>by
 simp [execOp,ho,hk x _ hx,hk y _ hy,hk z _ hz,Instr.sliceAt,run_underlying ht,Instr.slice,Instr.sliceBounds,Instr.sliceBound,asIntOf,hp,hq,run_sizeOf he]
theorem aG.Lz {Tc:IntKind} (ht:P.underlying t=some (.slice e)) (he:(P.info? e).map (·.size)=some s) (hx:aA σ x=some (.slice a m c)) (hy:aA σ y=some (.int ky (p:Int))) (hz:aA σ z=some (.int E0 (q:Int))) (hu:aA σ u=some (.int Tc (r:Int))) (hp:p≤q) (hq:q≤r) (hr:r≤c) :
  aG P (.slice t x (some y) (some z) (some u)) σ g U (.slice (if r=p then a else a.map (·.add (p*s))) (q - p) (r - p)) U:=.run fun o ρ w ho hk=>by
 simp [execOp,ho,hk x _ hx,hk y _ hy,hk z _ hz,hk u _ hu,Instr.sliceAt,run_underlying ht,Instr.slice,Instr.sliceBounds,Instr.sliceBound,asIntOf,hp,hq,hr,run_sizeOf he]
theorem av.vZ {α:Type} {T:ag α} {e:TypeId} {xs:List α} {a:Option Addr} {m c:Nat} {h:Fr} (x:av T e (.slice a m c) xs h) (h0:0<xs.length):(∃ b,a=some ⟨b,0,none⟩)∧m=xs.length∧xs.length≤c∧c≤9223372036854775807:=by
 obtain ⟨ak,h1,h2,h3|⟨b,cap,cur,h4,h5,h6,h7,h8,h9⟩⟩:=x
 ·omega
 ·injection h4 with e1 e2 ck
  subst e1 e2 ck;exact ⟨⟨b,rfl⟩,rfl,h6,h7⟩
theorem qB {k:Nat} {ak:List (List Value)} (h:∀ cs∈ak,cs.length=k):ak.flatten.length=ak.length*k:=by
 induction ak with
 |nil=>simp
 |cons x ak ih =>
  rw [List.flatten_cons,List.length_append,ih (fun cs hc=>h cs (List.mem_cons_of_mem _ hc)),h x (List.mem_cons_self ..),List.length_cons,Nat.add_mul,Nat.one_mul,Nat.add_comm]
theorem zf {k:Nat} {ak:List (List Value)} (h:∀ cs∈ak,cs.length=k) (i:Nat):ak.flatten.take (i*k)=(ak.take i).flatten:=by
 induction ak generalizing i with
 |nil=>simp
 |cons x ak ih =>
  cases i with
  |zero=>simp
  |succ i =>
   have hx:=h x (List.mem_cons_self ..);rw [List.flatten_cons,List.take_succ_cons,List.flatten_cons,Nat.add_mul,Nat.one_mul,← ih (fun cs hc=>h cs (List.mem_cons_of_mem _ hc)) i,List.take_append,hx];rw [List.take_of_length_le (by omega),show i*k+k - k=i*k from by omega]
theorem Cp {k:Nat} {ak:List (List Value)} (h:∀ cs∈ak,cs.length=k) (i:Nat):ak.flatten.drop (i*k)=(ak.drop i).flatten:=by
 induction ak generalizing i with
 |nil=>simp
 |cons x ak ih =>
  cases i with
  |zero=>simp
  |succ i =>
   have hx:=h x (List.mem_cons_self ..);rw [List.flatten_cons,List.drop_succ_cons,Nat.add_mul,Nat.one_mul,← ih (fun cs hc=>h cs (List.mem_cons_of_mem _ hc)) i,List.drop_append,hx];rw [List.drop_of_length_le (by omega),show i*k+k - k=i*k from by omega,List.nil_append]
theorem rF {k:Nat}:∀ {ak ds:List (List Value)},b5 ((ag.cells k).rel Fr.emp) ak ds→ak=ds∧(∀ cs∈ak,cs.length=k)∧∀ cs∈ak,∀ v∈cs,v.oneCell' =true
 |[],[],_=>⟨rfl,by simp,by simp⟩
 |[],_::_,h=>h.elim
 |_::_,[],h=>h.elim
 |x::ak,y::ds,h=>by
  obtain ⟨h1,h2,h3⟩:=h.1;obtain ⟨q1,q2,cM⟩:=rF h.2;subst h1 q1;exact ⟨rfl,List.forall_mem_cons.2 ⟨h2,q2⟩,List.forall_mem_cons.2 ⟨h3,cM⟩⟩
theorem rG {k:Nat}:∀ {ak:List (List Value)},(∀ cs∈ak,cs.length=k)→(∀ cs∈ak,∀ v∈cs,v.oneCell' =true)→b5 ((ag.cells k).rel Fr.emp) ak ak
 |[],_,_=>trivial
 |x::_,h1,h2=>⟨⟨rfl,h1 x (List.mem_cons_self ..),h2 x (List.mem_cons_self ..)⟩,rG (fun cs hc=>h1 cs (List.mem_cons_of_mem _ hc)) fun cs hc=>h2 cs (List.mem_cons_of_mem _ hc)⟩
theorem Ie {ak:List (List Value)} (h:∀ cs∈ak,∀ v∈cs,v.oneCell' =true):∀ v∈ak.flatten,v.oneCell' =true:=fun v hv=>by
 obtain ⟨cs,hc,hv⟩:=List.mem_flatten.1 hv;exact h cs hc v hv
theorem erase_eq {α:Type} (xs:List α) (i:Nat):xs.eraseIdx i=xs.take i++xs.drop (i+1):=List.eraseIdx_eq_take_drop_succ _ _
theorem bF.y2 {K cw:Nat} {jT:List Value} {ak:List (List Value)} {j:Nat} (ht:P.underlying t=some (.slice e)) (he:dI P e K cw jT) (hj:j<ak.length)
  (hx:aA σ x=some (.slice a j c)) (hy:aA σ y=some (.slice (if c=j+1 then a else a.map (·.add ((j+1)*K))) (ak.length - (j+1)) (c - (j+1)))) (hs:bg U (av (ag.cells K) e (.slice a ak.length c) ak) ζ) :
  bF P (.call ⟨.builtin .append,#[x,y],#[t,t]⟩) σ g U fun v ax =>v=.slice a (ak.length - 1) c∧ax =av (ag.cells K) e (.slice a (ak.length - 1) c) (ak.eraseIdx j)::ζ :=
 fun o ρ w ho hkn hw=>by
  have hw1:=hw.cB hs;obtain ⟨b,cap,cur,bG,hv,h1,h2,h3,h4,ha,fz,hfz,hb⟩:=hw1.oD (by omega);obtain ⟨rfl,hlen,hone⟩:=rF ha
  injection hv with e1 _ ck
  subst e1 ck;obtain ⟨info,cE,hi,_,hsz,_,_,_⟩:=he;have hkk:(ag.cells K).k=K:=rfl;rw [hkk] at h3 h4 hfz;have hmul:bG.length*K≤c*K:=Nat.mul_le_mul_right K h1;have ec:cur.toList.length=c*K:=by simpa using h3
  let news:=(bG.drop (j+1)).flatten
  have hnl:news.length=(bG.length - (j+1))*info.size:=by
   rw [hsz];have:=qB (k:=K) (ak:=bG.drop (j+1)) (fun cs hc=>hlen cs (List.mem_of_mem_drop hc));rw [List.length_drop] at this;exact this
  have D0:news=(cur.toList.take (bG.length*K)).drop ((j+1)*K):=by rw [h4,Cp hlen]
  have lz:=hb.block;have hcell:∀ gA v,news[gA]?=some v→w.cell? ⟨b,(j+1)*K+gA,none⟩=some v:=fun gA v hv=>by
   rw [D0,List.getElem?_drop,List.getElem?_take] at hv
   split at hv
   ·simp only [World.cell?,lz]
    simpa using hv
   ·cases hv
  have ZV:j*K+K+(bG.length - (j+1))*K=bG.length*K:=by
   have:bG.length=j+1+(bG.length - (j+1)):=by omega
   rw [this,Nat.add_mul,Nat.add_mul,Nat.one_mul]
   simp
  have hr:∃ ad,(if c=j+1 then some (⟨b,0,none⟩:Addr) else (some (⟨b,0,none⟩:Addr)).map (·.add ((j+1)*K)))=some ad∧∀ gA v,news[gA]?=some v→w.cell? (ad.add gA)=some v:=by
   by_cases hc:c=j+1
   ·refine ⟨⟨b,0,none⟩,by rw [if_pos hc],fun gA v hv=>?_⟩
    have:news=[]:=List.length_eq_zero_iff.1 (by rw [hnl,show bG.length - (j+1)=0 by omega,Nat.zero_mul]);rw [this] at hv;cases hv
   ·refine ⟨⟨b,(j+1)*K,none⟩,by rw [if_neg hc];simp [add_lit],fun gA v hv=>?_⟩
    rw [add_lit];exact hcell gA v hv
  obtain ⟨ad,had,hnews⟩:=hr;rw [had] at hy;have hfit:j*info.size+news.length≤cur.size:=by rw [hnl,hsz,h3];omega
  have hrun:=K9 (P:=P) w t o.type e info ht hi b j c cur lz (by rw [h3];exact hfz) ad (bG.length - (j+1)) (c - (j+1)) news hnl hnews
   (fun v hv=>Ie (fun cs hc=>hone cs (List.mem_of_mem_drop hc)) v hv) (by omega) hfit
  rw [show j+(bG.length - (j+1))=bG.length - 1 by omega] at hrun;refine ⟨_,w.setRow b (cur.toList.take (j*info.size)++news++cur.toList.drop (j*info.size+news.length)).toArray,_,⟨rfl,rfl⟩,by simp only [execOp,ho,resolve,invoke,builtin,List.map_toArray,List.map_cons,List.map_nil,hkn x _ hx,hkn y _ hy,Sem.run_bind,hrun,Sem.run_pure,Result.andThen],?_⟩;refine (hb.setRow (cs:=(cur.toList.take (j*info.size)++news++cur.toList.drop (j*info.size+news.length)).toArray)).imp fun _ x=>Sat.fk (fun m' hm' =>?_) (fun _ z=>z) x;have hel:(bG.eraseIdx j).length=bG.length - 1:=List.length_eraseIdx_of_lt hj;have hsub:∀ cs∈bG.eraseIdx j,cs∈bG :=fun cs hc=>List.mem_of_mem_eraseIdx hc;refine ⟨bG.eraseIdx j,rG (fun cs hc=>hlen cs (hsub cs hc)) (fun cs hc=>hone cs (hsub cs hc)),?_,.inr ⟨b,c,_,by rw [hel],⟨fz,hm',hfz⟩,by omega,h2,?_,?_⟩⟩
  ·rw [qB (fun cs hc=>hlen cs (hsub cs hc)),hkk]
  ·simp only [List.size_toArray,List.length_append,List.length_take,List.length_drop,hkk]
   rw [hnl,hsz,ec]
   omega
  ·rw [hel,hkk,erase_eq,List.flatten_append]
   have e1:cur.toList.take (j*info.size)=(bG.take j).flatten:=by
    rw [hsz,← zf hlen,← h4,List.take_take,Nat.min_eq_left (by omega)]
   have e2:(bG.length - 1)*K=((bG.take j).flatten++news).length:=by
    rw [List.length_append,hnl,hsz,qB (fun cs hc=>hlen cs (List.mem_of_mem_take hc)),List.length_take,Nat.min_eq_left (by omega),← Nat.add_mul]
    congr 1;omega
   rw [e1,List.toList_toArray,e2,List.take_left']
   rfl
theorem af.y2 {K cw:Nat} {jT:List Value} {ak:List (List Value)} {j:Nat} (ho:bJ ops i n σ d (.call ⟨.builtin .append,#[x,y],#[t,t]⟩)) (hd:eH ops [i] ls=true) (ht:P.underlying t=some (.slice e)) (he:dI P e K cw jT) (hj:j<ak.length)
  (hx:aA σ x=some (.slice a j c)) (hy:aA σ y=some (.slice (if c=j+1 then a else a.map (·.add ((j+1)*K))) (ak.length - (j+1)) (c - (j+1)))) (hs:bg U (av (ag.cells K) e (.slice a ak.length c) ak) ζ)
  (h:af P fn n R ops k D g ls ((d,.slice a (ak.length - 1) c)::σ) (av (ag.cells K) e (.slice a (ak.length - 1) c) (ak.eraseIdx j)::ζ)):af P fn n R ops k D g (i::ls) σ U :=
 aJ.perm hs.perm (af.f_ (U:=av (ag.cells K) e (.slice a ak.length c) ak::ζ) (K:=fun v ax =>v=.slice a (ak.length - 1) c∧ax =av (ag.cells K) e (.slice a (ak.length - 1) c) (ak.eraseIdx j)::ζ) ho rfl hd
  (fun uN =>(bF.y2 ht he hj hx hy bg.here).imp fun _ _ ⟨h1,h2⟩=>⟨_,⟨h1,rfl⟩,h2⟩) (by rintro _ _ ⟨rfl,rfl⟩;exact h))
theorem O.Cq {K cw:Nat} {jT:List Value} {ak:List (List Value)} {b m' :Nat} (ho:kf ops i=some (.call ⟨.builtin .clear,#[x],#[t]⟩)) (ht:P.underlying t=some (.slice e)) (he:dI P e K cw jT) (vF:∀ v∈jT,v.oneCell' =true) (hK:0<K) (h0:ak.length<m') (hm:m' ≤c)
  (hx:aA σ x=some (.slice (if c=ak.length then some ⟨b,0,none⟩ else (some (⟨b,0,none⟩:Addr)).map (·.add (ak.length*K))) (m' - ak.length) (c - ak.length))) (hs:bg U (av (ag.cells K) e (.slice (some ⟨b,0,none⟩) ak.length c) ak) ζ)
  (h:O ro P fn n R ops ls k σ D g (av (ag.cells K) e (.slice (some ⟨b,0,none⟩) ak.length c) ak::ζ)):O ro P fn n R ops (i::ls) k σ D g U:=by
 intro act w hf hd hw
 obtain ⟨o,hi,eB,hop,hg⟩:=pM ho;have hw1:=hw.cB hs;obtain ⟨p1,p2,p3,Mn,oo,s1,s2,k1,k2,kd,t1,t2,⟨bG,ha,hl,hA⟩,hr⟩:=hw1;obtain ⟨rfl,hlen,hone⟩:=rF ha
 rcases hA with ⟨hv,_⟩|⟨b',cap,cur,hv,⟨fz,hb,hz⟩,h1,h2,h3,h4⟩
 ·cases hv
 ·injection hv with e1 _ ck
  injection e1 with e1
  injection e1 with e1
  subst e1 ck;have hkk:(ag.cells K).k=K:=rfl;rw [hkk] at h3 h4 hz;have hb0:Holds w g (blk b (.cells cur e fz)::ζ):=⟨p1,p2,p3,Mn,oo,s1,s2,k1,k2,kd,t1,t2,hb,hr⟩;rw [if_neg (by omega:¬ c=bG.length)] at hx;simp only [Option.map_some,add_lit,Nat.zero_add] at hx;obtain ⟨info,cE,hin,RF,hsz,_,kJ,hzl⟩:=he;have p9:(Builtin.zeroCells cE.cells (m' - bG.length)).toList=fe jT (m' - bG.length):=by
   have hzs:cE.cells.size=K:=by rw [← hzl,← kJ];simp
   have:=x8 cE.cells (m' - bG.length) (by omega);rw [kJ] at this;rw [← this];rfl
  have hrl:(fe jT (m' - bG.length)).length=(m' - bG.length)*K:=by rw [sj,hzl]
  have hmul:bG.length*K+(m' - bG.length)*K=m' *K:=by rw [← Nat.add_mul];congr 1;omega
  have zZ:m' *K≤c*K:=Nat.mul_le_mul_right K hm;have hro:∀ v∈fe jT (m' - bG.length),v.oneCell' =true:=by
   generalize m' - bG.length=q
   induction q with
   |zero=>simp [fe]
   |succ q ih=>intro v hv;simp only [fe,List.mem_append] at hv;exact hv.elim (vF v) (ih v)
  have hst:=sE P b (bG.length*K) e (by rw [h3];exact hz:rC fz cur.size) (fe jT (m' - bG.length)) 0 cur w hb0.block (Nat.le_refl _) (by rw [hrl,h3];omega) hro;simp only [Nat.add_zero] at hst;have r7:(zeroValue e).run P w=.ok cE w:=FU (by simp [zeroOf,hin,RF]) w;obtain ⟨q0,Er⟩:∃ q0,m' - bG.length=q0+1:=⟨m' - bG.length - 1,by omega⟩;have PJ:(Builtin.clear_ #[t] o.type #[.slice (some ⟨b,bG.length*K,none⟩) (m' - bG.length) (c - bG.length)]).run P w=.ok (.tuple #[]) (w.setRow b (cur.toList.take (bG.length*K)++fe jT (m' - bG.length)++cur.toList.drop (bG.length*K+(fe jT (m' - bG.length)).length)).toArray):=by
   rw [Er] at hst p9 ⊢;simp only [Builtin.clear_,List.getElem?_toArray,List.getElem?_cons_zero,Sem.run_bind,run_underlying ht,Result.andThen,r7,p9,hst,Sem.run_pure]
  have hrun:(execOp act.eval o).run P w=.ok (.value (.tuple #[])) (w.setRow b (cur.toList.take (bG.length*K)++fe jT (m' - bG.length)++cur.toList.drop (bG.length*K+(fe jT (m' - bG.length)).length)).toArray):=by
   simp [execOp,hop,resolve,invoke,builtin,hf.j_ x _ hx,PJ]
  refine O.mK hi (by simp [Region.wanted,hg]) (by rw [hop];intro c hc;cases hc) hrun ?_;rw [Oper.uponIn_value,eB];refine h _ _ hf hd ?_;refine (hb0.setRow (cs:=(cur.toList.take (bG.length*K)++fe jT (m' - bG.length)++cur.toList.drop (bG.length*K+(fe jT (m' - bG.length)).length)).toArray)).imp fun _ x=>Sat.fk (fun m0 hm0=>?_) (fun _ z=>z) x;have ec:cur.toList.length=c*K:=by simpa using h3
  refine ⟨bG,rG hlen hone,hl,.inr ⟨b,c,_,rfl,⟨fz,hm0,hz⟩,h1,h2,?_,?_⟩⟩
  ·simp only [List.size_toArray,List.length_append,List.length_take,List.length_drop,hkk]
   rw [hrl,ec]
   omega
  ·rw [hkk,List.toList_toArray,List.append_assoc,List.take_append,List.length_take,ec,Nat.min_eq_left (by omega),Nat.sub_self,List.take_zero,List.append_nil,List.take_take,Nat.min_self]
   exact h4
end
end Go.Sp
end
end
section
/- Texts of this proof, one behind the other. -/
section
/- Texts of this proof. -/
open Go
namespace Go.Sp
def jU (q d k:Fr):Prop:=∀ i o,q i=some o→d i=some o∨k i=some o
theorem jU.own (d k:Fr):jU k d k:=fun _ _ h=>.inr h
theorem jU.mono {q d k k' :Fr} (s:k.sub k') (h:jU q d k):jU q d k' :=fun i o e=>(h i o e).imp id (s i o)
theorem jU.sub {q d k g:Fr} (hd:d.sub g) (hk:k.sub g) (h:jU q d k):q.sub g:=fun i o e=>(h i o e).elim (hd i o) (hk i o)
section
variable {α:Type}
def ag.fZ (d k:Fr) (T:ag α):ag α:={ k:=T.k,rel:=fun _ cs a=>∃ q,jU q d k∧T.rel q cs a,len:=fun ⟨_,_,h⟩=>T.len h,mono:=fun _ h=>h,one:=fun ⟨_,_,h⟩=>T.one h }
theorem ag.zn {T:ag α} {d k h g:Fr} {cs:List Value} {a:α} (hd:d.sub g) (hk:k.sub g):(ag.fZ d k T).rel h cs a→T.rel g cs a:=fun ⟨_,c,x⟩=>T.mono (c.sub hd hk) x
theorem ag.zm {T:ag α} {d k k' h h' :Fr} {cs:List Value} {a:α} (s:k.sub k'):(ag.fZ d k T).rel h cs a→(ag.fZ d k' T).rel h' cs a:=fun ⟨q,c,x⟩=>⟨q,c.mono s,x⟩
theorem av.imp {T kP:ag α} {e:TypeId} {v:Value} {xs:List α} {m:Fr} (hk:T.k=kP.k) (h:∀ cs a,T.rel Fr.emp cs a→kP.rel Fr.emp cs a):av T e v xs m→av kP e v xs m:=fun ⟨ak,a,o⟩=>⟨ak,a.imp fun _ _=>h _ _,by rw [← hk];exact o⟩
theorem av.zm {T:ag α} {e:TypeId} {d k k' :Fr} {v:Value} {xs:List α} {m:Fr} (s:k.sub k') (x:av (ag.fZ d k T) e v xs m):av (ag.fZ d k' T) e v xs m:=av.imp (T:=ag.fZ d k T) (kP:=ag.fZ d k' T) rfl (fun _ _=>ag.zm s) x
theorem aj.zn {T:ag α} {d k h:Fr} {v:Value} {xs:List α} (hd:d.sub h) (hk:k.sub h):aj (ag.fZ d k T) h v xs→aj T h v xs:=fun ⟨ak,a,b⟩=>⟨ak,a.imp fun _ _ x=>ag.zn hd hk x,b⟩
end
def iL (d k:Fr) (L:List aD) (M:List (cr (List UInt8))):Prop:=∀ p v,cL M p=some v→gJ p∧∃ q,jU q d k∧aj ag.u8 q v (bw L p)
theorem iL.mono {d k k' :Fr} {L:List aD} {M:List (cr (List UInt8))} (s:k.sub k') (h:iL d k L M):iL d k' L M:=fun p v e=>⟨(h p v e).1,(h p v e).2.elim fun q x=>⟨q,x.1.mono s,x.2⟩⟩
theorem iL.nil (d k:Fr) (L:List aD):iL d k L []:=fun p v h=>by cases h
theorem iL.put {d k:Fr} {L:List aD} {M:List (cr (List UInt8))} {c:Nat} {p:List UInt8} {v:Value} (h:iL d k L M) (hp:gJ p) (hv:∃ q,jU q d k∧aj ag.u8 q v (bw L p)):iL d k L (iD M c p v):=fun j u e=>by
 rw [Iq] at e
 split at e
 ·rename_i q;subst q;cases e;exact ⟨hp,hv⟩
 ·exact h j u e
structure e3 where
 tree:TypeId
 leaf:TypeId
 str:TypeId
def dc (aO:e3) (d k:Fr) (b:Nat) (s:Nat) (L:List aD):az:=fun m=>∃ dm dn mid M c,(gE M c∧iL d k L M) ∧
 Sat [obj b aO.tree [dm,dn,.int .i64 (s:Int),.map (some mid)],av (ag.fZ d k bP) aO.leaf dm L,av ag.str aO.str dn (L.map fun y=>bq y.1),cu encS mid M c] m
def jq (k:Fr):az:=fun m=>m=k
def aY (aO:e3) (d:Fr) (b:Nat) (s:Nat) (L:List aD):az:=fun m=>∃ k,Sat [jq k,dc aO d k b s L] m
def js (aO:e3) (d:Fr) (b:Nat) (s:Nat) (L:List aD) (v:Value) (xs:List UInt8):az:=fun m=>∃ k,(∃ q,jU q d k∧aj ag.u8 q v xs)∧Sat [jq k,dc aO d k b s L] m
abbrev ag.nat:ag Nat:=ag.HB (fun n:Nat=>(n:Int)) ag.i64
def kr (h:Fr) (b:Nat) (s:Nat) (L:List aD):Prop:=∃ cS cT cF cG mid,At h ⟨b,0,none⟩ [.slice cS L.length cT,.slice cF L.length cG,.int .i64 (s:Int),.map (some mid)]∧aj bP h (.slice cS L.length cT) L∧aj ag.str h (.slice cF L.length cG) (L.map fun y=>bq y.1)
theorem kr.mono {h h' :Fr} {b s:Nat} {L:List aD} (e:h.sub h'):kr h b s L→kr h' b s L:=fun ⟨a,c,x,y,mid,h1,h2,h3⟩=>⟨a,c,x,y,mid,h1.mono e,h2.mono e,h3.mono e⟩
theorem dc.a {aO:e3} {d k g:Fr} {b s:Nat} {L:List aD} {m:Fr} (hd:d.sub g) (hk:k.sub g) (hm:m.sub g):dc aO d k b s L m→kr g b s L:=fun ⟨dm,dn,mid,M,c,_,hs⟩=>by
 obtain ⟨m1,_,_,s1,t1,o,m2,_,_,s2,t2,sO,m3,_,_,s3,_,wg,_⟩:=hs;have h1:m2.sub m:=Fr.aI s2 t1;have h2:m3.sub m:=Fr.aI s3 (Fr.aI t2 t1);obtain ⟨cS,cT,rfl⟩:=sO.shape;obtain ⟨cF,cG,hw⟩:=wg.shape;rw [List.length_map] at hw;subst hw;refine ⟨cS,cT,cF,cG,mid,((ga o).mono s1).mono hm,?_,(wg.arr.mono h2).mono hm⟩;exact ((sO.arr.mono h1).mono hm).zn hd hk
theorem aY.a {aO:e3} {d g:Fr} {b s:Nat} {L:List aD} {m:Fr} (hd:d.sub g) (hm:m.sub g):aY aO d b s L m→kr g b s L:=fun ⟨k,h⟩=>by
 obtain ⟨m1,_,_,s1,t1,o,m2,_,_,s2,t2,sO,_⟩:=h
 cases (o:m1=k)
 exact dc.a hd (Fr.aI s1 hm) (Fr.aI (Fr.aI s2 t1) hm) sO
theorem AM {α:Type} {T:ag α} {e:TypeId}:av T e (.slice none 0 0) ([]:List α) Fr.emp:=⟨[],trivial,(Nat.zero_mul _).symm,.inl ⟨rfl,rfl⟩⟩
theorem Xz {aO:e3} {b mid s:Nat} {m:Fr} (h:Sat [obj b aO.tree [.slice none 0 0,.slice none 0 0,.int .i64 (s:Int),.map (some mid)],cu encS mid [] 0] m):aY aO Fr.emp b s [] m:=by
 obtain ⟨m1,m2,d,s1,s2,o,m3,m4,d2,s3,pP,x,_⟩:=h;refine ⟨Fr.emp,Fr.emp,m,Fr.ea _,Fr.c6 _,Fr.bY _,rfl,m,Fr.emp,Fr.e5 (Fr.ea _),Fr.bY _,Fr.c6 _,⟨.slice none 0 0,.slice none 0 0,mid,[],0,⟨gE.nil,iL.nil _ _ _⟩,?_⟩,trivial⟩;exact ⟨m1,m2,d,s1,s2,o,Fr.emp,m2,Fr.ea _,Fr.c6 _,Fr.bY _,AM,Fr.emp,m2,Fr.ea _,Fr.c6 _,Fr.bY _,AM,m3,m4,d2,s3,pP,x,trivial⟩
structure bU (d:Fr) (L:List aD) where
 k:Fr
 dm:Value
 dn:Value
 mid:Nat
 M:List (cr (List UInt8))
 c:Nat
 wf:gE M c
 ok:iL d k L M
abbrev bU.ws {d:Fr} {L:List aD} (aO:e3) (b s:Nat) (x:bU d L):List az :=
 [jq x.k,obj b aO.tree [x.dm,x.dn,.int .i64 (s:Int),.map (some x.mid)],av (ag.fZ d x.k bP) aO.leaf x.dm L,av ag.str aO.str x.dn (L.map fun y=>bq y.1),cu encS x.mid x.M x.c]
theorem aY.jc {aO:e3} {d:Fr} {b s:Nat} {L:List aD} {m:Fr}:aY aO d b s L m→∃ x:bU d L,Sat (x.ws aO b s) m
 |⟨k,m1,m2,d1,s1,s2,o,_,_,_,s3,_,⟨dm,dn,mid,M,c,⟨h1,h2⟩,hs⟩,_⟩=>⟨⟨k,dm,dn,mid,M,c,h1,h2⟩,m1,m2,d1,s1,s2,o,Sat.mono s3 hs⟩
theorem aY.fold {aO:e3} {d:Fr} {b s:Nat} {L:List aD} {m:Fr} (x:bU d L):Sat (x.ws aO b s) m→aY aO d b s L m
 |⟨m1,m2,d1,s1,s2,o,hs⟩=>⟨x.k,m1,m2,d1,s1,s2,o,m2,Fr.emp,Fr.e5 (Fr.ea _),Fr.bY _,Fr.c6 _,⟨x.dm,x.dn,x.mid,x.M,x.c,⟨x.wf,x.ok⟩,hs⟩,trivial⟩
theorem js.fold {aO:e3} {d:Fr} {b s:Nat} {L:List aD} {m:Fr} (x:bU d L) {p:List UInt8} {v:Value} (e:cL x.M p=some v):Sat (x.ws aO b s) m→js aO d b s L v (bw L p) m
 |⟨m1,m2,d1,s1,s2,o,hs⟩=>⟨x.k,(x.ok p v e).2,m1,m2,d1,s1,s2,o,m2,Fr.emp,Fr.e5 (Fr.ea _),Fr.bY _,Fr.c6 _,⟨x.dm,x.dn,x.mid,x.M,x.c,⟨x.wf,x.ok⟩,hs⟩,trivial⟩
attribute [local irreducible] bw
abbrev bU.L_ {d:Fr} {L:List aD} (aO:e3) (b s:Nat) (x:bU d L) (e:TypeId) (v:Value) (p xs:List UInt8):List az :=
 [jq x.k,av ag.u8 e v xs,obj b aO.tree [x.dm,x.dn,.int .i64 (s:Int),.map (some x.mid)],av (ag.fZ d x.k bP) aO.leaf x.dm L,av ag.str aO.str x.dn (L.map fun y=>bq y.1),cu encS x.mid (iD x.M x.c p v) (kR x.M x.c p)]
theorem js.put {aO:e3} {d:Fr} {b s:Nat} {L:List aD} {m:Fr} {e:TypeId} (x:bU d L) {p:List UInt8} {v:Value} {xs:List UInt8} (hp:gJ p) (hx:xs=bw L p)
  (h:Sat (x.L_ aO b s e v p xs) m) :
  js aO d b s L v (bw L p) m:=by
 subst hx;obtain ⟨n1,r1,d1,s1,s2,o1,n2,m2,d2,t1,t2,o2,hs⟩:=h;have e1:n1=x.k:=o1;have CI:(n1.add n2).cU m2:=Fr.p4 (fun i=>(d1 i).imp id fun q=>by
  cases c:m2 i with
  |none=>rfl
  |some o=>rw [t2 i o c] at q;cases q) d2
 have d12:n1.cU n2:=fun i=>(d1 i).imp id fun q=>by
  cases c:n2 i with
  |none=>rfl
  |some o=>rw [t1 i o c] at q;cases q
 have sm:(n1.add n2).sub m:=Fr.ia s1 (Fr.aI t1 s2);have hk:x.k.sub (n1.add n2):=e1 ▸ Fr.dh n1 n2;have hv:∃ q,jU q d (n1.add n2)∧aj ag.u8 q v (bw L p):=⟨n1.add n2,jU.own _ _,o2.arr.mono (Fr.dB d12)⟩;have hs' :dc aO d (n1.add n2) b s L m2:=by
  obtain ⟨a1,a2,da,sa,sb,q1,b1,b2,db,sc,sd,q2,cM⟩:=hs;exact ⟨x.dm,x.dn,x.mid,iD x.M x.c p v,kR x.M x.c p,⟨AX x.wf p v,(x.ok.mono hk).put (c:=x.c) hp hv⟩,a1,a2,da,sa,sb,q1,b1,b2,db,sc,sd,q2.zm hk,cM⟩
 exact ⟨n1.add n2,hv,n1.add n2,m2,CI,sm,Fr.aI t2 s2,rfl,m2,Fr.emp,Fr.e5 (Fr.ea _),Fr.bY _,Fr.c6 _,hs',trivial⟩
theorem aY.gY {aO:e3} {d g:Fr} {b s:Nat} {L:List aD} {m:Fr} {U:List az} (hd:d.sub g) (hm:g.cU m):Sat (aY aO d b s L::U) m→kr (g.add m) b s L
 |⟨_,_,_,s1,_,o,_⟩=>aY.a (Fr.aI hd (Fr.dh _ _)) (Fr.aI s1 (Fr.dB hm)) o
theorem js.gY {aO:e3} {d g:Fr} {b s:Nat} {L:List aD} {v:Value} {xs:List UInt8} {m:Fr} (hd:d.sub g) (hm:g.cU m):Sat [js aO d b s L v xs] m→aj ag.u8 (g.add m) v xs
 |⟨_,_,_,s1,_,⟨k,⟨q,c,a⟩,n1,_,_,t1,_,o,_⟩,_⟩=>a.mono (c.sub (Fr.aI hd (Fr.dh _ _)) (by
  have e:n1=k:=o;exact e ▸ Fr.aI t1 (Fr.aI s1 (Fr.dB hm))))
theorem js.toX {aO:e3} {d:Fr} {b s:Nat} {L:List aD} {v:Value} {xs:List UInt8} {m:Fr}:Sat [js aO d b s L v xs] m→aY aO d b s L m
 |⟨_,_,_,s1,_,⟨k,_,n1,n2,bf,t1,t2,o,hs⟩,_⟩=>⟨k,n1,n2,bf,Fr.aI t1 s1,Fr.aI t2 s1,o,hs⟩
theorem TA {α:Type} {G:bS α} {e:TypeId} {v:Value} {m:Fr} {k:Nat} (hk:G.iF.k=k):Sat [av (ag.cells k) e v []] m→cD G e v [] m
 |⟨m1,m2,d,s1,s2,o,_⟩=>by subst hk;exact ⟨[],m1,m2,d,s1,s2,o,m2,Fr.emp,Fr.e5 (Fr.ea _),Fr.bY _,Fr.c6 _,trivial,trivial⟩
theorem KB {α:Type} {A:az} {T:ag α} {e:TypeId} {v:Value} {xs:List α} {m:Fr} {U:List az} (h:Sat (A::av T e v xs::U) m):aj T m v xs:=by
 obtain ⟨_,_,_,_,s2,_,m3,_,_,s3,_,o,_⟩:=h;exact o.arr.mono (Fr.aI s3 s2)
theorem aG.sL {P:Program} {σ:List (Nat × Value)} {g:bn} {U ζ:List az} {t:TypeId} {x:Operand} {aO:e3} {d:Fr} {b s:Nat} {L:List aD} (ht:dY P t=true) (hx:aA σ x=some (.pointer (some ⟨b,2,none⟩))) (hs:bg U (aY aO d b s L) ζ) :
  aG P (.load t x) σ g U (.int .i64 (s:Int)) U:=fun o ρ w ho hk hw=>⟨w,by
 obtain ⟨_,_,_,k,_,_,s2,k1,_,_,t1,_,Yn,_⟩:=hw.cB hs;obtain ⟨y,m1,m2,_,_,u2,_,m3,_,_,X2,_,o,_⟩:=aY.jc Yn;have hb:w.heap[b]?=some (.cells [y.dm,y.dn,.int .i64 (s:Int),.map (some y.mid)].toArray aO.tree (0,0)):=s2 _ _ (t1 _ _ (u2 _ _ (X2 _ _ o)));have hc:w.cell? ⟨b,2,none⟩=some (.int .i64 (s:Int)):=by simp [World.cell?,hb]
 simp [execOp,ho,hk x _ hx,Instr.loadAt,Instr.sureAddr,loadVar,sD (rO ht),hc],hw⟩
theorem bT.cC {P:Program} {fn:Func} {n:Nat} {R:Ending→World→Prop} {k:List Item} {σ:List (Nat × Value)} {D:List Deferred} {g:bn} {U:List az} {ops:Array Oper} {l:List Nat} {i d:Nat} {t:TypeId} {x:Operand} {v:Value}
  (ho:bJ ops i n σ d (.load t x)) (_:true=true) (dw:∀ ζ,aG P (.load t x) σ g (U++ζ) v (U++ζ)) (h:af P fn n R ops k D g l ((d,v)::σ) U):aJ P fn n R ops k D g true (i::l) σ U :=
 bT.f_ (K:=fun v' ax =>v' =v∧ax =U) ho rfl rfl (fun ζ o ρ w h1 h2 h3=>let ⟨w',a,b⟩:=dw ζ o ρ w h1 h2 h3;⟨v,w',U++ζ,⟨U,⟨rfl,rfl⟩,rfl⟩,a,b⟩) (by rintro _ _ ⟨rfl,rfl⟩;exact h)
theorem dc.Uk {aO:e3} {d k g:Fr} {b s:Nat} {L:List aD} {m:Fr} (hd:d.sub g) (hk:k.sub g):dc aO d k b s L m→dc aO g Fr.emp b s L m
 |⟨dm,dn,mid,M,c,⟨h1,h2⟩,a1,a2,da,sa,sb,q1,b1,b2,db,sc,sd,q2,cM⟩=>⟨dm,dn,mid,M,c,⟨h1,fun p v e=>⟨(h2 p v e).1,(h2 p v e).2.elim fun q x=>⟨q,fun i o z=>.inl (x.1.sub hd hk i o z),x.2⟩⟩⟩,a1,a2,da,sa,sb,q1,b1,b2,db,sc,sd,
  av.imp (T:=ag.fZ d k bP) (kP:=ag.fZ g Fr.emp bP) rfl (fun _ _ ⟨q,x,y⟩=>⟨q,fun i o z=>.inl (x.sub hd hk i o z),y⟩) q2,cM⟩
theorem dc.toX {aO:e3} {d:Fr} {b s:Nat} {L:List aD} {m:Fr}:Sat [dc aO d Fr.emp b s L] m→aY aO d b s L m
 |⟨m1,_,_,s1,_,o,_⟩=>⟨Fr.emp,Fr.emp,m1,Fr.ea _,Fr.c6 _,s1,rfl,m1,Fr.emp,Fr.e5 (Fr.ea _),Fr.bY _,Fr.c6 _,o,trivial⟩
abbrev bU.qs {d:Fr} {L:List aD} (aO:e3) (b s:Nat) (x:bU d L):List az :=
 [obj b aO.tree [x.dm,x.dn,.int .i64 (s:Int),.map (some x.mid)],av (ag.fZ d x.k bP) aO.leaf x.dm L,av ag.str aO.str x.dn (L.map fun y=>bq y.1),cu encS x.mid x.M x.c]
theorem dc.jc {aO:e3} {d:Fr} {b s:Nat} {L:List aD} {m:Fr}:dc aO d Fr.emp b s L m→∃ x:{x:bU d L // x.k=Fr.emp},Sat (x.1.qs aO b s) m
 |⟨dm,dn,mid,M,c,⟨h1,h2⟩,hs⟩=>⟨⟨⟨Fr.emp,dm,dn,mid,M,c,h1,h2⟩,rfl⟩,hs⟩
theorem dc.fold {aO:e3} {d:Fr} {b s:Nat} {L:List aD} {m:Fr} (x:bU d L) (hs:Sat (x.qs aO b s) m):dc aO d x.k b s L m:=⟨x.dm,x.dn,x.mid,x.M,x.c,⟨x.wf,x.ok⟩,hs⟩
theorem Tp {dF:rD} {d m:Fr} {e:TypeId} {v:Value} {L:List aD} (h:cD (ek dF) e v L m):∃ k,Sat [jq k,av (ag.fZ d k bP) e v L] m:=by
 obtain ⟨ak,m1,m2,dd,s1,s2,o,m3,_,_,s3,_,x,_⟩:=h;have hx:b5 ((ag.fZ d m2 bP).rel Fr.emp) ak L:=bX.sZ (R:=fun cs a=>(ag.fZ d m2 bP).rel Fr.emp cs a) (k:=m2) (fun cs a m' z s=>⟨m',jU.mono s (jU.own d m'),(ek dF).rel z⟩) x s3;obtain ⟨ds,hds,hown⟩:=o;obtain ⟨rfl,h1,h2⟩:=rF hds;exact ⟨m2,m2,m1,Fr.e5 dd,s2,s1,rfl,m1,Fr.emp,Fr.e5 (Fr.ea _),Fr.bY _,Fr.c6 _,⟨ds,hx,by rw [← hx.length];exact hown⟩,trivial⟩
theorem aY.made {aO:e3} {dF:rD} {d:Fr} {b s mid c:Nat} {L:List aD} {M:List (cr (List UInt8))} {dm dn:Value} {m:Fr} (wf:gE M c) (ok:iL d Fr.emp L M)
  (h:Sat [cD (ek dF) aO.leaf dm L,obj b aO.tree [dm,dn,.int .i64 (s:Int),.map (some mid)],av ag.str aO.str dn (L.map fun y=>bq y.1),cu encS mid M c] m):aY aO d b s L m:=by
 obtain ⟨m1,r1,d1,s1,s2,x1,hr⟩:=h;obtain ⟨k,hk⟩:=Tp (d:=d) x1;have h5:=Sat.mono (Fr.ia s1 s2) (Sat.append d1 hk hr);exact aY.fold (aO:=aO) (b:=b) (s:=s) ⟨k,dm,dn,mid,M,c,wf,ok.mono (Fr.c6 _)⟩ (h5.perm (.cons _ (.swap _ _ _)))
end Go.Sp
end
section
/- Texts of this proof. -/
open Go
namespace Go.Sp
theorem J2 {a b:List UInt8} (h:¬ a<b) (h' :a≠b):b<a:=Classical.byContradiction fun q=>h' (List.le_antisymm (List.not_lt.1 q) (List.not_lt.1 h))
def gK (L:List aD) (x:aD):List aD:=L.filter (fun y=>decide (y.1<x.1))++(if x.2.1.length=0 then [] else [x])++L.filter (fun y=>decide (x.1<y.1))
theorem E9 {L:List aD} {x y:aD}:y∈gK L x↔(y∈L∧y.1≠x.1)∨(y=x∧x.2.1.length≠0):=by
 unfold gK;simp only [List.mem_append,List.mem_filter,decide_eq_true_eq]
 constructor
 ·rintro ((⟨h,q⟩|h)|⟨h,q⟩)
  ·exact .inl ⟨h,fun e=>by rw [e] at q;exact List.lt_irrefl _ q⟩
  ·split at h
   ·cases h
   ·rename_i q;exact .inr ⟨List.mem_singleton.1 h,q⟩
  ·exact .inl ⟨h,fun e=>by rw [e] at q;exact List.lt_irrefl _ q⟩
 ·rintro (⟨h,q⟩|⟨rfl,q⟩)
  ·by_cases hl:y.1<x.1
   ·exact .inl (.inl ⟨h,hl⟩)
   ·exact .inr ⟨h,J2 hl q⟩
  ·rw [if_neg q];exact .inl (.inr (List.mem_singleton.2 rfl))
theorem eE.put {L:List aD} (h:eE L) (x:aD):eE (gK L x):=by
 unfold gK eE;rw [List.append_assoc,List.pairwise_append];refine ⟨h.sublist List.filter_sublist,?_,?_⟩
 ·rw [List.pairwise_append]
  refine ⟨?_,h.sublist List.filter_sublist,?_⟩
  ·split
   ·exact .nil
   ·exact List.pairwise_singleton _ _
  ·intro a ha b hb
   split at ha
   ·cases ha
   ·cases List.mem_singleton.1 ha;exact of_decide_eq_true (List.mem_filter.1 hb).2
 ·intro a ha b hb
  have h1:=of_decide_eq_true (List.mem_filter.1 ha).2
  rcases List.mem_append.1 hb with hb|hb
  ·split at hb
   ·cases hb
   ·cases List.mem_singleton.1 hb;exact h1
  ·exact List.lt_trans h1 (of_decide_eq_true (List.mem_filter.1 hb).2)
theorem eE.ext:∀ {L M:List aD},eE L→eE M→(∀ y,y∈L↔y∈M)→L=M
 |[],[],_,_,_=>rfl
 |[],y::_,_,_,h=>absurd ((h y).2 (by simp)) (by simp)
 |x::_,[],_,_,h=>absurd ((h x).1 (by simp)) (by simp)
 |x::L,y::M,hL,vp,h=>by
  have hx:=List.pairwise_cons.1 hL;have hy:=List.pairwise_cons.1 vp;have e:x=y:=by
   rcases List.mem_cons.1 ((h x).1 (by simp)) with e|e
   ·exact e
   ·rcases List.mem_cons.1 ((h y).2 (by simp)) with q|q
    ·exact q.symm
    ·exact absurd (List.lt_trans (hy.1 x e) (hx.1 y q)) (List.lt_irrefl _)
  subst e
  congr 1
  refine eE.ext hx.2 hy.2 fun z=>⟨fun hz=>?_,fun hz=>?_⟩
  ·rcases List.mem_cons.1 ((h z).1 (by simp [hz])) with e|e
   ·subst e;exact absurd (hx.1 z hz) (List.lt_irrefl _)
   ·exact e
  ·rcases List.mem_cons.1 ((h z).2 (by simp [hz])) with e|e
   ·subst e;exact absurd (hy.1 z hz) (List.lt_irrefl _)
   ·exact e
theorem eE.key {L:List aD} (h:eE L) {x y:aD} (hx:x∈L) (hy:y∈L) (e:x.1=y.1):x=y:=by
 obtain ⟨i,hi,rfl⟩:=List.getElem_of_mem hx;obtain ⟨j,hj,rfl⟩:=List.getElem_of_mem hy
 rcases Nat.lt_trichotomy i j with q|q|q
 ·exact absurd (List.pairwise_iff_getElem.1 h i j hi hj q) (by rw [e];exact List.lt_irrefl _)
 ·subst q;rfl
 ·exact absurd (List.pairwise_iff_getElem.1 h j i hj hi q) (by rw [e];exact List.lt_irrefl _)
noncomputable def mT (s:Nat) (x:aD):Int:=if ¬ (mQ x.1∧pQ x.1=s) then 22 else if ¬ nQ x.1 x.2.1 then 4 else 0
noncomputable def jy (s:Nat):List aD→Int
 |[]=>0
 |x::l=>if mT s x=0 then jy s l else mT s x
def uq (s:Nat) (x:aD):Prop:=(mQ x.1∧pQ x.1=s)∧nQ x.1 x.2.1
theorem FB {s:Nat} {x:aD}:mT s x=0↔uq s x:=by
 unfold mT uq
 by_cases h:mQ x.1∧pQ x.1=s
 ·rw [if_neg (by simp [h])]
  by_cases k:nQ x.1 x.2.1
  ·rw [if_neg (by simp [k])];exact ⟨fun _=>⟨h,k⟩,fun _=>rfl⟩
  ·rw [if_pos k];exact ⟨fun q=>absurd q (by decide),fun q=>absurd q.2 k⟩
 ·rw [if_pos h];exact ⟨fun q=>absurd q (by decide),fun q=>absurd q.1 h⟩
theorem FC {s:Nat}:∀ {l:List aD},jy s l=0↔∀ x∈l,uq s x
 |[]=>by simp [jy]
 |x::l=>by
  unfold jy
  by_cases h:mT s x=0
  ·rw [if_pos h,FC,List.forall_mem_cons,← FB];exact ⟨fun q=>⟨h,q⟩,fun q=>q.2⟩
  ·rw [if_neg h,List.forall_mem_cons,← FB];exact ⟨fun q=>absurd q h,fun q=>absurd q.1 h⟩
theorem gu.put {s:Nat} {L:List aD} {x:aD} (h:gu s L) (hx:uq s x):gu s (gK L x):=by
 refine ⟨fun y hy=>?_,h.2.put x⟩
 rcases E9.1 hy with ⟨q,_⟩|⟨rfl,q⟩
 ·exact h.1 y q
 ·have h0:0<y.2.1.length:=by omega
  exact ⟨⟨hx.1.1,hx.2.1,h0,hx.2.2 h0⟩,hx.1.2⟩
noncomputable def fN (L:List aD) (l:List aD):List aD:=l.foldl gK L
theorem gu.FD {s:Nat}:∀ {l L:List aD},gu s L→(∀ x∈l,uq s x)→gu s (fN L l)
 |[],_,h,_=>h
 |x::l,L,h,hl=>gu.FD (l:=l) (L:=gK L x) (h.put (hl x (by simp))) fun y hy=>hl y (by simp [hy])
theorem X9 {L:List aD} {x:aD} {p:List UInt8} (hr:eE L) (h:p.isPrefixOf (bq x.1)=false):di p (gK L x)=di p L:=by
 refine eE.ext ((hr.put x).under p) (hr.under p) fun y=>?_;unfold di;rw [List.mem_filter,List.mem_filter,E9]
 constructor
 ·rintro ⟨⟨q,_⟩|⟨rfl,_⟩,k⟩
  ·exact ⟨q,k⟩
  ·rw [h] at k;cases k
 ·rintro ⟨q,k⟩
  exact ⟨.inl ⟨q,fun e=>by rw [e,h] at k;cases k⟩,k⟩
def bc (L:List aD) (s:List UInt8):Nat:=(L.filter fun y=>decide (y.1<s)).length
theorem JU (L:List aD) (s:List UInt8):bc L s≤L.length:=List.length_filter_le _ _
theorem Av:∀ {L:List aD} (s:List UInt8),eE L→L.take (bc L s)=L.filter (fun y=>decide (y.1<s))∧L.drop (bc L s)=L.filter (fun y=>!decide (y.1<s))
 |[],_,_=>⟨rfl,rfl⟩
 |x::L,s,h=>by
  have hx:=List.pairwise_cons.1 h;obtain ⟨h1,h2⟩:=Av s hx.2
  by_cases q:x.1<s
  ·have e:bc (x::L) s=bc L s+1:=by unfold bc;rw [List.filter_cons_of_pos (by simpa using q)];rfl
   rw [e,List.take_succ_cons,List.drop_succ_cons,h1,h2,List.filter_cons_of_pos (by simpa using q),List.filter_cons_of_neg (by simpa using q)];exact ⟨rfl,rfl⟩
  ·have n:∀ y∈L,¬ y.1<s:=fun y hy k=>q (List.lt_trans (hx.1 y hy) k)
   have e0:L.filter (fun y=>decide (y.1<s))=[]:=List.filter_eq_nil_iff.2 fun y hy=>by simpa using n y hy
   have e:bc (x::L) s=0:=by unfold bc;rw [List.filter_cons_of_neg (by simpa using q),e0];rfl
   have e1:L.filter (fun y=>!decide (y.1<s))=L:=List.filter_eq_self.2 fun y hy=>by simpa using n y hy
   rw [e,List.filter_cons_of_neg (by simpa using q),List.filter_cons_of_pos (by simpa using q),e0,e1];exact ⟨rfl,rfl⟩
theorem E5 {L:List aD} {s:List UInt8} (h:eE L) {i:Nat} (hi:i<L.length):L[i].1<s↔i<bc L s:=by
 obtain ⟨h1,h2⟩:=Av s h
 constructor
 ·intro q
  refine Nat.lt_of_not_ge fun k=>?_;have:L[i]∈L.drop (bc L s):=List.mem_drop_iff_getElem.2 ⟨i - bc L s,by omega,by congr 1;omega⟩;rw [h2,List.mem_filter] at this
  simpa [q] using this.2
 ·intro q
  have:L[i]∈L.take (bc L s):=List.mem_take_iff_getElem.2 ⟨i,by omega,rfl⟩;rw [h1,List.mem_filter] at this
  simpa using this.2
def k5 (L:List aD) (s:List UInt8):Prop:=∃ h:bc L s<L.length,L[bc L s].1=s
noncomputable instance (L:List aD) (s:List UInt8):Decidable (k5 L s):=Classical.propDecidable _
theorem JD {L:List aD} {s:List UInt8} (h:eE L):k5 L s↔∃ x∈L,x.1=s:=by
 constructor
 ·rintro ⟨q,e⟩;exact ⟨_,List.getElem_mem q,e⟩
 ·rintro ⟨x,hx,e⟩
  obtain ⟨i,hi,rfl⟩:=List.getElem_of_mem hx;have h1:¬ i<bc L s:=fun q=>by have:=(E5 h hi).2 q;rw [e] at this;exact List.lt_irrefl _ this
  have h2:¬ bc L s<i:=fun q=>by
   have:=List.pairwise_iff_getElem.1 h _ _ (by omega) hi q;rw [e] at this;exact absurd ((E5 h (by omega)).1 this) (Nat.lt_irrefl _)
  have e2:i=bc L s:=by omega
  exact ⟨by omega,(congrArg Prod.fst (show L[bc L s]=L[i] by congr 1;exact e2.symm)).trans e⟩
theorem KM {L:List aD} {x:aD} (h:eE L) (q:k5 L x.1):gK L x=L.take (bc L x.1)++(if x.2.1.length=0 then [] else [x])++L.drop (bc L x.1+1):=by
 obtain ⟨h1,h2⟩:=Av x.1 h;obtain ⟨q1,q2⟩:=q;unfold gK;rw [h1];congr 1;have e:L.drop (bc L x.1)=L[bc L x.1]::L.drop (bc L x.1+1):=List.drop_eq_getElem_cons q1;have hp:eE (L.drop (bc L x.1)):=h.sublist (List.drop_sublist _ _);rw [e] at hp;have hq:=(List.pairwise_cons.1 hp).1;have k:L.filter (fun y=>decide (x.1<y.1))=(L.drop (bc L x.1)).filter (fun y=>decide (x.1<y.1)):=by
  rw [h2,List.filter_filter];congr 1;funext y
  by_cases c:x.1<y.1
  ·have:¬ y.1<x.1:=fun z=>List.lt_irrefl _ (List.lt_trans c z)
   simp [c,this]
  ·simp [c]
 rw [k,e,List.filter_cons_of_neg (by simp [q2,List.lt_irrefl])];exact List.filter_eq_self.2 fun y hy=>by simpa [q2] using hq y hy
theorem KK {L:List aD} {x:aD} (h:eE L) (q:¬ k5 L x.1):gK L x=L.take (bc L x.1)++(if x.2.1.length=0 then [] else [x])++L.drop (bc L x.1):=by
 obtain ⟨h1,h2⟩:=Av x.1 h;unfold gK;rw [h1,h2];congr 1;refine List.filter_congr fun y hy=>?_;have ne:y.1≠x.1:=fun e=>q ((JD h).2 ⟨y,hy,e⟩)
 by_cases c:y.1<x.1
 ·have:¬ x.1<y.1:=fun z=>List.lt_irrefl _ (List.lt_trans c z)
  simp [c,this]
 ·simp [c,J2 c ne]
noncomputable def kF (L:List aD) (s:List UInt8):List aP:=if h:k5 L s then (L[bc L s]'h.1).2.1 else []
theorem OL {L:List aD} (h:eE L) {x:aD} (hx:x∈L):kF L x.1=x.2.1:=by
 have q:k5 L x.1:=(JD h).2 ⟨x,hx,rfl⟩;unfold kF;rw [dif_pos q];rw [h.key (List.getElem_mem q.1) hx q.2]
end Go.Sp
end
end
