/- Texts of this proof, one behind the other. -/
import Derived.Test.YtojafegjlahajaaGreatDoorQSpNode
import Derived.Lib.UnsafeStr
import Derived.Lib.BufferWrite
import Derived.Test.YtojafegjlahajaaGreatDoorQSpDel
import Derived.Lib.Builder
set_option linter.unusedSectionVars false
section
/- Texts of this proof, one behind the other. -/
section
/- Texts of this proof. -/
open Go
namespace Go.Sp
section
variable {P:Program} {σ:List (Nat × Value)} {g:Gr} {η ζ:List SProp}
theorem DoesE.copyTo {t te e T:TypeId} {x y:Operand} {b n c m:Nat} {u:Value} {cs:List Value} {xs:List UInt8} (ht:P.underlying t=some (.slice e)) (he:(P.info? e).map (·.size)=some 1) (hx:ev σ x=some (.slice (some ⟨b,0,none⟩) n c)) (hy:ev σ y=some u) (hu:Arr Rp.u8 g.h u xs)
  (hs:Sel η (obj b T cs) ζ) (hm:m=xs.length) (h1:m≤n) (h2:m≤cs.length) (h0:0<m) :
  DoesE P (.call ⟨.builtin .copy,#[x,y],#[t,te]⟩) σ g η fun v η' =>v=.int .i64 (m:Int)∧η' =obj b T (xs.map byteV++cs.drop m)::ζ :=
 fun o ρ w ho hk hw=>by
  subst hm;have hw1:=hw.sel hs;obtain ⟨css,ha,au,cu,rfl,c1,c2,c3,c4⟩:=hu;have hfl:css.flatten=xs.map byteV:=by
   clear c3 c4 hy h0 h1 h2 c1
   induction css generalizing xs with
   |nil=>cases xs with|nil=>rfl|cons _ _=>exact ha.elim
   |cons c css ih =>
    cases xs with
    |nil=>exact ha.elim
    |cons x xs =>
     obtain ⟨a1,a2⟩:=ha;have a1:c=[byteV x]:=a1;rw [List.flatten_cons,ih a2,a1];rfl
  rw [hfl] at c3 c4;have hl:(xs.map byteV).length=xs.length:=List.length_map ..;obtain ⟨ad,had,_⟩:=c4 0 (by omega);subst had;have hnews:∀ jj v,(xs.map byteV)[jj]?=some v→w.cell? (ad.add jj)=some v:=fun jj v hv=>by
   obtain ⟨hjl,rfl⟩:=List.getElem?_eq_some_iff.1 hv;obtain ⟨p,hp,hc⟩:=c4 jj hjl
   cases hp
   exact Fr.cell_mono hw.ground hc
  have hf:=run_firstCells_some (P:=P) w 1 xs.length ad xs.length cu (xs.map byteV) (by omega) hnews;have hst:=run_storeCells_at P b 0 T (xs.map byteV) 0 cs.toArray w hw1.block (by simp;omega) (by
   intro v hv
   obtain ⟨_,_,rfl⟩:=List.mem_map.1 hv;rfl)
  simp only [Nat.add_zero,Nat.zero_add,List.take_zero,List.nil_append,hl] at hst;have hmin:Nat.min xs.length n=xs.length:=Nat.min_eq_left h1;refine ⟨_,w.setRow b (xs.map byteV++cs.drop xs.length).toArray,_,⟨rfl,rfl⟩,?_,hw1.setRow⟩
  simp [execOp,ho,hk x _ hx,hk y _ hy,resolve,invoke,builtin,Builtin.copy_,run_underlying ht,Builtin.lenOf,run_sizeOf he,hmin,hf,hst,goInt]
end
end Go.Sp
end
section
/- Texts of this proof. -/
open Go
namespace Go.Sp
def bitS (d:List UInt8) (i:Nat):UInt8:=48+((d.getD (i / 8) 0) >>>UInt8.ofNat (7 - i % 8) &&& 1)
def keyDig (s:List UInt8):List UInt8:=shaSum (6::s)
theorem keyDig_len (s:List UInt8):(keyDig s).length=64:=shaSum_len _
def shardOf (s:List UInt8):Nat:=((keyDig s).getD 0 0).toNat / 64
theorem shardOf_lt (s:List UInt8):shardOf s<4:=by
 have:=((keyDig s).getD 0 0).toNat_lt;unfold shardOf;omega
def wayOf (s:List UInt8):List UInt8:=(List.range 510).map fun i=>bitS (keyDig s) (i+2)
@[simp] theorem wayOf_len (s:List UInt8):(wayOf s).length=510:=by simp [wayOf]
def underL (p:List UInt8) (l:List LeafT):List LeafT:=l.filter fun x=>p.isPrefixOf (wayOf x.1)
theorem underL_under (p q:List UInt8) (l:List LeafT):underL (p++q) (underL p l)=underL (p++q) l:=by
 unfold underL;rw [List.filter_filter];congr 1;funext x
 cases h:(p++q).isPrefixOf (wayOf x.1) with
 |false=>rfl
 |true =>
  rw [List.isPrefixOf_iff_prefix] at h;have:p.isPrefixOf (wayOf x.1)=true:=List.isPrefixOf_iff_prefix.2 ((List.prefix_append p q).trans h);rw [this];rfl
theorem underL_sub (p:List UInt8) (l:List LeafT):(underL p l).Sublist l:=List.filter_sublist
def LRise (l:List LeafT):Prop:=l.Pairwise fun a b=>a.1<b.1
theorem LRise.keys {l:List LeafT} (h:LRise l):keysRise (·.1) l:=fun i hi h0=>List.pairwise_iff_getElem.1 h _ _ (by omega) hi (by omega)
theorem LRise.under {l:List LeafT} (h:LRise l) (p:List UInt8):LRise (underL p l):=h.sublist (underL_sub p l)
noncomputable def nodeN:Nat→List UInt8→List LeafT→NodeT
 |_,_,[]=>(1,[],[],[],())
 |_,_,[x]=>(2,[],[],[x],())
 |0,_,l=>(4,[],[],l,())
 |n+1,p,l=>(3,nodeSumP (nodeN n (p++[48]) (underL (p++[48]) l)),nodeSumP (nodeN n (p++[49]) (underL (p++[49]) l)),[],())
theorem nodeN_0 (n:Nat) (p:List UInt8):nodeN n p []=(1,[],[],[],()):=by cases n<;>rfl
theorem nodeN_1 (n:Nat) (p:List UInt8) (x:LeafT):nodeN n p [x]=(2,[],[],[x],()):=by cases n<;>rfl
theorem nodeN_many {p:List UInt8} {l:List LeafT} (h:2≤l.length):nodeN 0 p l=(4,[],[],l,()):=by
 match l,h with
 |_::_::_,_=>rfl
theorem nodeN_split {n:Nat} {p:List UInt8} {l:List LeafT} (h:2≤l.length):nodeN (n+1) p l=(3,nodeSumP (nodeN n (p++[48]) (underL (p++[48]) l)),nodeSumP (nodeN n (p++[49]) (underL (p++[49]) l)),[],()):=by
 match l,h with
 |_::_::_,_=>rfl
theorem rises_one {a:LeafT}:LRise [a]:=List.pairwise_singleton _ _
theorem nodeN_ok:∀ (n:Nat) (p:List UInt8) (l:List LeafT),(∀ x∈l,leafOk x)→LRise l→nodeOk (nodeN n p l)
 |n,p,[],_,_=>by rw [nodeN_0];exact ⟨⟨fun _ h=>(List.not_mem_nil h).elim,(LRise.keys .nil)⟩,.inl ⟨rfl,rfl,rfl,rfl⟩⟩
 |n,p,[x],h,_=>by rw [nodeN_1];exact ⟨⟨h,rises_one.keys⟩,.inr (.inl ⟨rfl,rfl,rfl,rfl⟩)⟩
 |0,p,x::y::l,h,hr=>by rw [nodeN_many (by simp)];exact ⟨⟨h,hr.keys⟩,.inr (.inr (.inr ⟨rfl,rfl,rfl,by simp⟩))⟩
 |n+1,p,x::y::l,h,hr=>by
  rw [nodeN_split (by simp)];have k:∀ q,(nodeSumP (nodeN n q (underL q (x::y::l)))).length=64:=fun q=>(nodeSum_64 _).2 (nodeN_ok n q _ (fun z hz=>h z ((underL_sub q _).subset hz)) (hr.under q));exact ⟨⟨fun _ h=>(List.not_mem_nil h).elim,LRise.keys .nil⟩,.inr (.inr (.inl ⟨rfl,k _,k _,rfl⟩))⟩
def TreeOk (s:Nat) (L:List LeafT):Prop:=(∀ x∈L,leafOk x∧shardOf x.1=s)∧LRise L
theorem TreeOk.nil (s:Nat):TreeOk s []:=⟨fun _ h=>(List.not_mem_nil h).elim,.nil⟩
noncomputable def treeNode (L:List LeafT) (p:List UInt8):NodeT:=nodeN (510 - p.length) p (underL p L)
noncomputable def treeSum (L:List LeafT) (p:List UInt8):List UInt8:=nodeSumP (treeNode L p)
theorem treeNode_ok {s:Nat} {L:List LeafT} (h:TreeOk s L) (p:List UInt8):nodeOk (treeNode L p) :=
 nodeN_ok _ _ _ (fun x hx=>(h.1 x ((underL_sub p L).subset hx)).1) (h.2.under p)
theorem treeSum_len {s:Nat} {L:List LeafT} (h:TreeOk s L) (p:List UInt8):(treeSum L p).length=64:=(nodeSum_64 _).2 (treeNode_ok h p)
theorem treeNode_0 {L:List LeafT} {p:List UInt8} (h:underL p L=[]):treeNode L p=(1,[],[],[],()):=by rw [treeNode,h,nodeN_0]
theorem treeNode_1 {L:List LeafT} {p:List UInt8} {x:LeafT} (h:underL p L=[x]):treeNode L p=(2,[],[],[x],()):=by rw [treeNode,h,nodeN_1]
theorem treeNode_many {L:List LeafT} {p:List UInt8} (h:2≤(underL p L).length) (hp:p.length=510):treeNode L p=(4,[],[],underL p L,()):=by
 rw [treeNode,hp];exact nodeN_many h
theorem treeNode_split {L:List LeafT} {p:List UInt8} (h:2≤(underL p L).length) (hp:p.length<510):treeNode L p=(3,treeSum L (p++[48]),treeSum L (p++[49]),[],()):=by
 have e:510 - p.length=(510 - (p++[48]).length)+1:=by simp;omega
 have e2:510 - (p++[48]).length=510 - (p++[49]).length:=by simp
 rw [treeNode,e,nodeN_split h,underL_under,underL_under]
 conv=>lhs;arg 2;arg 2;arg 1;rw [e2]
 rfl
noncomputable def topP (s:Int) (n:List UInt8):List UInt8:=if 0≤s∧s<4∧n.length=64 then shaSum (4::byteOf s::n) else []
def atL (L:List LeafT) (a:List Nat):List LeafT:=a.filterMap fun i=>L[i]?
def underI (L:List LeafT) (p:List UInt8) (a:List Nat):List Nat:=a.filter fun i=>p.isPrefixOf (((L[i]?).map fun x=>wayOf x.1).getD [])
theorem atL_under (L:List LeafT) (p:List UInt8):∀ a:List Nat,(∀ i∈a,i<L.length)→atL L (underI L p a)=underL p (atL L a)
 |[],_=>rfl
 |i::a,h=>by
  have hi:i<L.length:=h i (by simp);have ih:=atL_under L p a fun j hj=>h j (by simp [hj]);have e:L[i]?=some L[i]:=List.getElem?_eq_getElem hi;have e2:atL L (i::a)=L[i]::atL L a:=by simp [atL,e]
  rw [e2];unfold underI;rw [List.filter_cons];have e3:(((L[i]?).map fun x=>wayOf x.1).getD [])=wayOf L[i].1:=by rw [e,Option.map_some,Option.getD_some]
  rw [e3]
  by_cases hp:p.isPrefixOf (wayOf L[i].1)=true
  ·rw [if_pos hp]
   have:underL p (L[i]::atL L a)=L[i]::underL p (atL L a):=by unfold underL;rw [List.filter_cons,if_pos hp]
   rw [this,← ih]
   simp [atL,e,underI]
  ·rw [if_neg hp]
   have:underL p (L[i]::atL L a)=underL p (atL L a):=by unfold underL;rw [List.filter_cons,if_neg hp]
   rw [this,← ih];rfl
theorem underI_lt {L:List LeafT} {p:List UInt8} {a:List Nat} (h:∀ i∈a,i<L.length):∀ i∈underI L p a,i<L.length:=fun i hi=>h i (List.mem_filter.1 hi).1
theorem underI_len (L:List LeafT) (p:List UInt8) (a:List Nat):(underI L p a).length≤a.length:=List.length_filter_le _ _
theorem range_atL (L:List LeafT):atL L (List.range L.length)=L:=by
 have h:∀ n,n≤L.length→atL L (List.range n)=L.take n:=by
  intro n
  induction n with
  |zero=>intro _;rfl
  |succ n ih =>
   intro hn
   have e:L[n]?=some L[n]:=List.getElem?_eq_getElem (by omega);have:atL L (List.range (n+1))=atL L (List.range n)++[L[n]]:=by rw [List.range_succ];simp [atL,e]
   rw [this,ih (by omega),List.take_succ_eq_append_getElem (by omega)]
 rw [h _ (Nat.le_refl _),List.take_length]
theorem range_lt (L:List LeafT):∀ i∈List.range L.length,i<L.length:=fun i hi=>List.mem_range.1 hi
theorem underI_snoc {L:List LeafT} {p:List UInt8} {a:List Nat} {k:Nat} (hk:k<a.length) (h:∀ i∈a,i<L.length) :
  underI L p (a.take (k+1))=if p.isPrefixOf (wayOf (L[a[k]]'(h _ (List.getElem_mem hk))).1)=true then underI L p (a.take k)++[a[k]] else underI L p (a.take k):=by
 have hi:=h _ (List.getElem_mem hk);rw [List.take_succ_eq_append_getElem hk];unfold underI;rw [List.filter_append];have e3:(((L[a[k]]?).map fun x=>wayOf x.1).getD [])=wayOf L[a[k]].1:=by rw [List.getElem?_eq_getElem hi,Option.map_some,Option.getD_some]
 split
 ·rename_i q;rw [List.filter_cons,e3,if_pos q];rfl
 ·rename_i q;rw [List.filter_cons,e3,if_neg q];simp
theorem atL_len {L:List LeafT}:∀ {a:List Nat},(∀ i∈a,i<L.length)→(atL L a).length=a.length
 |[],_=>rfl
 |i::a,h=>by
  have ih:=atL_len (L:=L) (a:=a) fun j hj=>h j (by simp [hj]);have e:L[i]?=some (L[i]'(h i (by simp))):=List.getElem?_eq_getElem _
  simpa [atL,e] using ih
theorem atL_get {L:List LeafT}:∀ {a:List Nat} (h:∀ i∈a,i<L.length) (k:Nat) (hk:k<a.length),(atL L a)[k]'(by rw [atL_len h];exact hk)=L[a[k]]'(h _ (List.getElem_mem hk))
 |i::a,h,k,hk=>by
  have e:L[i]?=some (L[i]'(h i (by simp))):=List.getElem?_eq_getElem _;have e2:atL L (i::a)=(L[i]'(h i (by simp)))::atL L a:=by simp [atL,e]
  cases k with
  |zero=>simp [e2]
  |succ k=>simp only [e2,List.getElem_cons_succ];exact atL_get (fun j hj=>h j (by simp [hj])) k (by simpa using hk)
theorem nodeN_leaves (n:Nat) (p:List UInt8) (l:List LeafT):(nodeN n p l).2.2.2.1=[]∨(nodeN n p l).2.2.2.1=l:=by
 match l with
 |[]=>rw [nodeN_0];exact .inl rfl
 |[x]=>rw [nodeN_1];exact .inr rfl
 |x::y::l =>
  cases n with
  |zero=>rw [nodeN_many (by simp)];exact .inr rfl
  |succ n=>rw [nodeN_split (by simp)];exact .inl rfl
theorem treeNode_small {L:List LeafT} (h:L.length≤10000000∧∀ y∈L,y.2.1.length≤10000000) (p:List UInt8):(treeNode L p).2.2.2.1.length≤10000000∧∀ y∈(treeNode L p).2.2.2.1,y.2.1.length≤10000000:=by
 have hs:=underL_sub p L
 rcases nodeN_leaves (510 - p.length) p (underL p L) with e|e
 ·unfold treeNode;rw [e];exact ⟨Nat.zero_le _,fun _ q=>by cases q⟩
 ·unfold treeNode;rw [e];exact ⟨Nat.le_trans hs.length_le h.1,fun y hy=>h.2 y (hs.subset hy)⟩
theorem node_64 {x:NodeT} (h:nodeOk x):x.2.1.length≤1000000000000∧x.2.2.1.length≤1000000000000:=by
 rcases h.2 with q|q|q|q
 ·rw [q.2.1,q.2.2.1];decide
 ·rw [q.2.1,q.2.2.1];decide
 ·omega
 ·rw [q.2.1,q.2.2.1];decide
theorem treeSum_eq (L:List LeafT) (p:List UInt8):nodeSumP (treeNode L p)=treeSum L p:=rfl
end Go.Sp
end
end
section
/- Texts of this proof, one behind the other. -/
section
/- Texts of this proof. -/
open Go
namespace Go.Sp
variable {P:Program} {σ:List (Nat × Value)} {g:Gr} {η ζ:List SProp} {t t2 e:TypeId} {x y:Operand}
theorem u8_flat:∀ {css:List (List Value)} {xs:List UInt8},All2 (Rp.u8.rel Fr.emp) css xs→css.flatten=xs.map byteV
 |[],[],_=>rfl
 |c::css,b::xs,⟨h,r⟩=>by
  have h:c=[byteV b]:=h;subst h
  simp [u8_flat r]
theorem u8_rows (xs:List UInt8):All2 (Rp.u8.rel Fr.emp) (xs.map fun b=>[byteV b]) xs:=by
 induction xs with
 |nil=>trivial
 |cons b xs ih=>exact ⟨rfl,ih⟩
theorem u8_cells:∀ xs:List UInt8,(xs.map fun b=>[byteV b]).flatten=xs.map byteV
 |[]=>rfl
 |b::xs=>by simp [u8_cells xs]
theorem DoesE.copyStr {a:Option Addr} {n c:Nat} {xs s:List UInt8} (ht:P.underlying t=some (.slice e)) (he:(P.info? e).map (·.size)=some 1) (hx:ev σ x=some (.slice a n c)) (hy:ev σ y=some (.string (str s)))
  (hs:Sel η (OwnP Rp.u8 e (.slice a n c) xs) ζ) (hn:n=s.length) (hxl:xs.length=n) (h0:0<n) :
  DoesE P (.call ⟨.builtin .copy,#[x,y],#[t,t2]⟩) σ g η fun v η' =>v=.int .i64 (n:Int)∧η' =OwnP Rp.u8 e (.slice a n c) s::ζ :=
 fun o ρ w ho hk hw=>by
  obtain ⟨b,cap,cur,css,hv,h1,h2,h3,h4,ha,fz,hfz,hwb⟩:=(hw.sel hs).ownP_block (by omega)
  cases hv
  have hsz:(str s).size=s.length:=str_size s;have hk1:Rp.u8.k=1:=rfl;rw [hk1] at h3 h4 hfz;have hone:∀ v∈s.map byteV,v.oneCell' =true:=fun v hv=>by obtain ⟨_,_,rfl⟩:=List.mem_map.1 hv;rfl
  have hst:=run_storeCells_z P b 0 e hfz (s.map byteV) 0 cur w hwb.block (by omega) (by simp;omega) hone;simp only [Nat.add_zero,Nat.zero_add,List.take_zero,List.nil_append,List.length_map] at hst;have htk:List.take s.length (List.map (fun b:UInt8=>Value.int IntKind.u8 (b.toNat:Int)) (str s).data.toList)=s.map byteV:=by
   rw [List.take_of_length_le (by simp [str])];rfl
  refine ⟨_,w.setRow b (s.map byteV++cur.toList.drop s.length).toArray,_,⟨rfl,rfl⟩,?_,?_⟩
  ·have hmin:Nat.min s.length xs.length=s.length:=by rw [hxl,hn];exact Nat.min_self _
   simp [execOp,ho,hk x _ hx,hk y _ hy,resolve,invoke,builtin,Builtin.copy_,run_underlying ht,Builtin.lenOf,Builtin.firstCells,run_sizeOf he,hsz,hmin,htk,hst,goInt]
   omega
  ·have hl:xs.length=s.length:=by omega
   refine (hwb.setRow.ownF hfz (k:=1) (m:=s.length) (cap:=c) (cs:=s.map byteV) (by omega) h2 ?_ ?_).imp fun _=>Sat.cons_imp (fun z=>?_) fun _ q=>q
   ·simp;omega
   ·simp
   ·rw [hl];exact OwnP.of (T:=Rp.u8) (u8_rows s) rfl (u8_cells s).symm rfl z
theorem DoesE.unsafeStr {pt:TypeId} {a:Option Addr} {q:Addr} {n c:Nat} {xs:List UInt8} (hp:P.underlying pt=some (.pointer e)) (hc:P.cellsOf e=1) (hx:ev σ x=some (.pointer (some q))) (hq:PtrIn (.slice a n c) 1 0 q) (hy:ev σ y=some (.int .i64 (n:Int)))
  (hs:Sel η (OwnP Rp.u8 e (.slice a n c) xs) ζ) (hn:n=xs.length) (h0:0<n) :
  DoesE P (.call ⟨.builtin .unsafeString,#[x,y],#[pt,t2]⟩) σ g η fun v η' =>v=.string (str xs)∧η' =ζ :=
 fun o ρ w ho hk hw=>by
  obtain ⟨b,cap,cur,css,hv,h1,h2,h3,h4,ha,fz,hfz,hwb⟩:=(hw.sel hs).ownP_block (by omega);obtain ⟨b',m',c',hv',rfl⟩:=hq
  cases hv;cases hv'
  have hk1:Rp.u8.k=1:=rfl;rw [hk1] at h3 h4 hfz;have hfl:=u8_flat ha;have hb0:=hwb.block;have hne:xs≠[]:=fun h=>by rw [h] at h0;simp at h0
  have hUS:=Lib.run_unsafeString_row (P:=P) w pt t2 o.type e hp hc b cur.size (by unfold World.shape?;rw [hb0]) xs hne (by omega) (by omega) (fun j x hx=>by
   have hj:j<xs.length:=(List.getElem?_eq_some_iff.1 hx).1;have e1:(⟨b,0,none⟩:Addr).add j=⟨b,j,none⟩:=by unfold Addr.add;split<;>simp_all
   have e2:cur.toList[j]?=some (byteV x):=by
    have:(cur.toList.take (xs.length*1))[j]?=some (byteV x):=by rw [h4,hfl,List.getElem?_map,hx];rfl
    rwa [List.getElem?_take_of_lt (by omega)] at this
   rw [e1];simp only [World.cell?,hb0]
   simpa [byteV] using e2)
  refine ⟨_,w.freeze ⟨b,0,none⟩ xs.length,_,⟨rfl,rfl⟩,?_,?_⟩
  ·have hz:(⟨b,0*1,none⟩:Addr)=⟨b,0,none⟩:=by simp
   simp [execOp,ho,hk x _ hx,hk y _ hy,resolve,invoke,builtin,hUS,str]
  ·have hfr:∀ u:World,u=w.freeze ⟨b,0,none⟩ xs.length→u.os=w.os∧u.tape=w.tape∧u.output=w.output∧u.drawn=w.drawn∧(∃ o',u.heap[b]?=some o')∧∀ i,i≠b→u.heap[i]?=w.heap[i]?:=by
    rintro _ rfl;unfold World.freeze;rw [if_neg (by omega)];refine ⟨rfl,rfl,rfl,rfl,?_,fun i hi=>?_⟩
    ·simp [Array.getElem?_modify,hb0]
    ·have:b≠i:=fun h=>hi h.symm
     simp [Array.getElem?_modify,this]
   obtain ⟨f1,f2,f3,f4,⟨o',f5⟩,f6⟩:=hfr _ rfl;exact Holds.drop (Holds.setBlock hwb f5 f6 f1 f2 f3 (by rw [f4];exact Nat.le_refl _))
end Go.Sp
end
section
/- Texts of this proof. -/
open Go
namespace Go.Sp
section
variable {P:Program} {σ:List (Nat × Value)} {g:Gr} {η ζ θ:List SProp} {x y:Operand} {t te e T:TypeId} {b:Nat} {cs:List Value}
theorem Does.toUnsafe {src dst t:TypeId} {k:Nat} (hs0:P.underlying src=some (.pointer t)) (hd:P.underlying dst=some .unsafePointer) (ht:(P.info? t).map (·.size)=some (k+1)) (hx:ev σ x=some (.pointer (some ⟨b,0,none⟩))) (hs:Sel η (obj b T cs) ζ) (h0:0<cs.length) :
  Does P (.convert src dst x) σ g η (.pointer (some ⟨b,0,none⟩)) η:=fun o ρ w ho hk hw=>⟨w,by
 have hb:w.heap[b]?=some (.cells cs.toArray T (0,0)):=(hw.sel hs).block
 cases hi:P.info? t with
 |none=>rw [hi] at ht;cases ht
 |some i =>
  rw [hi] at ht;simp only [Option.map_some,Option.some.injEq] at ht;have:=Lib.run_to_unsafe (P:=P) w ⟨b,0,none⟩ hs0 hd hi (by omega) (e:=T) (cells:=cs.length) (by simp [World.shape?,hb]) h0
  simp [execOp,ho,hk x _ hx,this],hw⟩
theorem Does.fromUnsafe {src dst u:TypeId} (hs0:P.underlying src=some .unsafePointer) (hd:P.underlying dst=some (.pointer u)) (hu:(P.info? u).isSome=true) (hx:ev σ x=some (.pointer (some ⟨b,0,none⟩))) (hs:Sel η (obj b T cs) ζ) (hl:liesAt P P.depth T (cs.length / P.cellsOf T) 0 u 1=true) :
  Does P (.convert src dst x) σ g η (.pointer (some ⟨b,0,none⟩)) η:=fun o ρ w ho hk hw=>⟨w,by
 have hb:w.heap[b]?=some (.cells cs.toArray T (0,0)):=(hw.sel hs).block
 cases hi:P.info? u with
 |none=>rw [hi] at hu;cases hu
 |some i =>
  have:=Lib.run_from_unsafe (P:=P) w ⟨b,0,none⟩ hs0 hd hi (e:=T) (cells:=cs.length) (by simp [World.shape?,hb]) hl
  simp [execOp,ho,hk x _ hx,this],hw⟩
theorem Does.noEscape {f : FuncId} {fn : Func} {f0 : Operand} {ts : Array TypeId} {v : Value} (hf : P.funcs[f]? = some fn) (h1 : (fn.name == "runtime.NumGoroutine") = false) (h2 : fn.body.isNone = true) (h3 : Extern.findNext fn = none) (h4 : Extern.find fn = some Extern.AbiNoEscape.same)
  (hx:ev σ f0=some (.func (.func f) #[] #[])) (hy:ev σ y=some v):Does P (.call ⟨.value f0,#[y],ts⟩) σ g η v η:=by
 intro o ρ w ho hk hw
 refine ⟨w,?_,hw⟩;have e1:=run_callFunc_extern (P:=P) hf h1 h2 h3 h4 #[v] w;rw [Lib.run_noEscape] at e1;simp only [Result.andThen] at e1
 simp [execOp,ho,resolve,hk f0 _ hx,hk y _ hy,Deferred.ofValue,invoke,e1]
theorem Does.neqSame {tp te u:TypeId} {a:Addr} (hp:P.underlying tp=some (.pointer te)) (hte:(P.info? te).isSome=true) (hgd:P.eqGuardType P.depth tp=false) (hx:ev σ x=some (.pointer (some a))) (hy:ev σ y=some (.pointer (some a))) :
  Does P (.binOp .neq tp x y u) σ g η (.bool false) η:=.run fun o ρ w ho hk=>by
 cases hi:P.info? te with
 |none=>rw [hi] at hte;cases hte
 |some i =>
  have:=Lib.run_neq_ptr_same (P:=P) w a hp hi
  simp [execOp,ho,hk x _ hx,hk y _ hy,eqGuard,hgd,this]
theorem Does.sliceArrAll {len:Nat} (ht:P.underlying t=some (.array len e)) (he:(P.info? e).map (·.size)=some 1) (hx:ev σ x=some (.pointer (some ⟨b,0,none⟩))) (h0:0<len) :
  Does P (.slice t x none none none) σ g η (.slice (some ⟨b,0,none⟩) len len) η:=.run fun o ρ w ho hk=>by
 have h2:¬ len=0:=by omega
 simp [execOp,ho,hk x _ hx,Instr.sliceAt,Instr.sureAddr,Instr.sliceBounds,Instr.sliceBound,asIntOf,run_underlying ht,h2,run_sizeOf he,Addr.add]
variable {fn:Func} {n:Nat} {R:Ending→World→Prop} {k:List Item} {D:List Deferred} {ops:Array Oper}
theorem DoesE.copyToO {e2:TypeId} {n' c m:Nat} {u:Value} {xs:List UInt8} (ht:P.underlying t=some (.slice e)) (he:(P.info? e).map (·.size)=some 1) (hx:ev σ x=some (.slice (some ⟨b,0,none⟩) n' c)) (hy:ev σ y=some u)
  (hu:Sel η (OwnP Rp.u8 e2 u xs) θ) (hs:Sel θ (obj b T cs) ζ) (hm:m=xs.length) (h1:m≤n') (h2:m≤cs.length) (h0:0<m) :
  DoesE P (.call ⟨.builtin .copy,#[x,y],#[t,te]⟩) σ g η fun v η' =>v=.int .i64 (m:Int)∧η' =OwnP Rp.u8 e2 u xs::obj b T (xs.map byteV++cs.drop m)::ζ :=
 DoesE.sel hu ((DoesE.borrow fun m' hm' hd=>DoesE.copyTo (g:=g.add m') ht he hx hy ((OwnP.arr hm').mono (Fr.sub_add_right hd)) hs hm h1 h2 h0).imp fun _ _ ⟨_,⟨a,b⟩,c⟩=>⟨a,by rw [c,b]⟩)
theorem OD.copyToO {q d:Nat} {l:List Nat} {e2:TypeId} {n' c m:Nat} {u:Value} {xs:List UInt8} (ho:Fires ops q n σ d (.call ⟨.builtin .copy,#[x,y],#[t,te]⟩)) (hd:descOk ops [q] l=true) (ht:P.underlying t=some (.slice e)) (he:(P.info? e).map (·.size)=some 1) (hx:ev σ x=some (.slice (some ⟨b,0,none⟩) n' c)) (hy:ev σ y=some u)
  (hu:Sel η (OwnP Rp.u8 e2 u xs) θ) (hs:Sel θ (obj b T cs) ζ) (hm:m=xs.length) (h1:m≤n') (h2:m≤cs.length) (h0:0<m)
  (h:OD P fn n R ops k D g l ((d,.int .i64 (m:Int))::σ) (OwnP Rp.u8 e2 u xs::obj b T (xs.map byteV++cs.drop m)::ζ)):OD P fn n R ops k D g (q::l) σ η :=
 ODx.perm (hu.perm.trans (List.Perm.cons _ hs.perm)) (ODg.loudE (fl:=false) (η:=OwnP Rp.u8 e2 u xs::obj b T cs::ζ) (K:=fun v η' =>v=.int .i64 (m:Int)∧η' =OwnP Rp.u8 e2 u xs::obj b T (xs.map byteV++cs.drop m)::ζ) ho rfl (by simpa [hdOk] using hd)
  (fun ζ' =>(DoesE.copyToO ht he hx hy .here .here hm h1 h2 h0).imp fun _ _ ⟨a,b⟩=>⟨_,⟨a,rfl⟩,by rw [b];rfl⟩) (by rintro _ _ ⟨rfl,rfl⟩;exact h))
theorem Does.sliceData {a:Addr} {m c:Nat} (hx:ev σ x=some (.slice (some a) m c)) (h0:0<c):Does P (.call ⟨.builtin .unsafeSliceData,#[x],#[t]⟩) σ g η (.pointer (some a)) η:=.run fun o ρ w ho hk=>by
 have:=Lib.run_unsafeSliceData_row (P:=P) w #[t] o.type a m c (by omega)
 simp [execOp,ho,hk x _ hx,resolve,invoke,builtin,this]
theorem OD.unsafeStr {q' d:Nat} {l:List Nat} {pt t2:TypeId} {a:Option Addr} {q:Addr} {m c:Nat} {xs:List UInt8} (ho:Fires ops q' n σ d (.call ⟨.builtin .unsafeString,#[x,y],#[pt,t2]⟩)) (hd:descOk ops [q'] l=true) (hp:P.underlying pt=some (.pointer e)) (hc:P.cellsOf e=1) (hx:ev σ x=some (.pointer (some q))) (hq:PtrIn (.slice a m c) 1 0 q) (hy:ev σ y=some (.int .i64 (m:Int)))
  (hs:Sel η (OwnP Rp.u8 e (.slice a m c) xs) ζ) (hn:m=xs.length) (h0:0<m) (h:OD P fn n R ops k D g l ((d,.string (str xs))::σ) ζ):OD P fn n R ops k D g (q' ::l) σ η :=
 ODx.perm hs.perm (ODg.loudE (fl:=false) (η:=OwnP Rp.u8 e (.slice a m c) xs::ζ) (K:=fun v η' =>v=.string (str xs)∧η' =ζ) ho rfl (by simpa [hdOk] using hd)
  (fun ζ' =>(DoesE.unsafeStr hp hc hx hq hy .here hn h0).imp fun _ _ ⟨a,b⟩=>⟨_,⟨a,rfl⟩,by rw [b];rfl⟩) (by rintro _ _ ⟨rfl,rfl⟩;exact h))
end
def BuildP (T e:TypeId) (b:Nat) (xs:List UInt8):SProp:=fun m=>∃ p v,(p=none∨p=some (⟨b,0,none⟩:Addr))∧Sat [obj b T [.pointer p,v],OwnP Rp.u8 e v xs] m
structure BuildO (b:Nat) where
 p:Option Addr
 v:Value
 hp:p=none∨p=some (⟨b,0,none⟩:Addr)
theorem BuildP.opn {T e:TypeId} {b:Nat} {xs:List UInt8} {m:Fr}:BuildP T e b xs m→∃ x:BuildO b,Sat [obj b T [.pointer x.p,x.v],OwnP Rp.u8 e x.v xs] m:=fun ⟨p,v,h,s⟩=>⟨⟨p,v,h⟩,s⟩
theorem BuildP.fold {T e:TypeId} {b:Nat} {xs:List UInt8} {p:Option Addr} {v:Value} {m:Fr} (h:p=none∨p=some (⟨b,0,none⟩:Addr)) (s:Sat [obj b T [.pointer p,v],OwnP Rp.u8 e v xs] m):BuildP T e b xs m:=⟨p,v,h,s⟩
def bit1 (d:List UInt8) (i:Nat):UInt8:=(d.getD (i / 8) 0) >>>UInt8.ofNat (7 - i % 8) &&& 1
theorem way_eq (s:List UInt8):wayOf s=((List.range 510).map fun i=>bit1 (keyDig s) (i+2)).map (48+·):=by
 unfold wayOf;rw [List.map_map];rfl
end Go.Sp
end
end
