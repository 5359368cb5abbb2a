/- Texts of this proof, one behind the other. -/
import Derived.Test.YtojafegjlahajaaGreatDoorQSpNode
section
/- Texts of this proof. -/
open Go
namespace Go.Sp
def bitS (d:List UInt8) (i:Nat):UInt8:=48+((d.getD (i / 8) 0) >>>UInt8.ofNat (7 - i % 8) &&& 1)
def keyDig (s:List UInt8):List UInt8:=shaSum (6::s)
def shardOf (s:List UInt8):Nat:=((keyDig s).getD 0 0).toNat / 64
def wayOf (s:List UInt8):List UInt8:=(List.range 510).map fun i=>bitS (keyDig s) (i+2)
@[simp] theorem wayOf_len (s:List UInt8):(wayOf s).length=510:=by simp [wayOf]
def underL (p:List UInt8) (l:List LeafT):List LeafT:=l.filter fun x=>p.isPrefixOf (wayOf x.1)
theorem underL_under (p q:List UInt8) (l:List LeafT):underL (p++q) (underL p l)=underL (p++q) l:=by
 unfold underL;rw [List.filter_filter];congr 1;funext x
 cases h:(p++q).isPrefixOf (wayOf x.1) with
 |false=>rfl
 |true =>
  rw [List.isPrefixOf_iff_prefix] at h;have:p.isPrefixOf (wayOf x.1)=true:=List.isPrefixOf_iff_prefix.2 ((List.prefix_append p q).trans h);rw [this];rfl
theorem underL_sub (p:List UInt8) (l:List LeafT):(underL p l).Sublist l:=List.filter_sublist
def LRise (l:List LeafT):Prop:=l.Pairwise fun a b=>a.1<b.1
theorem LRise.keys {l:List LeafT} (h:LRise l):keysRise (·.1) l:=fun i hi h0=>List.pairwise_iff_getElem.1 h _ _ (by omega) hi (by omega)
theorem LRise.under {l:List LeafT} (h:LRise l) (p:List UInt8):LRise (underL p l):=h.sublist (underL_sub p l)
noncomputable def nodeN:Nat→List UInt8→List LeafT→NodeT
 |_,_,[]=>(1,[],[],[],())
 |_,_,[x]=>(2,[],[],[x],())
 |0,_,l=>(4,[],[],l,())
 |n+1,p,l=>(3,nodeSumP (nodeN n (p++[48]) (underL (p++[48]) l)),nodeSumP (nodeN n (p++[49]) (underL (p++[49]) l)),[],())
theorem nodeN_0 (n:Nat) (p:List UInt8):nodeN n p []=(1,[],[],[],()):=by cases n<;>rfl
theorem nodeN_1 (n:Nat) (p:List UInt8) (x:LeafT):nodeN n p [x]=(2,[],[],[x],()):=by cases n<;>rfl
theorem nodeN_many {p:List UInt8} {l:List LeafT} (h:2≤l.length):nodeN 0 p l=(4,[],[],l,()):=by
 match l,h with
 |_::_::_,_=>rfl
theorem nodeN_split {n:Nat} {p:List UInt8} {l:List LeafT} (h:2≤l.length):nodeN (n+1) p l=(3,nodeSumP (nodeN n (p++[48]) (underL (p++[48]) l)),nodeSumP (nodeN n (p++[49]) (underL (p++[49]) l)),[],()):=by
 match l,h with
 |_::_::_,_=>rfl
theorem rises_one {a:LeafT}:LRise [a]:=List.pairwise_singleton _ _
theorem nodeN_ok:∀ (n:Nat) (p:List UInt8) (l:List LeafT),(∀ x∈l,leafOk x)→LRise l→nodeOk (nodeN n p l)
 |n,p,[],_,_=>by rw [nodeN_0];exact ⟨⟨fun _ h=>(List.not_mem_nil h).elim,(LRise.keys .nil)⟩,.inl ⟨rfl,rfl,rfl,rfl⟩⟩
 |n,p,[x],h,_=>by rw [nodeN_1];exact ⟨⟨h,rises_one.keys⟩,.inr (.inl ⟨rfl,rfl,rfl,rfl⟩)⟩
 |0,p,x::y::l,h,hr=>by rw [nodeN_many (by simp)];exact ⟨⟨h,hr.keys⟩,.inr (.inr (.inr ⟨rfl,rfl,rfl,by simp⟩))⟩
 |n+1,p,x::y::l,h,hr=>by
  rw [nodeN_split (by simp)];have k:∀ q,(nodeSumP (nodeN n q (underL q (x::y::l)))).length=64:=fun q=>(nodeSum_64 _).2 (nodeN_ok n q _ (fun z hz=>h z ((underL_sub q _).subset hz)) (hr.under q));exact ⟨⟨fun _ h=>(List.not_mem_nil h).elim,LRise.keys .nil⟩,.inr (.inr (.inl ⟨rfl,k _,k _,rfl⟩))⟩
def TreeOk (s:Nat) (L:List LeafT):Prop:=(∀ x∈L,leafOk x∧shardOf x.1=s)∧LRise L
theorem TreeOk.nil (s:Nat):TreeOk s []:=⟨fun _ h=>(List.not_mem_nil h).elim,.nil⟩
noncomputable def treeNode (L:List LeafT) (p:List UInt8):NodeT:=nodeN (510 - p.length) p (underL p L)
noncomputable def treeSum (L:List LeafT) (p:List UInt8):List UInt8:=nodeSumP (treeNode L p)
theorem treeNode_ok {s:Nat} {L:List LeafT} (h:TreeOk s L) (p:List UInt8):nodeOk (treeNode L p) :=
 nodeN_ok _ _ _ (fun x hx=>(h.1 x ((underL_sub p L).subset hx)).1) (h.2.under p)
theorem treeSum_len {s:Nat} {L:List LeafT} (h:TreeOk s L) (p:List UInt8):(treeSum L p).length=64:=(nodeSum_64 _).2 (treeNode_ok h p)
theorem treeNode_0 {L:List LeafT} {p:List UInt8} (h:underL p L=[]):treeNode L p=(1,[],[],[],()):=by rw [treeNode,h,nodeN_0]
theorem treeNode_1 {L:List LeafT} {p:List UInt8} {x:LeafT} (h:underL p L=[x]):treeNode L p=(2,[],[],[x],()):=by rw [treeNode,h,nodeN_1]
theorem treeNode_many {L:List LeafT} {p:List UInt8} (h:2≤(underL p L).length) (hp:p.length=510):treeNode L p=(4,[],[],underL p L,()):=by
 rw [treeNode,hp];exact nodeN_many h
theorem treeNode_split {L:List LeafT} {p:List UInt8} (h:2≤(underL p L).length) (hp:p.length<510):treeNode L p=(3,treeSum L (p++[48]),treeSum L (p++[49]),[],()):=by
 have e:510 - p.length=(510 - (p++[48]).length)+1:=by simp;omega
 have e2:510 - (p++[48]).length=510 - (p++[49]).length:=by simp
 rw [treeNode,e,nodeN_split h,underL_under,underL_under]
 conv=>lhs;arg 2;arg 2;arg 1;rw [e2]
 rfl
noncomputable def topP (s:Int) (n:List UInt8):List UInt8:=if 0≤s∧s<4∧n.length=64 then shaSum (4::byteOf s::n) else []
def atL (L:List LeafT) (a:List Nat):List LeafT:=a.filterMap fun i=>L[i]?
def underI (L:List LeafT) (p:List UInt8) (a:List Nat):List Nat:=a.filter fun i=>p.isPrefixOf (((L[i]?).map fun x=>wayOf x.1).getD [])
theorem atL_under (L:List LeafT) (p:List UInt8):∀ a:List Nat,(∀ i∈a,i<L.length)→atL L (underI L p a)=underL p (atL L a)
 |[],_=>rfl
 |i::a,h=>by
  have hi:i<L.length:=h i (by simp);have ih:=atL_under L p a fun j hj=>h j (by simp [hj]);have e:L[i]?=some L[i]:=List.getElem?_eq_getElem hi;have e2:atL L (i::a)=L[i]::atL L a:=by simp [atL,e]
  rw [e2];unfold underI;rw [List.filter_cons];have e3:(((L[i]?).map fun x=>wayOf x.1).getD [])=wayOf L[i].1:=by rw [e,Option.map_some,Option.getD_some]
  rw [e3]
  by_cases hp:p.isPrefixOf (wayOf L[i].1)=true
  ·rw [if_pos hp]
   have:underL p (L[i]::atL L a)=L[i]::underL p (atL L a):=by unfold underL;rw [List.filter_cons,if_pos hp]
   rw [this,← ih]
   simp [atL,e,underI]
  ·rw [if_neg hp]
   have:underL p (L[i]::atL L a)=underL p (atL L a):=by unfold underL;rw [List.filter_cons,if_neg hp]
   rw [this,← ih];rfl
theorem underI_lt {L:List LeafT} {p:List UInt8} {a:List Nat} (h:∀ i∈a,i<L.length):∀ i∈underI L p a,i<L.length:=fun i hi=>h i (List.mem_filter.1 hi).1
theorem underI_len (L:List LeafT) (p:List UInt8) (a:List Nat):(underI L p a).length≤a.length:=List.length_filter_le _ _
theorem range_atL (L:List LeafT):atL L (List.range L.length)=L:=by
 have h:∀ n,n≤L.length→atL L (List.range n)=L.take n:=by
  intro n
  induction n with
  |zero=>intro _;rfl
  |succ n ih =>
   intro hn
   have e:L[n]?=some L[n]:=List.getElem?_eq_getElem (by omega);have:atL L (List.range (n+1))=atL L (List.range n)++[L[n]]:=by rw [List.range_succ];simp [atL,e]
   rw [this,ih (by omega),List.take_succ_eq_append_getElem (by omega)]
 rw [h _ (Nat.le_refl _),List.take_length]
theorem range_lt (L:List LeafT):∀ i∈List.range L.length,i<L.length:=fun i hi=>List.mem_range.1 hi
theorem underI_snoc {L:List LeafT} {p:List UInt8} {a:List Nat} {k:Nat} (hk:k<a.length) (h:∀ i∈a,i<L.length) :
  underI L p (a.take (k+1))=if p.isPrefixOf (wayOf (L[a[k]]'(h _ (List.getElem_mem hk))).1)=true then underI L p (a.take k)++[a[k]] else underI L p (a.take k):=by
 have hi:=h _ (List.getElem_mem hk);rw [List.take_succ_eq_append_getElem hk];unfold underI;rw [List.filter_append];have e3:(((L[a[k]]?).map fun x=>wayOf x.1).getD [])=wayOf L[a[k]].1:=by rw [List.getElem?_eq_getElem hi,Option.map_some,Option.getD_some]
 split
 ·rename_i q;rw [List.filter_cons,e3,if_pos q];rfl
 ·rename_i q;rw [List.filter_cons,e3,if_neg q];simp
theorem atL_len {L:List LeafT}:∀ {a:List Nat},(∀ i∈a,i<L.length)→(atL L a).length=a.length
 |[],_=>rfl
 |i::a,h=>by
  have ih:=atL_len (L:=L) (a:=a) fun j hj=>h j (by simp [hj]);have e:L[i]?=some (L[i]'(h i (by simp))):=List.getElem?_eq_getElem _
  simpa [atL,e] using ih
theorem atL_get {L:List LeafT}:∀ {a:List Nat} (h:∀ i∈a,i<L.length) (k:Nat) (hk:k<a.length),(atL L a)[k]'(by rw [atL_len h];exact hk)=L[a[k]]'(h _ (List.getElem_mem hk))
 |i::a,h,k,hk=>by
  have e:L[i]?=some (L[i]'(h i (by simp))):=List.getElem?_eq_getElem _;have e2:atL L (i::a)=(L[i]'(h i (by simp)))::atL L a:=by simp [atL,e]
  cases k with
  |zero=>simp [e2]
  |succ k=>simp only [e2,List.getElem_cons_succ];exact atL_get (fun j hj=>h j (by simp [hj])) k (by simpa using hk)
theorem nodeN_leaves (n:Nat) (p:List UInt8) (l:List LeafT):(nodeN n p l).2.2.2.1=[]∨(nodeN n p l).2.2.2.1=l:=by
 match l with
 |[]=>rw [nodeN_0];exact .inl rfl
 |[x]=>rw [nodeN_1];exact .inr rfl
 |x::y::l =>
  cases n with
  |zero=>rw [nodeN_many (by simp)];exact .inr rfl
  |succ n=>rw [nodeN_split (by simp)];exact .inl rfl
theorem treeNode_small {L:List LeafT} (h:L.length≤10000000∧∀ y∈L,y.2.1.length≤10000000) (p:List UInt8):(treeNode L p).2.2.2.1.length≤10000000∧∀ y∈(treeNode L p).2.2.2.1,y.2.1.length≤10000000:=by
 have hs:=underL_sub p L
 rcases nodeN_leaves (510 - p.length) p (underL p L) with e|e
 ·unfold treeNode;rw [e];exact ⟨Nat.zero_le _,fun _ q=>by cases q⟩
 ·unfold treeNode;rw [e];exact ⟨Nat.le_trans hs.length_le h.1,fun y hy=>h.2 y (hs.subset hy)⟩
theorem node_64 {x:NodeT} (h:nodeOk x):x.2.1.length≤1000000000000∧x.2.2.1.length≤1000000000000:=by
 rcases h.2 with q|q|q|q
 ·rw [q.2.1,q.2.2.1];decide
 ·rw [q.2.1,q.2.2.1];decide
 ·omega
 ·rw [q.2.1,q.2.2.1];decide
theorem treeSum_eq (L:List LeafT) (p:List UInt8):nodeSumP (treeNode L p)=treeSum L p:=rfl
end Go.Sp
end
section
/- Texts of this proof. -/
open Go
namespace Go.Sp
def stubsB (es:List StubT):List UInt8:=(es.map fun e=>bytesOf e.1++e.2.1).flatten
def endTag (n:Nat):UInt8:=([0,1,3]:List UInt8).getD (min n 2) 0
def endB (es:List StubT):List UInt8:=endTag es.length::stubsB es
theorem stubsB_snoc {es:List StubT} {k:Nat} (h:k<es.length):stubsB (es.take (k+1))=stubsB (es.take k)++(bytesOf es[k].1++es[k].2.1):=by
 rw [List.take_succ_eq_append_getElem h];unfold stubsB;rw [List.map_append,List.flatten_append];simp
end Go.Sp
end
