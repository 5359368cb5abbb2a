/- Texts of this proof, one behind the other. -/
import Derived.Test.YtojafegjlahajaaGreatDoorQSpNode
import Derived.Test.YtojafegjlahajaaGreatDoorQSpDel
section
/- Texts of this proof. -/
open Go
namespace Go.Sp
def bitS (d:List UInt8) (i:Nat):UInt8:=48+((d.getD (i / 8) 0) >>>UInt8.ofNat (7 - i % 8) &&& 1)
def keyDig (s:List UInt8):List UInt8:=shaSum (6::s)
theorem keyDig_len (s:List UInt8):(keyDig s).length=64:=shaSum_len _
def shardOf (s:List UInt8):Nat:=((keyDig s).getD 0 0).toNat / 64
def wayOf (s:List UInt8):List UInt8:=(List.range 510).map fun i=>bitS (keyDig s) (i+2)
@[simp] theorem wayOf_len (s:List UInt8):(wayOf s).length=510:=by simp [wayOf]
theorem bitS_01 (d:List UInt8) (i:Nat):bitS d i=48∨bitS d i=49:=by
 unfold bitS;generalize (d.getD (i / 8) 0) >>>UInt8.ofNat (7 - i % 8)=x;have h:x &&& 1=0∨x &&& 1=1:=by
  have:(x &&& 1).toNat=x.toNat % 2:=by rw [UInt8.toNat_and];exact Nat.and_one_is_mod _
  rcases Nat.mod_two_eq_zero_or_one x.toNat with e|e
  ·left;apply UInt8.toNat_inj.1;rw [this,e];rfl
  ·right;apply UInt8.toNat_inj.1;rw [this,e];rfl
 rcases h with h|h<;>rw [h]
 ·left;rfl
 ·right;rfl
theorem wayOf_01 (s:List UInt8):∀ c∈wayOf s,c=48∨c=49:=fun c hc=>by
 obtain ⟨i,_,rfl⟩:=List.mem_map.1 hc;exact bitS_01 _ _
def underL (p:List UInt8) (l:List LeafT):List LeafT:=l.filter fun x=>p.isPrefixOf (wayOf x.1)
theorem underL_nil (l:List LeafT):underL [] l=l:=by
 unfold underL;rw [List.filter_eq_self];intro x _;rfl
theorem underL_under (p q:List UInt8) (l:List LeafT):underL (p++q) (underL p l)=underL (p++q) l:=by
 unfold underL;rw [List.filter_filter];congr 1;funext x
 cases h:(p++q).isPrefixOf (wayOf x.1) with
 |false=>rfl
 |true =>
  rw [List.isPrefixOf_iff_prefix] at h;have:p.isPrefixOf (wayOf x.1)=true:=List.isPrefixOf_iff_prefix.2 ((List.prefix_append p q).trans h);rw [this];rfl
theorem underL_sub (p:List UInt8) (l:List LeafT):(underL p l).Sublist l:=List.filter_sublist
def LRise (l:List LeafT):Prop:=l.Pairwise fun a b=>a.1<b.1
theorem LRise.keys {l:List LeafT} (h:LRise l):keysRise (·.1) l:=fun i hi h0=>List.pairwise_iff_getElem.1 h _ _ (by omega) hi (by omega)
theorem LRise.under {l:List LeafT} (h:LRise l) (p:List UInt8):LRise (underL p l):=h.sublist (underL_sub p l)
noncomputable def nodeN:Nat→List UInt8→List LeafT→NodeT
 |_,_,[]=>(1,[],[],[],())
 |_,_,[x]=>(2,[],[],[x],())
 |0,_,l=>(4,[],[],l,())
 |n+1,p,l=>(3,nodeSumP (nodeN n (p++[48]) (underL (p++[48]) l)),nodeSumP (nodeN n (p++[49]) (underL (p++[49]) l)),[],())
theorem nodeN_0 (n:Nat) (p:List UInt8):nodeN n p []=(1,[],[],[],()):=by cases n<;>rfl
theorem nodeN_1 (n:Nat) (p:List UInt8) (x:LeafT):nodeN n p [x]=(2,[],[],[x],()):=by cases n<;>rfl
theorem nodeN_many {p:List UInt8} {l:List LeafT} (h:2≤l.length):nodeN 0 p l=(4,[],[],l,()):=by
 match l,h with
 |_::_::_,_=>rfl
theorem nodeN_split {n:Nat} {p:List UInt8} {l:List LeafT} (h:2≤l.length):nodeN (n+1) p l=(3,nodeSumP (nodeN n (p++[48]) (underL (p++[48]) l)),nodeSumP (nodeN n (p++[49]) (underL (p++[49]) l)),[],()):=by
 match l,h with
 |_::_::_,_=>rfl
theorem rises_one {a:LeafT}:LRise [a]:=List.pairwise_singleton _ _
theorem nodeN_ok:∀ (n:Nat) (p:List UInt8) (l:List LeafT),(∀ x∈l,leafOk x)→LRise l→nodeOk (nodeN n p l)
 |n,p,[],_,_=>by rw [nodeN_0];exact ⟨⟨fun _ h=>(List.not_mem_nil h).elim,(LRise.keys .nil)⟩,.inl ⟨rfl,rfl,rfl,rfl⟩⟩
 |n,p,[x],h,_=>by rw [nodeN_1];exact ⟨⟨h,rises_one.keys⟩,.inr (.inl ⟨rfl,rfl,rfl,rfl⟩)⟩
 |0,p,x::y::l,h,hr=>by rw [nodeN_many (by simp)];exact ⟨⟨h,hr.keys⟩,.inr (.inr (.inr ⟨rfl,rfl,rfl,by simp⟩))⟩
 |n+1,p,x::y::l,h,hr=>by
  rw [nodeN_split (by simp)];have k:∀ q,(nodeSumP (nodeN n q (underL q (x::y::l)))).length=64:=fun q=>(nodeSum_64 _).2 (nodeN_ok n q _ (fun z hz=>h z ((underL_sub q _).subset hz)) (hr.under q));exact ⟨⟨fun _ h=>(List.not_mem_nil h).elim,LRise.keys .nil⟩,.inr (.inr (.inl ⟨rfl,k _,k _,rfl⟩))⟩
def TreeOk (s:Nat) (L:List LeafT):Prop:=(∀ x∈L,leafOk x∧shardOf x.1=s)∧LRise L
theorem TreeOk.nil (s:Nat):TreeOk s []:=⟨fun _ h=>(List.not_mem_nil h).elim,.nil⟩
noncomputable def treeNode (L:List LeafT) (p:List UInt8):NodeT:=nodeN (510 - p.length) p (underL p L)
noncomputable def treeSum (L:List LeafT) (p:List UInt8):List UInt8:=nodeSumP (treeNode L p)
theorem treeNode_ok {s:Nat} {L:List LeafT} (h:TreeOk s L) (p:List UInt8):nodeOk (treeNode L p) :=
 nodeN_ok _ _ _ (fun x hx=>(h.1 x ((underL_sub p L).subset hx)).1) (h.2.under p)
theorem treeSum_len {s:Nat} {L:List LeafT} (h:TreeOk s L) (p:List UInt8):(treeSum L p).length=64:=(nodeSum_64 _).2 (treeNode_ok h p)
theorem treeNode_0 {L:List LeafT} {p:List UInt8} (h:underL p L=[]):treeNode L p=(1,[],[],[],()):=by rw [treeNode,h,nodeN_0]
theorem treeNode_1 {L:List LeafT} {p:List UInt8} {x:LeafT} (h:underL p L=[x]):treeNode L p=(2,[],[],[x],()):=by rw [treeNode,h,nodeN_1]
theorem treeNode_many {L:List LeafT} {p:List UInt8} (h:2≤(underL p L).length) (hp:p.length=510):treeNode L p=(4,[],[],underL p L,()):=by
 rw [treeNode,hp];exact nodeN_many h
theorem treeNode_split {L:List LeafT} {p:List UInt8} (h:2≤(underL p L).length) (hp:p.length<510):treeNode L p=(3,treeSum L (p++[48]),treeSum L (p++[49]),[],()):=by
 have e:510 - p.length=(510 - (p++[48]).length)+1:=by simp;omega
 have e2:510 - (p++[48]).length=510 - (p++[49]).length:=by simp
 rw [treeNode,e,nodeN_split h,underL_under,underL_under]
 conv=>lhs;arg 2;arg 2;arg 1;rw [e2]
 rfl
theorem treeNode_congr {L M:List LeafT} {p:List UInt8} (h:underL p L=underL p M):treeNode L p=treeNode M p:=by rw [treeNode,treeNode,h]
theorem treeSum_congr {L M:List LeafT} {p:List UInt8} (h:underL p L=underL p M):treeSum L p=treeSum M p:=by rw [treeSum,treeSum,treeNode_congr h]
noncomputable def topP (s:Int) (n:List UInt8):List UInt8:=if 0≤s∧s<4∧n.length=64 then shaSum (4::byteOf s::n) else []
def atL (L:List LeafT) (a:List Nat):List LeafT:=a.filterMap fun i=>L[i]?
def underI (L:List LeafT) (p:List UInt8) (a:List Nat):List Nat:=a.filter fun i=>p.isPrefixOf (((L[i]?).map fun x=>wayOf x.1).getD [])
theorem atL_under (L:List LeafT) (p:List UInt8):∀ a:List Nat,(∀ i∈a,i<L.length)→atL L (underI L p a)=underL p (atL L a)
 |[],_=>rfl
 |i::a,h=>by
  have hi:i<L.length:=h i (by simp);have ih:=atL_under L p a fun j hj=>h j (by simp [hj]);have e:L[i]?=some L[i]:=List.getElem?_eq_getElem hi;have e2:atL L (i::a)=L[i]::atL L a:=by simp [atL,e]
  rw [e2];unfold underI;rw [List.filter_cons];have e3:(((L[i]?).map fun x=>wayOf x.1).getD [])=wayOf L[i].1:=by rw [e,Option.map_some,Option.getD_some]
  rw [e3]
  by_cases hp:p.isPrefixOf (wayOf L[i].1)=true
  ·rw [if_pos hp]
   have:underL p (L[i]::atL L a)=L[i]::underL p (atL L a):=by unfold underL;rw [List.filter_cons,if_pos hp]
   rw [this,← ih]
   simp [atL,e,underI]
  ·rw [if_neg hp]
   have:underL p (L[i]::atL L a)=underL p (atL L a):=by unfold underL;rw [List.filter_cons,if_neg hp]
   rw [this,← ih];rfl
theorem underI_lt {L:List LeafT} {p:List UInt8} {a:List Nat} (h:∀ i∈a,i<L.length):∀ i∈underI L p a,i<L.length:=fun i hi=>h i (List.mem_filter.1 hi).1
theorem underI_len (L:List LeafT) (p:List UInt8) (a:List Nat):(underI L p a).length≤a.length:=List.length_filter_le _ _
theorem range_atL (L:List LeafT):atL L (List.range L.length)=L:=by
 have h:∀ n,n≤L.length→atL L (List.range n)=L.take n:=by
  intro n
  induction n with
  |zero=>intro _;rfl
  |succ n ih =>
   intro hn
   have e:L[n]?=some L[n]:=List.getElem?_eq_getElem (by omega);have:atL L (List.range (n+1))=atL L (List.range n)++[L[n]]:=by rw [List.range_succ];simp [atL,e]
   rw [this,ih (by omega),List.take_succ_eq_append_getElem (by omega)]
 rw [h _ (Nat.le_refl _),List.take_length]
theorem range_lt (L:List LeafT):∀ i∈List.range L.length,i<L.length:=fun i hi=>List.mem_range.1 hi
theorem underI_snoc {L:List LeafT} {p:List UInt8} {a:List Nat} {k:Nat} (hk:k<a.length) (h:∀ i∈a,i<L.length) :
  underI L p (a.take (k+1))=if p.isPrefixOf (wayOf (L[a[k]]'(h _ (List.getElem_mem hk))).1)=true then underI L p (a.take k)++[a[k]] else underI L p (a.take k):=by
 have hi:=h _ (List.getElem_mem hk);rw [List.take_succ_eq_append_getElem hk];unfold underI;rw [List.filter_append];have e3:(((L[a[k]]?).map fun x=>wayOf x.1).getD [])=wayOf L[a[k]].1:=by rw [List.getElem?_eq_getElem hi,Option.map_some,Option.getD_some]
 split
 ·rename_i q;rw [List.filter_cons,e3,if_pos q];rfl
 ·rename_i q;rw [List.filter_cons,e3,if_neg q];simp
theorem atL_len {L:List LeafT}:∀ {a:List Nat},(∀ i∈a,i<L.length)→(atL L a).length=a.length
 |[],_=>rfl
 |i::a,h=>by
  have ih:=atL_len (L:=L) (a:=a) fun j hj=>h j (by simp [hj]);have e:L[i]?=some (L[i]'(h i (by simp))):=List.getElem?_eq_getElem _
  simpa [atL,e] using ih
theorem atL_get {L:List LeafT}:∀ {a:List Nat} (h:∀ i∈a,i<L.length) (k:Nat) (hk:k<a.length),(atL L a)[k]'(by rw [atL_len h];exact hk)=L[a[k]]'(h _ (List.getElem_mem hk))
 |i::a,h,k,hk=>by
  have e:L[i]?=some (L[i]'(h i (by simp))):=List.getElem?_eq_getElem _;have e2:atL L (i::a)=(L[i]'(h i (by simp)))::atL L a:=by simp [atL,e]
  cases k with
  |zero=>simp [e2]
  |succ k=>simp only [e2,List.getElem_cons_succ];exact atL_get (fun j hj=>h j (by simp [hj])) k (by simpa using hk)
theorem nodeN_leaves (n:Nat) (p:List UInt8) (l:List LeafT):(nodeN n p l).2.2.2.1=[]∨(nodeN n p l).2.2.2.1=l:=by
 match l with
 |[]=>rw [nodeN_0];exact .inl rfl
 |[x]=>rw [nodeN_1];exact .inr rfl
 |x::y::l =>
  cases n with
  |zero=>rw [nodeN_many (by simp)];exact .inr rfl
  |succ n=>rw [nodeN_split (by simp)];exact .inl rfl
theorem treeNode_small {L:List LeafT} (h:L.length≤10000000∧∀ y∈L,y.2.1.length≤10000000) (p:List UInt8):(treeNode L p).2.2.2.1.length≤10000000∧∀ y∈(treeNode L p).2.2.2.1,y.2.1.length≤10000000:=by
 have hs:=underL_sub p L
 rcases nodeN_leaves (510 - p.length) p (underL p L) with e|e
 ·unfold treeNode;rw [e];exact ⟨Nat.zero_le _,fun _ q=>by cases q⟩
 ·unfold treeNode;rw [e];exact ⟨Nat.le_trans hs.length_le h.1,fun y hy=>h.2 y (hs.subset hy)⟩
theorem node_64 {x:NodeT} (h:nodeOk x):x.2.1.length≤1000000000000∧x.2.2.1.length≤1000000000000:=by
 rcases h.2 with q|q|q|q
 ·rw [q.2.1,q.2.2.1];decide
 ·rw [q.2.1,q.2.2.1];decide
 ·omega
 ·rw [q.2.1,q.2.2.1];decide
theorem treeSum_eq (L:List LeafT) (p:List UInt8):nodeSumP (treeNode L p)=treeSum L p:=rfl
end Go.Sp
end
section
/- Texts of this proof. -/
open Go
namespace Go.Sp
def Cov (q d k:Fr):Prop:=∀ i o,q i=some o→d i=some o∨k i=some o
theorem Cov.own (d k:Fr):Cov k d k:=fun _ _ h=>.inr h
theorem Cov.mono {q d k k' :Fr} (s:k.sub k') (h:Cov q d k):Cov q d k' :=fun i o e=>(h i o e).imp id (s i o)
theorem Cov.sub {q d k g:Fr} (hd:d.sub g) (hk:k.sub g) (h:Cov q d k):q.sub g:=fun i o e=>(h i o e).elim (hd i o) (hk i o)
section
variable {α:Type}
def Rp.cv (d k:Fr) (T:Rp α):Rp α:={ k:=T.k,rel:=fun _ cs a=>∃ q,Cov q d k∧T.rel q cs a,len:=fun ⟨_,_,h⟩=>T.len h,mono:=fun _ h=>h,one:=fun ⟨_,_,h⟩=>T.one h }
theorem Rp.cv_off {T:Rp α} {d k h g:Fr} {cs:List Value} {a:α} (hd:d.sub g) (hk:k.sub g):(Rp.cv d k T).rel h cs a→T.rel g cs a:=fun ⟨_,c,x⟩=>T.mono (c.sub hd hk) x
theorem Rp.cv_mono {T:Rp α} {d k k' h h' :Fr} {cs:List Value} {a:α} (s:k.sub k'):(Rp.cv d k T).rel h cs a→(Rp.cv d k' T).rel h' cs a:=fun ⟨q,c,x⟩=>⟨q,c.mono s,x⟩
theorem OwnP.imp {T U:Rp α} {e:TypeId} {v:Value} {xs:List α} {m:Fr} (hk:T.k=U.k) (h:∀ cs a,T.rel Fr.emp cs a→U.rel Fr.emp cs a):OwnP T e v xs m→OwnP U e v xs m:=fun ⟨css,a,o⟩=>⟨css,a.imp fun _ _=>h _ _,by rw [← hk];exact o⟩
theorem OwnP.cv_mono {T:Rp α} {e:TypeId} {d k k' :Fr} {v:Value} {xs:List α} {m:Fr} (s:k.sub k') (x:OwnP (Rp.cv d k T) e v xs m):OwnP (Rp.cv d k' T) e v xs m:=OwnP.imp (T:=Rp.cv d k T) (U:=Rp.cv d k' T) rfl (fun _ _=>Rp.cv_mono s) x
theorem Arr.cv_off {T:Rp α} {d k h:Fr} {v:Value} {xs:List α} (hd:d.sub h) (hk:k.sub h):Arr (Rp.cv d k T) h v xs→Arr T h v xs:=fun ⟨css,a,b⟩=>⟨css,a.imp fun _ _ x=>Rp.cv_off hd hk x,b⟩
end
def SumsOk (d k:Fr) (L:List LeafT) (M:List (KEnt (List UInt8))):Prop:=∀ p v,getK M p=some v→pathOk p∧∃ q,Cov q d k∧Arr Rp.u8 q v (treeSum L p)
theorem SumsOk.mono {d k k' :Fr} {L:List LeafT} {M:List (KEnt (List UInt8))} (s:k.sub k') (h:SumsOk d k L M):SumsOk d k' L M:=fun p v e=>⟨(h p v e).1,(h p v e).2.elim fun q x=>⟨q,x.1.mono s,x.2⟩⟩
theorem SumsOk.nil (d k:Fr) (L:List LeafT):SumsOk d k L []:=fun p v h=>by cases h
theorem SumsOk.put {d k:Fr} {L:List LeafT} {M:List (KEnt (List UInt8))} {c:Nat} {p:List UInt8} {v:Value} (h:SumsOk d k L M) (hp:pathOk p) (hv:∃ q,Cov q d k∧Arr Rp.u8 q v (treeSum L p)):SumsOk d k L (putK M c p v):=fun j u e=>by
 rw [getK_put] at e
 split at e
 ·rename_i q;subst q;cases e;exact ⟨hp,hv⟩
 ·exact h j u e
structure TTys where
 tree:TypeId
 leaf:TypeId
 str:TypeId
def TreeP (θ:TTys) (d k:Fr) (b:Nat) (s:Nat) (L:List LeafT):SProp:=fun m=>∃ vL vW mid M c,(WfK M c∧SumsOk d k L M) ∧
 Sat [obj b θ.tree [vL,vW,.int .i64 (s:Int),.map (some mid)],OwnP (Rp.cv d k LeafRp) θ.leaf vL L,OwnP Rp.str θ.str vW (L.map fun y=>wayOf y.1),MapK encS mid M c] m
def IsP (k:Fr):SProp:=fun m=>m=k
def TreeX (θ:TTys) (d:Fr) (b:Nat) (s:Nat) (L:List LeafT):SProp:=fun m=>∃ k,Sat [IsP k,TreeP θ d k b s L] m
def TreeV (θ:TTys) (d:Fr) (b:Nat) (s:Nat) (L:List LeafT) (v:Value) (xs:List UInt8):SProp:=fun m=>∃ k,(∃ q,Cov q d k∧Arr Rp.u8 q v xs)∧Sat [IsP k,TreeP θ d k b s L] m
abbrev Rp.nat:Rp Nat:=Rp.comap (fun n:Nat=>(n:Int)) Rp.i64
def TreeA (h:Fr) (b:Nat) (s:Nat) (L:List LeafT):Prop:=∃ aL cL aW cW mid,At h ⟨b,0,none⟩ [.slice aL L.length cL,.slice aW L.length cW,.int .i64 (s:Int),.map (some mid)]∧Arr LeafRp h (.slice aL L.length cL) L∧Arr Rp.str h (.slice aW L.length cW) (L.map fun y=>wayOf y.1)
theorem TreeA.mono {h h' :Fr} {b s:Nat} {L:List LeafT} (e:h.sub h'):TreeA h b s L→TreeA h' b s L:=fun ⟨a,c,x,y,mid,h1,h2,h3⟩=>⟨a,c,x,y,mid,h1.mono e,h2.mono e,h3.mono e⟩
theorem TreeP.a {θ:TTys} {d k g:Fr} {b s:Nat} {L:List LeafT} {m:Fr} (hd:d.sub g) (hk:k.sub g) (hm:m.sub g):TreeP θ d k b s L m→TreeA g b s L:=fun ⟨vL,vW,mid,M,c,_,hs⟩=>by
 obtain ⟨m1,_,_,s1,t1,o,m2,_,_,s2,t2,xL,m3,_,_,s3,_,xW,_⟩:=hs;have h1:m2.sub m:=Fr.sub_trans s2 t1;have h2:m3.sub m:=Fr.sub_trans s3 (Fr.sub_trans t2 t1);obtain ⟨aL,cL,rfl⟩:=xL.shape;obtain ⟨aW,cW,hw⟩:=xW.shape;rw [List.length_map] at hw;subst hw;refine ⟨aL,cL,aW,cW,mid,((obj_at o).mono s1).mono hm,?_,(xW.arr.mono h2).mono hm⟩;exact ((xL.arr.mono h1).mono hm).cv_off hd hk
theorem TreeX.a {θ:TTys} {d g:Fr} {b s:Nat} {L:List LeafT} {m:Fr} (hd:d.sub g) (hm:m.sub g):TreeX θ d b s L m→TreeA g b s L:=fun ⟨k,h⟩=>by
 obtain ⟨m1,_,_,s1,t1,o,m2,_,_,s2,t2,xL,_⟩:=h
 cases (o:m1=k)
 exact TreeP.a hd (Fr.sub_trans s1 hm) (Fr.sub_trans (Fr.sub_trans s2 t1) hm) xL
theorem own_none {α:Type} {T:Rp α} {e:TypeId}:OwnP T e (.slice none 0 0) ([]:List α) Fr.emp:=⟨[],trivial,(Nat.zero_mul _).symm,.inl ⟨rfl,rfl⟩⟩
theorem tree_new {θ:TTys} {b mid s:Nat} {m:Fr} (h:Sat [obj b θ.tree [.slice none 0 0,.slice none 0 0,.int .i64 (s:Int),.map (some mid)],MapK encS mid [] 0] m):TreeX θ Fr.emp b s [] m:=by
 obtain ⟨m1,m2,d,s1,s2,o,m3,m4,d2,s3,s4,x,_⟩:=h;refine ⟨Fr.emp,Fr.emp,m,Fr.emp_disj _,Fr.emp_sub _,Fr.sub_refl _,rfl,m,Fr.emp,Fr.disj_symm (Fr.emp_disj _),Fr.sub_refl _,Fr.emp_sub _,⟨.slice none 0 0,.slice none 0 0,mid,[],0,⟨WfK.nil,SumsOk.nil _ _ _⟩,?_⟩,trivial⟩;exact ⟨m1,m2,d,s1,s2,o,Fr.emp,m2,Fr.emp_disj _,Fr.emp_sub _,Fr.sub_refl _,own_none,Fr.emp,m2,Fr.emp_disj _,Fr.emp_sub _,Fr.sub_refl _,own_none,m3,m4,d2,s3,s4,x,trivial⟩
structure TreeO (d:Fr) (L:List LeafT) where
 k:Fr
 vL:Value
 vW:Value
 mid:Nat
 M:List (KEnt (List UInt8))
 c:Nat
 wf:WfK M c
 ok:SumsOk d k L M
abbrev TreeO.ws {d:Fr} {L:List LeafT} (θ:TTys) (b s:Nat) (x:TreeO d L):List SProp :=
 [IsP x.k,obj b θ.tree [x.vL,x.vW,.int .i64 (s:Int),.map (some x.mid)],OwnP (Rp.cv d x.k LeafRp) θ.leaf x.vL L,OwnP Rp.str θ.str x.vW (L.map fun y=>wayOf y.1),MapK encS x.mid x.M x.c]
theorem TreeX.opn {θ:TTys} {d:Fr} {b s:Nat} {L:List LeafT} {m:Fr}:TreeX θ d b s L m→∃ x:TreeO d L,Sat (x.ws θ b s) m
 |⟨k,m1,m2,d1,s1,s2,o,_,_,_,s3,_,⟨vL,vW,mid,M,c,⟨h1,h2⟩,hs⟩,_⟩=>⟨⟨k,vL,vW,mid,M,c,h1,h2⟩,m1,m2,d1,s1,s2,o,Sat.mono s3 hs⟩
theorem TreeX.fold {θ:TTys} {d:Fr} {b s:Nat} {L:List LeafT} {m:Fr} (x:TreeO d L):Sat (x.ws θ b s) m→TreeX θ d b s L m
 |⟨m1,m2,d1,s1,s2,o,hs⟩=>⟨x.k,m1,m2,d1,s1,s2,o,m2,Fr.emp,Fr.disj_symm (Fr.emp_disj _),Fr.sub_refl _,Fr.emp_sub _,⟨x.vL,x.vW,x.mid,x.M,x.c,⟨x.wf,x.ok⟩,hs⟩,trivial⟩
theorem TreeV.fold {θ:TTys} {d:Fr} {b s:Nat} {L:List LeafT} {m:Fr} (x:TreeO d L) {p:List UInt8} {v:Value} (e:getK x.M p=some v):Sat (x.ws θ b s) m→TreeV θ d b s L v (treeSum L p) m
 |⟨m1,m2,d1,s1,s2,o,hs⟩=>⟨x.k,(x.ok p v e).2,m1,m2,d1,s1,s2,o,m2,Fr.emp,Fr.disj_symm (Fr.emp_disj _),Fr.sub_refl _,Fr.emp_sub _,⟨x.vL,x.vW,x.mid,x.M,x.c,⟨x.wf,x.ok⟩,hs⟩,trivial⟩
attribute [local irreducible] treeSum
abbrev TreeO.wsP {d:Fr} {L:List LeafT} (θ:TTys) (b s:Nat) (x:TreeO d L) (e:TypeId) (v:Value) (p xs:List UInt8):List SProp :=
 [IsP x.k,OwnP Rp.u8 e v xs,obj b θ.tree [x.vL,x.vW,.int .i64 (s:Int),.map (some x.mid)],OwnP (Rp.cv d x.k LeafRp) θ.leaf x.vL L,OwnP Rp.str θ.str x.vW (L.map fun y=>wayOf y.1),MapK encS x.mid (putK x.M x.c p v) (clkK x.M x.c p)]
theorem TreeV.put {θ:TTys} {d:Fr} {b s:Nat} {L:List LeafT} {m:Fr} {e:TypeId} (x:TreeO d L) {p:List UInt8} {v:Value} {xs:List UInt8} (hp:pathOk p) (hx:xs=treeSum L p)
  (h:Sat (x.wsP θ b s e v p xs) m) :
  TreeV θ d b s L v (treeSum L p) m:=by
 subst hx;obtain ⟨n1,r1,d1,s1,s2,o1,n2,m2,d2,t1,t2,o2,hs⟩:=h;have e1:n1=x.k:=o1;have dm:(n1.add n2).disj m2:=Fr.disj_add (fun i=>(d1 i).imp id fun q=>by
  cases c:m2 i with
  |none=>rfl
  |some o=>rw [t2 i o c] at q;cases q) d2
 have d12:n1.disj n2:=fun i=>(d1 i).imp id fun q=>by
  cases c:n2 i with
  |none=>rfl
  |some o=>rw [t1 i o c] at q;cases q
 have sm:(n1.add n2).sub m:=Fr.add_sub s1 (Fr.sub_trans t1 s2);have hk:x.k.sub (n1.add n2):=e1 ▸ Fr.sub_add_left n1 n2;have hv:∃ q,Cov q d (n1.add n2)∧Arr Rp.u8 q v (treeSum L p):=⟨n1.add n2,Cov.own _ _,o2.arr.mono (Fr.sub_add_right d12)⟩;have hs' :TreeP θ d (n1.add n2) b s L m2:=by
  obtain ⟨a1,a2,da,sa,sb,q1,b1,b2,db,sc,sd,q2,q3⟩:=hs;exact ⟨x.vL,x.vW,x.mid,putK x.M x.c p v,clkK x.M x.c p,⟨putK_wf x.wf p v,(x.ok.mono hk).put (c:=x.c) hp hv⟩,a1,a2,da,sa,sb,q1,b1,b2,db,sc,sd,q2.cv_mono hk,q3⟩
 exact ⟨n1.add n2,hv,n1.add n2,m2,dm,sm,Fr.sub_trans t2 s2,rfl,m2,Fr.emp,Fr.disj_symm (Fr.emp_disj _),Fr.sub_refl _,Fr.emp_sub _,hs',trivial⟩
theorem TreeX.lent {θ:TTys} {d g:Fr} {b s:Nat} {L:List LeafT} {m:Fr} {η:List SProp} (hd:d.sub g) (hm:g.disj m):Sat (TreeX θ d b s L::η) m→TreeA (g.add m) b s L
 |⟨_,_,_,s1,_,o,_⟩=>TreeX.a (Fr.sub_trans hd (Fr.sub_add_left _ _)) (Fr.sub_trans s1 (Fr.sub_add_right hm)) o
theorem TreeV.lent {θ:TTys} {d g:Fr} {b s:Nat} {L:List LeafT} {v:Value} {xs:List UInt8} {m:Fr} (hd:d.sub g) (hm:g.disj m):Sat [TreeV θ d b s L v xs] m→Arr Rp.u8 (g.add m) v xs
 |⟨_,_,_,s1,_,⟨k,⟨q,c,a⟩,n1,_,_,t1,_,o,_⟩,_⟩=>a.mono (c.sub (Fr.sub_trans hd (Fr.sub_add_left _ _)) (by
  have e:n1=k:=o;exact e ▸ Fr.sub_trans t1 (Fr.sub_trans s1 (Fr.sub_add_right hm))))
theorem TreeV.toX {θ:TTys} {d:Fr} {b s:Nat} {L:List LeafT} {v:Value} {xs:List UInt8} {m:Fr}:Sat [TreeV θ d b s L v xs] m→TreeX θ d b s L m
 |⟨_,_,_,s1,_,⟨k,_,n1,n2,dn,t1,t2,o,hs⟩,_⟩=>⟨k,n1,n2,dn,Fr.sub_trans t1 s1,Fr.sub_trans t2 s1,o,hs⟩
theorem list_none {α:Type} {G:Gp α} {e:TypeId} {v:Value} {m:Fr} {k:Nat} (hk:G.rp.k=k):Sat [OwnP (Rp.cells k) e v []] m→ListP G e v [] m
 |⟨m1,m2,d,s1,s2,o,_⟩=>by subst hk;exact ⟨[],m1,m2,d,s1,s2,o,m2,Fr.emp,Fr.disj_symm (Fr.emp_disj _),Fr.sub_refl _,Fr.emp_sub _,trivial,trivial⟩
theorem owned_snd {α:Type} {A:SProp} {T:Rp α} {e:TypeId} {v:Value} {xs:List α} {m:Fr} {η:List SProp} (h:Sat (A::OwnP T e v xs::η) m):Arr T m v xs:=by
 obtain ⟨_,_,_,_,s2,_,m3,_,_,s3,_,o,_⟩:=h;exact o.arr.mono (Fr.sub_trans s3 s2)
theorem Does.treeShard {P:Program} {σ:List (Nat × Value)} {g:Gr} {η ζ:List SProp} {t:TypeId} {x:Operand} {θ:TTys} {d:Fr} {b s:Nat} {L:List LeafT} (ht:flat1 P t=true) (hx:ev σ x=some (.pointer (some ⟨b,2,none⟩))) (hs:Sel η (TreeX θ d b s L) ζ) :
  Does P (.load t x) σ g η (.int .i64 (s:Int)) η:=fun o ρ w ho hk hw=>⟨w,by
 obtain ⟨_,_,_,k,_,_,s2,k1,_,_,t1,_,xk,_⟩:=hw.sel hs;obtain ⟨y,m1,m2,_,_,u2,_,m3,_,_,u3,_,o,_⟩:=TreeX.opn xk;have hb:w.heap[b]?=some (.cells [y.vL,y.vW,.int .i64 (s:Int),.map (some y.mid)].toArray θ.tree (0,0)):=s2 _ _ (t1 _ _ (u2 _ _ (u3 _ _ o)));have hc:w.cell? ⟨b,2,none⟩=some (.int .i64 (s:Int)):=by simp [World.cell?,hb]
 simp [execOp,ho,hk x _ hx,Instr.loadAt,Instr.sureAddr,loadVar,run_isAgg_flat (flat1_flat ht),hc],hw⟩
theorem ODt.loadL {P:Program} {fn:Func} {n:Nat} {R:Ending→World→Prop} {k:List Item} {σ:List (Nat × Value)} {D:List Deferred} {g:Gr} {η:List SProp} {ops:Array Oper} {l:List Nat} {i d:Nat} {t:TypeId} {x:Operand} {v:Value}
  (ho:Fires ops i n σ d (.load t x)) (_:true=true) (hdo:∀ ζ,Does P (.load t x) σ g (η++ζ) v (η++ζ)) (h:OD P fn n R ops k D g l ((d,v)::σ) η):ODx P fn n R ops k D g true (i::l) σ η :=
 ODt.loudE (K:=fun v' η' =>v' =v∧η' =η) ho rfl rfl (fun ζ o ρ w h1 h2 h3=>let ⟨w',a,b⟩:=hdo ζ o ρ w h1 h2 h3;⟨v,w',η++ζ,⟨η,⟨rfl,rfl⟩,rfl⟩,a,b⟩) (by rintro _ _ ⟨rfl,rfl⟩;exact h)
end Go.Sp
end
