/- Texts of this proof, one behind the other. -/
import Derived.ChangeArms
import Derived.DataReads
import GoSem.ClaimJoined
import Derived.Test.YtojafegjlahajaaGreatDoorQSpRange
import Derived.Laws.Strings2
import Derived.Laws.IdiomRangeMap
import Derived.Laws.Externs
set_option linter.unusedSectionVars false
section
/- Texts of this proof, one behind the other. -/
section
/- Texts of this proof. -/
namespace Go.Sp
open Go.ChangeShapes
theorem G2 (w:World) (a:Addr):Fr.cell w.fr a=w.cell? a:=by
 unfold Fr.cell World.cell? World.fr
 cases w.heap[a.block]? with
 |none=>rfl
 |some o=>cases o<;>rfl
def ag.unit:ag Unit:={ k:=0,rel:=fun _ cs _=>cs=[],len:=fun h=>by rw [h];rfl,mono:=fun _ h=>h,one:=fun h c hc=>by subst h;simp at hc }
def ag.prod {α β:Type} (T:ag α) (kF:ag β):ag (α × β) :=
 {k:=T.k+kF.k,rel:=fun h cs x=>∃ c1 c2,cs=c1++c2∧T.rel h c1 x.1∧kF.rel h c2 x.2,len:=fun ⟨c1,c2,h,a,b⟩=>by rw [h,List.length_append,T.len a,kF.len b]
  mono:=fun s ⟨c1,c2,h,a,b⟩=>⟨c1,c2,h,T.mono s a,kF.mono s b⟩
  one:=fun ⟨c1,c2,h,a,b⟩ c hc=>by
   subst h
   rcases List.mem_append.1 hc with x|x
   ·exact T.one a c x
   ·exact kF.one b c x }
def tw {H:Type} (P:Program) (t:TypeId) (d:DataW H):Prop:=∀ n∈d.weights P t,n≤reachBytes
theorem IU {H:Type} {P:Program} {e:TypeId}:∀ {ds:List (DataW H)} (_:∀ n∈DataW.weightsAll P e ds,n≤reachBytes) (i:Nat) (hi:i<ds.length),tw P e ds[i]
 |d::ds,h,0,_=>fun n hn=>h n (by simp [DataW.weightsAll];exact .inl hn)
 |d::ds,h,i+1,hi=>IU (ds:=ds) (fun n hn=>h n (by simp [DataW.weightsAll];exact .inr hn)) i (by simpa using hi)
theorem xy {H:Type} {P:Program}:∀ {ts:List TypeId} {ds:List (DataW H)} (_:∀ n∈DataW.weightsEach P ts ds,n≤reachBytes) (i:Nat) (ht:i<ts.length) (hi:i<ds.length),tw P ts[i] ds[i]
 |t::ts,d::ds,h,0,_,_=>fun n hn=>h n (by simp [DataW.weightsEach];exact .inl hn)
 |t::ts,d::ds,h,i+1,ht,hi=>xy (ts:=ts) (ds:=ds) (fun n hn=>h n (by simp [DataW.weightsEach];exact .inr hn)) i (by simpa using ht) (by simpa using hi)
def dK (P:Program) (t:TypeId) {α:Type} (T:ag α) (Q:α→Prop):Prop :=
 ∀ (H:Type) (enc:TypeId × Value→H) (w:World) (base:Nat) (spare:Nat→Bool) (held:Bool) (fuel:Nat) (cs:List Value) (x:DataW H × List MemPlace),
  DataW.trod enc P w base spare held fuel t cs=some x→tw P t x.1→∃ a,T.rel w.fr cs a∧Q a
def uo {α:Type} (Q:α→Prop) (xs:List α):Prop:=xs.length≤140737488351232∧∀ x∈xs,Q x
def mP {α:Type} (_:α):Prop:=True
theorem dK.u8 {P:Program} {t:TypeId} (ht:P.underlying t=some (.int .u8)):dK P t ag.u8 mP:=fun _ _ _ _ _ _ _ _ _ h _=>by
 obtain ⟨n,rfl,_,hw⟩:=DataW.trod_int ht h;have:0≤n∧n≤255:=by simpa [Lit.wf,IntKind.min,IntKind.max,IntKind.wrap,IntKind.bits,IntKind.signed] using hw
 refine ⟨UInt8.ofNat n.toNat,?_,trivial⟩
 show _=_
 have e:((UInt8.ofNat n.toNat).toNat:Int)=n:=by
  have:(UInt8.ofNat n.toNat).toNat=n.toNat % 256:=by simp
  omega
 rw [bH,e]
theorem dK.i64 {P:Program} {t:TypeId} (ht:P.underlying t=some (.int .i64)):dK P t ag.i64 cE:=fun _ _ _ _ _ _ _ _ _ h _=>by
 obtain ⟨n,rfl,_,hw⟩:=DataW.trod_int ht h;have:cE n:=by unfold cE;simpa [Lit.wf,IntKind.min,IntKind.max,IntKind.wrap,IntKind.bits,IntKind.signed] using hw
 exact ⟨n,⟨rfl,this⟩,this⟩
theorem dK.bool {P:Program} {t:TypeId} (ht:P.underlying t=some .bool):dK P t ag.bool mP:=fun _ _ _ _ _ _ _ _ _ h _=>by
 obtain ⟨n,rfl,_⟩:=DataW.trod_bool ht h;exact ⟨n,rfl,trivial⟩
theorem UR (s:ByteArray):str s.data.toList=s:=by cases s;rfl
theorem dK.str {P:Program} {t:TypeId} (ht:P.underlying t=some .string):dK P t ag.str (fun s=>s.length≤140737488351232):=fun _ _ _ _ _ _ _ _ _ h hl=>by
 obtain ⟨s,rfl,rfl,hs⟩:=DataW.trod_string ht h;exact ⟨s.data.toList,⟨by rw [UR],by unfold maxLen at hs;rw [Array.length_toList];exact Nat.le_trans hs (by decide)⟩,hl _ (by simp [DataW.weights])⟩
theorem Gl {α:Type} {p:Nat→α→Prop}:∀ {n:Nat} (_:∀ i,i<n→∃ x,p i x),∃ l:List α,l.length=n∧∀ i (hi:i<l.length),p i l[i]
 |0,_=>⟨[],rfl,fun i hi=>absurd hi (by simp)⟩
 |n+1,h=>by
  obtain ⟨l,h1,h2⟩:=Gl (n:=n) (fun i hi=>h i (by omega));obtain ⟨x,hx⟩:=h n (by omega);refine ⟨l++[x],by simp [h1],fun i hi=>?_⟩
  by_cases hi' :i<l.length
  ·rw [List.getElem_append_left hi'];exact h2 i hi'
  ·have:i=n:=by simp at hi;omega
   subst this;rw [List.getElem_append_right (by omega)];simpa using hx
theorem bY.Jn {α β:Type} {R:β→α→Prop}:∀ {bs:List β} {as:List α},bs.length=as.length→(∀ i (hb:i<bs.length) (ha:i<as.length),R bs[i] as[i])→bY R bs as
 |[],[],_,_=>trivial
 |_::_,[],h,_=>by simp at h
 |[],_::_,h,_=>by simp at h
 |b::bs,a::as,h,hr=>⟨hr 0 (by simp) (by simp),bY.Jn (by simpa using h) fun i hb ha=>hr (i+1) (by simp;omega) (by simp;omega)⟩
theorem Ca {α:Type} {k:Nat}:∀ {ak:List (List α)},(∀ c∈ak,c.length=k)→ak.flatten.length=ak.length*k
 |[],_=>by simp
 |c::ak,h=>by
  rw [List.flatten_cons,List.length_append,Ca (fun d hd=>h d (by simp [hd])),h c (by simp)];simp [Nat.succ_mul];omega
theorem GX {α:Type} {k:Nat} (hk:0<k):∀ {ak:List (List α)} (_:∀ c∈ak,c.length=k) (j:Nat),ak.flatten[j]?=(ak[j / k]?).bind fun c=>c[j % k]?
 |[],_,j=>by simp
 |c::ak,h,j=>by
  have hc:=h c (by simp)
  by_cases hj:j<k
  ·rw [List.flatten_cons,List.getElem?_append_left (by omega),Nat.div_eq_of_lt hj,Nat.mod_eq_of_lt hj];simp
  ·have hj' :k≤j:=by omega
   rw [List.flatten_cons,List.getElem?_append_right (by omega),hc,GX hk (fun d hd=>h d (by simp [hd]))];have e1:j / k=(j - k) / k+1:=by rw [Nat.div_eq_sub_div hk hj']
   have e2:j % k=(j - k) % k:=by rw [Nat.mod_eq_sub_mod hj']
   rw [e1,e2];simp
theorem dK.slice {P:Program} {t e:TypeId} {α:Type} {T:ag α} {Q:α→Prop} (ho:dK P e T Q) (ht:P.underlying t=some (.slice e)) (hc:P.cellsOf e=T.k) (hy:0<P.bytesOf e) (hk:0<T.k):dK P t (ag.slice T) (uo Q):=fun H enc w base spare held fuel cs x h hlt=>by
 rcases DataW.trod_slice ht h with ⟨rfl,_⟩|⟨a,len,cap,elems,rest,n,_,rfl,rfl,hb,hl,hm,hlen,hel,_,_⟩
 ·exact ⟨[],⟨_,rfl,aj.nil⟩,by simp,by simp⟩
 have hw:len*P.bytesOf e≤reachBytes∧∀ n∈DataW.weightsAll P e (elems.map (·.1)),n≤reachBytes:=by
  unfold tw at hlt;simp only [DataW.weights,ht,List.length_map,List.mem_cons,List.mem_append] at hlt;exact ⟨Nat.le_trans (Nat.mul_le_mul_right _ (by omega)) (hlt _ (.inl rfl)),fun n hn=>hlt n (.inr (.inl hn))⟩
 have wT:len≤140737488351232:=by
  have:=Nat.le_trans (Nat.le_mul_of_pos_right len hy) hw.1;unfold reachBytes at this;omega
 have each:∀ i,i<len→∃ y:List Value × α,y.1.length=T.k∧(T.rel w.fr y.1 y.2∧Q y.2)∧∀ q,q<T.k→w.cell? ((a.add (i*T.k)).add q)=y.1[q]?:=by
  intro i hi
  have h1:=hel i hi;rw [List.getElem?_eq_getElem (by omega),hc,Option.bind_eq_some_iff] at h1;obtain ⟨ds,h2,h3⟩:=h1;obtain ⟨b,hb⟩:=ho _ enc w base spare held n ds _ h3 (by have h9:=IU hw.2 i (by simp;omega);rw [List.getElem_map] at h9;exact h9);obtain ⟨_,h4,h5⟩:=World.cells?_some h2;exact ⟨(ds,b),h4,hb,h5⟩
 obtain ⟨l,h1,h2⟩:=Gl each;have hQ:uo Q (l.map (·.2)):=by
  refine ⟨by simp;omega,fun y hy=>?_⟩;obtain ⟨z,hz,rfl⟩:=List.mem_map.1 hy;obtain ⟨i,hi,rfl⟩:=List.mem_iff_getElem.1 hz;exact (h2 i hi).2.1.2
 refine ⟨l.map (·.2),⟨_,rfl,l.map (·.1),?_,some a,cap,?_,?_,⟨?_,fun h=>by cases h⟩,?_,?_⟩,hQ⟩
 ·refine bY.Jn (by simp) fun i hb ha=>?_
  simp only [List.getElem_map];exact (h2 i (by simpa using hb)).2.1.1
 ·simp [h1]
 ·simp [h1];omega
 ·simpa [maxLen] using hm
 ·rw [Ca (k:=T.k)]
  ·simp
  ·intro c hc
   obtain ⟨y,hy,rfl⟩:=List.mem_map.1 hc;obtain ⟨i,hi,rfl⟩:=List.mem_iff_getElem.1 hy;exact (h2 i hi).1
 ·intro j hj
  refine ⟨a,rfl,?_⟩;have hall:∀ c∈l.map (·.1),c.length=T.k:=by
   intro c hc
   obtain ⟨y,hy,rfl⟩:=List.mem_map.1 hc;obtain ⟨i,hi,rfl⟩:=List.mem_iff_getElem.1 hy;exact (h2 i hi).1
  rw [G2,← List.getElem?_eq_getElem hj,GX hk hall];have hj2:j<l.length*T.k:=by rw [Ca hall] at hj;simpa using hj
  have hi:j / T.k<l.length:=by rw [Nat.div_lt_iff_lt_mul hk];exact hj2
  have hq:j % T.k<T.k:=Nat.mod_lt _ hk;have:=(h2 _ hi).2.2 _ hq;rw [Addr.add_add,show j / T.k*T.k+j % T.k=j from by rw [Nat.mul_comm];exact Nat.div_add_mod j T.k] at this;rw [this]
  simp [List.getElem?_eq_getElem hi]
theorem dK.arr {P:Program} {t:TypeId} {α:Type} {T:ag α} {Q:List α→Prop} (ho:dK P t (ag.slice T) Q) {H:Type} {enc:TypeId × Value→H} {w:World} {base:Nat} {spare:Nat→Bool} {held:Bool} {fuel:Nat} {v:Value} {x:DataW H × List MemPlace}
  (h:DataW.trod enc P w base spare held fuel t [v]=some x) (hl:tw P t x.1):∃ a,aj T w.fr v a∧Q a:=by
 obtain ⟨a,⟨u,h1,h2⟩,hq⟩:=ho _ enc w base spare held fuel _ x h hl
 cases h1
 exact ⟨a,h2,hq⟩
def fN (P:Program) (fs:List Field) (off:Nat) {α:Type} (T:ag α) (Q:α→Prop):Prop :=
 ∀ (H:Type) (enc:TypeId × Value→H) (w:World) (base:Nat) (spare:Nat→Bool) (held:Bool) (fuel:Nat) (cs:List Value),
  (∀ f∈fs,∃ x,DataW.trod enc P w base spare held fuel f.type ((cs.drop f.offset).take (P.cellsOf f.type))=some x∧tw P f.type x.1)→cs.length=off+T.k→∃ a,T.rel w.fr (cs.drop off) a∧Q a
theorem fN.nil {P:Program} {off:Nat}:fN P [] off ag.unit mP:=fun _ _ _ _ _ _ _ cs _ h=>⟨(),by show cs.drop off=[];rw [List.drop_eq_nil_of_le];simp [ag.unit] at h;omega,trivial⟩
theorem fN.cons {P:Program} {f:Field} {fs:List Field} {off:Nat} {α β:Type} {T:ag α} {kF:ag β} {Q:α→Prop} {R:β→Prop} (ho:f.offset=off) (hc:P.cellsOf f.type=T.k) (h1:dK P f.type T Q) (h2:fN P fs (off+T.k) kF R):fN P (f::fs) off (ag.prod T kF) (fun x=>Q x.1∧R x.2) :=
 fun H enc w base spare held fuel cs h hl=>by
  obtain ⟨x,hx,hx'⟩:=h f (by simp);rw [ho,hc] at hx;obtain ⟨a,ha,pT⟩:=h1 _ _ _ _ _ _ _ _ _ hx hx';obtain ⟨b,hb,S4⟩:=h2 _ enc w base spare held fuel cs (fun g hg=>h g (by simp [hg])) (by rw [hl];simp [ag.prod];omega);exact ⟨(a,b),⟨_,_,(by rw [← List.drop_drop,List.take_append_drop]:cs.drop off=(cs.drop off).take T.k++cs.drop (off+T.k)),ha,hb⟩,pT,S4⟩
theorem dK.struct {P:Program} {t:TypeId} {fs:List Field} {α:Type} {T:ag α} {Q:α→Prop} (ho:fN P fs 0 T Q) (ht:P.underlying t=some (.struct fs.toArray)) (hc:P.cellsOf t=T.k):dK P t T Q:=fun H enc w base spare held fuel cs x h hlt=>by
 obtain ⟨xs,n,_,rfl,hl,hn,hf⟩:=DataW.trod_struct ht h;unfold tw at hlt;simp only [DataW.weights,ht] at hlt;have:=ho _ enc w base spare held n cs (fun f hf' =>by
  obtain ⟨i,hi,rfl⟩:=List.mem_iff_getElem.1 hf';have:=hf i fs[i] (by simp [hi]);have hi2:i<xs.length:=by simp at hn;omega
  rw [List.getElem?_eq_getElem hi2] at this;refine ⟨_,by simpa using this,?_⟩;have:=xy hlt i (by simpa using hi) (by simpa using hi2)
  simpa using this) (by rw [hl,hc];simp)
 simpa using this
end Go.Sp
end
section
/- Texts of this proof, one behind the other. -/
section
/- Texts of this proof. -/
namespace Go.Sp
structure bR (α:Type) where
 jb:ag α
 own:List Value→α→az
 rel:∀ {cs:List Value} {a:α} {m:Fr},own cs a m→jb.rel m cs a
theorem bY.DX {α β:Type} {R:β→α→Prop}:∀ {bs:List β} {as:List α},bY R bs as→bs.length=as.length
 |[],[],_=>rfl
 |[],_::_,h=>h.elim
 |_::_,[],h=>h.elim
 |_::_,_::_,h=>congrArg Nat.succ (bY.DX h.2)
theorem vQ {k:Nat} {h:Fr}:∀ {cs:List (List Value)} {ds:List (List Value)},bY ((ag.cells k).rel h) cs ds→cs=ds
 |[],[],_=>rfl
 |[],_::_,h=>h.elim
 |_::_,[],h=>h.elim
 |_::_,_::_,h=>by rw [h.1.1,vQ h.2]
theorem aj.j4 {α:Type} {T:ag α} {k:Nat} {h:Fr} {v:Value} {ak:List (List Value)} {xs:List α} (h1:aj (ag.cells k) h v ak) (h2:bY (T.rel h) ak xs) (hk:k=T.k):aj T h v xs:=by
 obtain ⟨ds,p,q⟩:=h1;obtain rfl:=vQ p;subst hk;exact ⟨ds,h2,by rw [← h2.DX];exact q⟩
def c_ {α:Type} (G:bR α) (e:TypeId) (v:Value) (xs:List α):az:=fun m=>∃ ak,Sat [av (ag.cells G.jb.k) e v ak,b5 G.own ak xs] m
theorem c_.arr {α:Type} {G:bR α} {e:TypeId} {v:Value} {xs:List α} {m:Fr}:c_ G e v xs m→aj G.jb m v xs:=by
 rintro ⟨ak,h1,h2,_,s1,s2,⟨ds,p,q⟩,h3,_,_,t,_,y,_⟩;have hd:=vQ p;have hy:=b5.sB (R:=fun cs a=>G.jb.rel m cs a) (k:=m) (fun b a m' z s=>G.jb.mono s (G.rel z)) y (Fr.aI t s2);refine ⟨ak,hy,?_⟩;rw [← hy.DX];subst hd;exact (q.sl).mono s1
def bR.pure {α:Type} (T:ag α):bR α:={ jb:=T,own:=fun cs a _=>T.rel Fr.emp cs a,rel:=fun h=>T.mono (Fr.c4 _) h }
def bR.row {α:Type} (T:ag α) (e:TypeId):bR (List α):={ jb:=ag.slice T,own:=fun cs xs m=>∃ v,cs=[v]∧av T e v xs m,rel:=fun ⟨v,h,x⟩=>⟨v,h,x.arr⟩ }
def bR.list {α:Type} (G:bR α) (e:TypeId):bR (List α):={ jb:=ag.slice G.jb,own:=fun cs xs m=>∃ v,cs=[v]∧c_ G e v xs m,rel:=fun ⟨v,h,x⟩=>⟨v,h,x.arr⟩ }
def bR.prod {α β:Type} (A:bR α) (B:bR β):bR (α × β) :=
 {jb:=ag.prod A.jb B.jb,own:=fun cs x m=>∃ c d,cs=c++d∧Sat [A.own c x.1,B.own d x.2] m
  rel:=fun ⟨c,d,h,z⟩=>by
   obtain ⟨h1,h2,_,s1,s2,p,q⟩:=Sat.two.1 z;obtain ⟨h3,t,u⟩:=q;exact ⟨c,d,h,A.jb.mono s1 (A.rel p),B.jb.mono (Fr.aI t s2) (B.rel u)⟩ }
def bR.unit:bR Unit:={ jb:=ag.unit,own:=fun cs _ _=>cs=[],rel:=fun h=>h }
theorem bR.SA {α β:Type} {T:ag α} {B:bR β} {c d:List Value} {x:α} {y:β} {m:Fr} (h:T.rel Fr.emp c x) (h2:B.own d y m):(bR.prod (bR.pure T) B).own (c++d) (x,y) m :=
 ⟨c,d,rfl,Fr.emp,m,Fr.dW _,Fr.c4 _,Fr.bW _,h,m,Fr.emp,Fr.eX (Fr.dW _),Fr.bW _,Fr.c4 _,h2,trivial⟩
section
variable {ro:Option Nat} {P:Program} {fn:Func} {n:Nat} {R:Ending→World→Prop} {k:List Item} {σ:List (Nat × Value)} {D:List Deferred} {g:bh} {U ζ aN:List az} {ops:Array Oper} {L:List Nat} {todo:List Item}
 {α:Type} {G:bR α} {e:TypeId} {v:Value} {xs:List α}
theorem Ue {m:Fr} (h:Sat U m):Sat (c_ G e (.slice none 0 0) []::U) m:=by
 refine ⟨Fr.emp,m,Fr.dW _,Fr.c4 _,Fr.bW _,⟨[],Fr.emp,Fr.emp,Fr.dW _,Fr.c4 _,Fr.c4 _,?_,Fr.emp,Fr.emp,Fr.dW _,Fr.c4 _,Fr.c4 _,trivial,trivial⟩,h⟩;exact zZ _
theorem S.tC (G:bR α) (e:TypeId) (h:S ro P fn n R todo σ D g (c_ G e (.slice none 0 0) []::U)):S ro P fn n R todo σ D g U:=S.imp' (fun _=>Ue) h
theorem S.xz {k' :Nat} (hk:G.jb.k=k') (s:bf U (c_ G e v xs) ζ) (h:∀ ak,ak.length=xs.length→S ro P fn n R todo σ D g (av (ag.cells k') e v ak::b5 G.own ak xs::ζ)):S ro P fn n R todo σ D g U:=by
 subst hk;exact S.cu s (S.sK (A:=fun ak m=>Sat [av (ag.cells G.jb.k) e v ak,b5 G.own ak xs] m) fun ak =>
  S.wj (fun _ x=>x) (S.lF (B:=b5 G.own ak xs) (.there .here) (p:=ak.length=xs.length) (fun _ x=>x.len) fun hl=>h ak hl))
theorem Ud {k' :Nat} (hk:G.jb.k=k') {ak:List (List Value)} (s1:bf U (av (ag.cells k') e v ak) ζ) (s2:bf ζ (b5 G.own ak xs) aN) {m:Fr} (h:Sat U m):Sat (c_ G e v xs::aN) m:=by
 subst hk;exact Sat.DQ (A:=av (ag.cells G.jb.k) e v ak) (B:=b5 G.own ak xs) (fun _ x=>⟨ak,x⟩) (Sat.fe (fun _ y=>y) (fun _ y=>Sat.perm s2.perm y) (Sat.perm s1.perm h))
theorem S.Rz {k' :Nat} (hk:G.jb.k=k') {ak:List (List Value)} (s1:bf U (av (ag.cells k') e v ak) ζ) (s2:bf ζ (b5 G.own ak xs) aN) (h:S ro P fn n R todo σ D g (c_ G e v xs::aN)):S ro P fn n R todo σ D g U :=
 S.imp' (fun _=>Ud hk s1 s2) h
theorem S.xA {k' :Nat} (hk:G.jb.k=k') {ak:List (List Value)} {cs:List Value} {a:α} {cN j8:List az} (s1:bf U (av (ag.cells k') e v (ak++[cs])) ζ) (s2:bf ζ (b5 G.own ak xs) cN) (s3:bf cN (G.own cs a) j8) (h:S ro P fn n R todo σ D g (c_ G e v (xs++[a])::j8)):S ro P fn n R todo σ D g U :=
 S.cu s1 (S.each (.there s2) (.there s3) (S.Rz hk (.there .here) .here h))
end
theorem af.cr {P:Program} {fn:Func} {n:Nat} {R:Ending→World→Prop} {k:List Item} {σ:List (Nat × Value)} {D:List Deferred} {g:bh} {U:List az} {ops:Array Oper} {l:List Nat} {i d:Nat} {t:TypeId} {x:Operand} {v:Value}
  (ho:bJ ops i n σ d (.load t x)) (hd:eu ops [i] l=true) (de:∀ ζ,aD P (.load t x) σ g (U++ζ) v (U++ζ)) (h:af P fn n R ops k D g l ((d,v)::σ) U):af P fn n R ops k D g (i::l) σ U :=
 .fU (K:=fun v' ax =>v' =v∧ax =U) ho rfl hd (fun ζ o ρ w h1 h2 h3=>let ⟨w',a,b⟩:=de ζ o ρ w h1 h2 h3;⟨v,w',U++ζ,⟨U,⟨rfl,rfl⟩,rfl⟩,a,b⟩) (by rintro _ _ ⟨rfl,rfl⟩;exact h)
theorem ay.post {P:Program} {f:FuncId} {args:Array Value} {r:Fr} {U:List az} {Post Post' :Ending→List az→Prop} (h:ay P f args r U Post) (hp:∀ e ax,Post e ax →∀ w g,Holds w g ax →∃ AS,Post' e AS ∧Holds w g AS):ay P f args r U Post' :=
 fun g hr w hw=>(h g hr w hw).mono fun e w' ⟨ax,x,y⟩=>hp e ax x w' g y
theorem aM.imp {K K' :Value→List az→Prop} (h:∀ v U,K v U→K' v U):∀ e U,aM K e U→aM K' e U
 |.returned v,U,x=>h v U x
 |.panicked _,_,x=>x.elim
 |.outgrown,_,x=>x.elim
theorem Sat.unpack {ws ζ:List az} {A:az} (hA:∀ m,A m→Sat ws m) {m:Fr} (h:Sat (A::ζ) m):Sat (ws++ζ) m:=by
 obtain ⟨_,_,d,s1,s2,x,y⟩:=h;exact Sat.mono (Fr.hG s1 s2) (Sat.append d (hA _ x) y)
theorem Holds.sK {w:World} {g:bh} {ζ:List az} {α:Type} {A:α→az} (h:Holds w g ((fun m=>∃ x,A x m)::ζ)):∃ x,Holds w g (A x::ζ):=by
 obtain ⟨p,q,rr,k,d,s1,s2,k1,k2,kd,t1,t2,⟨x,hx⟩,y⟩:=h;exact ⟨x,p,q,rr,k,d,s1,s2,k1,k2,kd,t1,t2,hx,y⟩
end Go.Sp
end
section
/- Texts of this proof, one behind the other. -/
section
/- Texts of this proof. -/
namespace Go.Sp
section
variable {ro:Option Nat} {P:Program} {fn:Func} {n:Nat} {R:Ending→World→Prop} {k:List Item} {σ:List (Nat × Value)} {D:List Deferred} {g:bh} {U:List az} {ops:Array Oper} {i d:Nat} {l:List Nat} {t:TypeId} {x:Operand}
theorem US (xs:List UInt8) (a b:Nat):(str xs).extract a b=str ((xs.take b).drop a):=by
 have:=ByteArray.extract_mk xs a b;unfold str;rw [this,List.drop_take]
theorem Kq {xs:List UInt8} {lo hi:Option Operand} {a b:Nat} {kl kh:IntKind} (ht:P.underlying t=some .string) (hx:aA σ x=some (.string (str xs)))
  (hlo:∀ y,lo=some y→aA σ y=some (.int kl (a:Int))) (zj :lo=none→a=0) (hhi:∀ y,hi=some y→aA σ y=some (.int kh (b:Int))) (wQ :hi=none→b=xs.length)
  (hab:a≤b) (hb:b≤xs.length):∀ U,aD P (.slice t x lo hi none) σ g U (.string (str ((xs.take b).drop a))) U:=fun U=>.run fun o ρ w ho hk=>by
 have hsz:=si xs;have e1:(a:Int)≤(b:Int):=by omega
 have hex:=US xs a b
 cases lo with
 |none =>
  have:=zj rfl;subst this
  cases hi with
  |none=>have:=wQ rfl;subst this;simp [execOp,ho,hk x _ hx,Instr.sliceAt,run_underlying ht,Instr.slice,Instr.sliceBounds,hsz,hex]
  |some y =>
   simp [execOp,ho,hk x _ hx,hk y _ (hhi y rfl),Instr.sliceAt,run_underlying ht,Instr.slice,Instr.sliceBounds,Instr.sliceBound,asIntOf,hsz,hb,hex]
 |some z =>
  cases hi with
  |none=>have:=wQ rfl;subst this;simp [execOp,ho,hk x _ hx,hk z _ (hlo z rfl),Instr.sliceAt,run_underlying ht,Instr.slice,Instr.sliceBounds,Instr.sliceBound,asIntOf,hsz,hab,hex]
  |some y =>
   simp [execOp,ho,hk x _ hx,hk z _ (hlo z rfl),hk y _ (hhi y rfl),Instr.sliceAt,run_underlying ht,Instr.slice,Instr.sliceBounds,Instr.sliceBound,asIntOf,hsz,hab,hb,hex]
theorem O.Kp {xs:List UInt8} {kb:IntKind} {nG:Int} {b:Nat} {y:Operand} (ho:bJ ops i n σ d (.slice t x none (some y) none)) (ht:P.underlying t=some .string) (hx:aA σ x=some (.string (str xs))) (hy:aA σ y=some (.int kb nG)) (hz:nG=(b:Int)) (hb:b≤xs.length)
  (h:O ro P fn n R ops l k ((d,.string (str (xs.take b)))::σ) D g U):O ro P fn n R ops (i::l) k σ D g U:=by
 subst hz;have:=Kq (P:=P) (σ:=σ) (g:=g) (kl:=.i64) (kh:=kb) (a:=0) (b:=b) ht hx (lo:=none) (hi:=some y) (fun _ h=>nomatch h) (fun _=>rfl) (fun _ h=>by cases h;exact hy) (fun h=>nomatch h) (Nat.zero_le _) hb U;exact O.op ho this h
theorem O.UQ {xs:List UInt8} {ka:IntKind} {p9:Int} {a:Nat} {y:Operand} (ho:bJ ops i n σ d (.slice t x (some y) none none)) (ht:P.underlying t=some .string) (hx:aA σ x=some (.string (str xs))) (hy:aA σ y=some (.int ka p9)) (hz:p9=(a:Int)) (ha:a≤xs.length)
  (h:O ro P fn n R ops l k ((d,.string (str (xs.drop a)))::σ) D g U):O ro P fn n R ops (i::l) k σ D g U:=by
 subst hz;have:=Kq (P:=P) (σ:=σ) (g:=g) (kl:=ka) (kh:=.i64) (a:=a) (b:=xs.length) ht hx (lo:=some y) (hi:=none) (fun _ h=>by cases h;exact hy) (fun h=>nomatch h) (fun _ h=>nomatch h) (fun _=>rfl) ha (Nat.le_refl _) U;rw [List.take_length] at this;exact O.op ho this h
end
end Go.Sp
end
section
/- Texts of this proof, one behind the other. -/
section
/- Texts of this proof. -/
namespace Go.Sp
section marks
variable {α:Type} (f:Int→Int→α)
def D5 (k n:Nat):List α:=(List.range n).map fun (i:Nat)=>f (k:Int) (i:Int)
@[simp] theorem Ya (k n:Nat):(D5 f k n).length=n:=by simp [D5]
def I5 (k n i:Nat):List α:=(List.range i).map fun (q:Nat)=>f (k:Int) ((n:Int)+(q:Int))
@[simp] theorem Yc (k n i:Nat):(I5 f k n i).length=i:=by simp [I5]
def I4 (j n i:Nat):List α:=(List.range i).map fun (q:Nat)=>f ((j:Int)+(n:Int)) (q:Int)
@[simp] theorem Yb (j n i:Nat):(I4 f j n i).length=i:=by simp [I4]
def I2 (ns:List Nat) (k:Nat):List (List α):=(List.range k).map fun j=>D5 f j (ns[j]?.getD 0)
@[simp] theorem X_ (ns:List Nat) (k:Nat):(I2 f ns k).length=k:=by simp [I2]
end marks
section
variable {ro:Option Nat} {P:Program} {fn:Func} {n:Nat} {R:Ending→World→Prop} {todo:List Item} {σ:List (Nat × Value)} {D:List Deferred} {g:bh} {U ζ aN Zi:List az} {α:Type} {T:ag α} {K:Nat} {e:TypeId} {v u:Value} {xs ys:List α}
end
theorem b5.mono {β α:Type} {A:β→α→az} {m k:Fr} (s:m.sub k):∀ {bs:List β} {as:List α},b5 A bs as m→b5 A bs as k
 |[],[],_=>trivial
 |[],_::_,h=>h.elim
 |_::_,[],h=>h.elim
 |_::_,_::_,h=>Sat.mono s h
theorem b5.app {β α:Type} {A:β→α→az}:∀ {bs:List β} {as:List α} {bs' :List β} {as' :List α} {m:Fr},Sat [b5 A bs as,b5 A bs' as'] m→b5 A (bs++bs') (as++as') m
 |[],[],bs',as',m,h=>by
  obtain ⟨_,_,_,_,s2,_,h3,_,_,t,_,y,_⟩:=h;exact b5.mono (Fr.aI t s2) y
 |[],_::_,_,_,_,h=>by obtain ⟨_,_,_,_,_,x,_⟩:=h;exact x.elim
 |_::_,[],_,_,_,h=>by obtain ⟨_,_,_,_,_,x,_⟩:=h;exact x.elim
 |b::bs,a::as,bs',as',m,h=>by
  obtain ⟨h1,h2,d,s1,s2,x,y⟩:=h;have x' :Sat [A b a,b5 A bs as] h1:=x;obtain ⟨k1,k2,kd,t1,t2,p,aR,pP,XT,u1,u2,q,_⟩:=x'
  show Sat [A b a,b5 A (bs++bs') (as++as')] m
  have d1:aR.cI h2:=Fr.fH d (Fr.aI u1 t2) (Fr.bW _);refine ⟨k1,aR.add h2,Fr.rj (Fr.fH kd (Fr.bW _) u1) (Fr.fH d t1 (Fr.bW _)),Fr.aI t1 s1,Fr.hG (Fr.aI (Fr.aI u1 t2) s1) s2,p,aR.add h2,Fr.emp,Fr.eX (Fr.dW _),Fr.bW _,Fr.c4 _,?_,trivial⟩;exact b5.app ⟨aR,h2,d1,Fr.cw _ _,Fr.dA d1,q,y⟩
end Go.Sp
end
section
/- Texts of this proof. -/
namespace Go.Sp
theorem ag.rel.mono {α:Type} {T:ag α} {h k:Fr} {cs:List Value} {x:α} (r:T.rel h cs x) (s:h.sub k):T.rel k cs x:=T.mono s r
def I6 {α:Type} (f:Int→α) (n:Nat):List α:=(List.range n).map fun (i:Nat)=>f (i:Int)
@[simp] theorem Yd {α:Type} (f:Int→α) (n:Nat):(I6 f n).length=n:=by simp [I6]
theorem bR.xD {α β:Type} {T:ag α} {B:bR β} {c d:List Value} {x:α} {y:β} {W:List az} (h:T.rel Fr.emp c x) (hB:∀ m,Sat W m→B.own d y m):∀ m,Sat W m→(bR.prod (bR.pure T) B).own (c++d) (x,y) m:=fun m s=>bR.SA h (hB m s)
theorem bR.zO {α β:Type} {A:bR α} {B:bR β} {c d:List Value} {x:α} {y:β} {w:az} {W:List az} (hA:∀ m,w m→A.own c x m) (hB:∀ m,Sat W m→B.own d y m):∀ m,Sat (w::W) m→(bR.prod A B).own (c++d) (x,y) m :=
 fun _ ⟨k1,k2,dj,s1,s2,o,st⟩=>⟨c,d,rfl,k1,k2,dj,s1,s2,hA _ o,k2,Fr.emp,Fr.eX (Fr.dW _),Fr.bW _,Fr.c4 _,hB _ st,trivial⟩
end Go.Sp
end
end
end
end
end
section
/- Texts of this proof, one behind the other. -/
section
/- Texts of this proof. -/
set_option linter.unusedVariables false
namespace Go.Sp
structure q5 where
 u8:TypeId
 int:TypeId
 bytes:TypeId
 dot:TypeId
 Am:TypeId
 leaf:TypeId
 stub:TypeId
 node:TypeId
 prf:TypeId
 root:TypeId
 WN:TypeId
 WO:TypeId
 held:TypeId
def byteOf (z:Int):UInt8:=UInt8.ofNat (z % 256).toNat
theorem KU (z:Int):Value.int .u8 (IntKind.u8.wrap z)=bH (byteOf z):=by
 rw [bH,KV];have:((byteOf z).toNat:Int)=z % 256:=by simp [byteOf];omega
 rw [this]
def RM (k i:Int):List UInt8:=[35,byteOf k,byteOf (k.fdiv (2 ^ min (8:Int).toNat IntKind.i64.bits)),byteOf (k.fdiv (2 ^ min (16:Int).toNat IntKind.i64.bits)),47,byteOf i,byteOf (i.fdiv (2 ^ min (8:Int).toNat IntKind.i64.bits)),byteOf (i.fdiv (2 ^ min (16:Int).toNat IntKind.i64.bits))]
@[simp] theorem X9 (k i:Int):(RM k i).length=8:=rfl
abbrev dn:Type:=Int × Int × Unit
abbrev dm:ag dn:=ag.prod ag.i64 (ag.prod ag.i64 (ag.unit))
theorem dm.open {h:Fr} {cs:List Value} {x:dn} (r:dm.rel h cs x):cs=[.int .i64 x.1,.int .i64 x.2.1]∧cE x.1∧cE x.2.1:=by
 obtain ⟨c0,d0,rfl,jr,r⟩:=r;obtain ⟨c1,d1,rfl,r1,r⟩:=r;obtain rfl:d1=[]:=r;obtain ⟨rfl,h0⟩:=jr;obtain ⟨rfl,h1⟩:=r1;exact ⟨rfl,h0,h1⟩
theorem dm.mk {h:Fr} {x0:Int} {x1:Int} (h0:cE x0) (h1:cE x1):dm.rel h [.int .i64 x0,.int .i64 x1] (x0,x1,()) :=
 ⟨[.int .i64 x0],[.int .i64 x1],rfl,⟨rfl,h0⟩,⟨[.int .i64 x1],[],rfl,⟨rfl,h1⟩,rfl⟩⟩
theorem SS:dm.Pure:=fun _ _ _ h=>h
abbrev aQ:Type:=(List UInt8) × Int × Int × (List dn) × Bool × (List UInt8) × (List UInt8) × Unit
abbrev dc:ag aQ:=ag.prod ag.str (ag.prod ag.i64 (ag.prod ag.i64 (ag.prod (ag.slice dm) (ag.prod ag.bool (ag.prod (ag.slice ag.u8) (ag.prod (ag.slice ag.u8) (ag.unit)))))))
theorem dc.open {h:Fr} {cs:List Value} {x:aQ} (r:dc.rel h cs x):∃ v3 v5 v6,cs=[.string (str x.1),.int .i64 x.2.1,.int .i64 x.2.2.1,v3,.bool x.2.2.2.2.1,v5,v6]∧x.1.length≤9223372036854775807∧cE x.2.1∧cE x.2.2.1∧aj dm h v3 x.2.2.2.1∧aj ag.u8 h v5 x.2.2.2.2.2.1∧aj ag.u8 h v6 x.2.2.2.2.2.2.1:=by
 obtain ⟨c0,d0,rfl,jr,r⟩:=r;obtain ⟨c1,d1,rfl,r1,r⟩:=r;obtain ⟨c2,d2,rfl,r2,r⟩:=r;obtain ⟨c3,d3,rfl,r3,r⟩:=r;obtain ⟨gL,d4,rfl,Ez,r⟩:=r;obtain ⟨dM,d5,rfl,S5,r⟩:=r;obtain ⟨dD,d6,rfl,S6,r⟩:=r;obtain rfl:d6=[]:=r;obtain ⟨rfl,h0⟩:=jr;obtain ⟨rfl,h1⟩:=r1;obtain ⟨rfl,h2⟩:=r2;obtain ⟨v3,rfl,h3⟩:=r3;obtain rfl:gL=[.bool x.2.2.2.2.1]:=Ez;obtain ⟨v5,rfl,h5⟩:=S5;obtain ⟨v6,rfl,h6⟩:=S6;exact ⟨v3,v5,v6,rfl,h0,h1,h2,h3,h5,h6⟩
theorem dc.sh {h:Fr} {cs:List Value} {x:aQ} (r:dc.rel h cs x):∃ a3 a5 a6 c3 dM dD,cs=[.string (str x.1),.int .i64 x.2.1,.int .i64 x.2.2.1,.slice a3 x.2.2.2.1.length c3,.bool x.2.2.2.2.1,.slice a5 x.2.2.2.2.2.1.length dM,.slice a6 x.2.2.2.2.2.2.1.length dD]∧x.1.length≤9223372036854775807∧cE x.2.1∧cE x.2.2.1∧aj dm h (.slice a3 x.2.2.2.1.length c3) x.2.2.2.1∧aj ag.u8 h (.slice a5 x.2.2.2.2.2.1.length dM) x.2.2.2.2.2.1∧aj ag.u8 h (.slice a6 x.2.2.2.2.2.2.1.length dD) x.2.2.2.2.2.2.1:=by
 obtain ⟨v3,v5,v6,rfl,h0,h1,h2,h3,h5,h6⟩:=dc.open r;obtain ⟨a3,c3,rfl⟩:=h3.shape;obtain ⟨a5,dM,rfl⟩:=h5.shape;obtain ⟨a6,dD,rfl⟩:=h6.shape;exact ⟨a3,a5,a6,c3,dM,dD,rfl,h0,h1,h2,h3,h5,h6⟩
theorem dc.mk {h:Fr} {x0:List UInt8} {x1:Int} {cD:Int} {eF:List dn} {v3:Value} {cT:Bool} {eR:List UInt8} {v5:Value} {eS:List UInt8} {v6:Value} (h0:x0.length≤9223372036854775807) (h1:cE x1) (h2:cE cD) (h3:aj dm h v3 eF) (h5:aj ag.u8 h v5 eR) (h6:aj ag.u8 h v6 eS):dc.rel h [.string (str x0),.int .i64 x1,.int .i64 cD,v3,.bool cT,v5,v6] (x0,x1,cD,eF,cT,eR,eS,()) :=
 ⟨[.string (str x0)],[.int .i64 x1,.int .i64 cD,v3,.bool cT,v5,v6],rfl,⟨rfl,h0⟩,⟨[.int .i64 x1],[.int .i64 cD,v3,.bool cT,v5,v6],rfl,⟨rfl,h1⟩,⟨[.int .i64 cD],[v3,.bool cT,v5,v6],rfl,⟨rfl,h2⟩,⟨[v3],[.bool cT,v5,v6],rfl,⟨v3,rfl,h3⟩,⟨[.bool cT],[v5,v6],rfl,rfl,⟨[v5],[v6],rfl,⟨v5,rfl,h5⟩,⟨[v6],[],rfl,⟨v6,rfl,h6⟩,rfl⟩⟩⟩⟩⟩⟩⟩
abbrev eH (dx:q5):bR aQ:=bR.prod (bR.pure ag.str) (bR.prod (bR.pure ag.i64) (bR.prod (bR.pure ag.i64) (bR.prod (bR.row dm dx.dot) (bR.prod (bR.pure ag.bool) (bR.prod (bR.row ag.u8 dx.u8) (bR.prod (bR.row ag.u8 dx.u8) (bR.unit)))))))
theorem eH.mk {dx:q5} {m:Fr} {x0:List UInt8} {x1:Int} {cD:Int} {eF:List dn} {v3:Value} {cT:Bool} {eR:List UInt8} {v5:Value} {eS:List UInt8} {v6:Value} (h0:x0.length≤9223372036854775807) (h1:cE x1) (h2:cE cD) (s:Sat [av dm dx.dot v3 eF,av ag.u8 dx.u8 v5 eR,av ag.u8 dx.u8 v6 eS] m):(bR.prod (bR.pure ag.str) (bR.prod (bR.pure ag.i64) (bR.prod (bR.pure ag.i64) (bR.prod (bR.row dm dx.dot) (bR.prod (bR.pure ag.bool) (bR.prod (bR.row ag.u8 dx.u8) (bR.prod (bR.row ag.u8 dx.u8) (bR.unit)))))))).own [.string (str x0),.int .i64 x1,.int .i64 cD,v3,.bool cT,v5,v6] (x0,x1,cD,eF,cT,eR,eS,()) m :=
 bR.xD (T:=ag.str) (c:=[.string (str x0)]) ⟨rfl,h0⟩ (bR.xD (T:=ag.i64) (c:=[.int .i64 x1]) ⟨rfl,h1⟩<|bR.xD (T:=ag.i64) (c:=[.int .i64 cD]) ⟨rfl,h2⟩<|bR.zO (A:=(bR.row dm dx.dot)) (c:=[v3]) (fun _ o=>⟨_,rfl,o⟩)<|bR.xD (T:=ag.bool) (c:=[.bool cT]) rfl<|bR.zO (A:=(bR.row ag.u8 dx.u8)) (c:=[v5]) (fun _ o=>⟨_,rfl,o⟩)<|bR.zO (A:=(bR.row ag.u8 dx.u8)) (c:=[v6]) (fun _ o=>⟨_,rfl,o⟩)<|fun _ _=>rfl) m s
abbrev aH:Type:=(List UInt8) × (List aQ) × Unit
abbrev cq:ag aH:=ag.prod ag.str (ag.prod (ag.slice dc) (ag.unit))
theorem cq.open {h:Fr} {cs:List Value} {x:aH} (r:cq.rel h cs x):∃ v1,cs=[.string (str x.1),v1]∧x.1.length≤9223372036854775807∧aj dc h v1 x.2.1:=by
 obtain ⟨c0,d0,rfl,jr,r⟩:=r;obtain ⟨c1,d1,rfl,r1,r⟩:=r;obtain rfl:d1=[]:=r;obtain ⟨rfl,h0⟩:=jr;obtain ⟨v1,rfl,h1⟩:=r1;exact ⟨v1,rfl,h0,h1⟩
theorem cq.sh {h:Fr} {cs:List Value} {x:aH} (r:cq.rel h cs x):∃ a1 c1,cs=[.string (str x.1),.slice a1 x.2.1.length c1]∧x.1.length≤9223372036854775807∧aj dc h (.slice a1 x.2.1.length c1) x.2.1:=by
 obtain ⟨v1,rfl,h0,h1⟩:=cq.open r;obtain ⟨a1,c1,rfl⟩:=h1.shape;exact ⟨a1,c1,rfl,h0,h1⟩
theorem cq.mk {h:Fr} {x0:List UInt8} {x1:List aQ} {v1:Value} (h0:x0.length≤9223372036854775807) (h1:aj dc h v1 x1):cq.rel h [.string (str x0),v1] (x0,x1,()) :=
 ⟨[.string (str x0)],[v1],rfl,⟨rfl,h0⟩,⟨[v1],[],rfl,⟨v1,rfl,h1⟩,rfl⟩⟩
abbrev ef (dx:q5):bR aH:=bR.prod (bR.pure ag.str) (bR.prod (bR.list (eH dx) dx.Am) (bR.unit))
theorem ef.mk {dx:q5} {m:Fr} {x0:List UInt8} {x1:List aQ} {v1:Value} (h0:x0.length≤9223372036854775807) (s:Sat [c_ (eH dx) dx.Am v1 x1] m):(bR.prod (bR.pure ag.str) (bR.prod (bR.list (eH dx) dx.Am) (bR.unit))).own [.string (str x0),v1] (x0,x1,()) m :=
 bR.xD (T:=ag.str) (c:=[.string (str x0)]) ⟨rfl,h0⟩ (bR.zO (A:=(bR.list (eH dx) dx.Am)) (c:=[v1]) (fun _ o=>⟨_,rfl,o⟩)<|fun _ _=>rfl) m s
abbrev FD:Type:=(List UInt8) × (List UInt8) × Unit
abbrev dJ:Type:=UInt8 × (List UInt8) × (List UInt8) × (List aH) × Unit
abbrev ga:ag dJ:=ag.prod ag.u8 (ag.prod (ag.slice ag.u8) (ag.prod (ag.slice ag.u8) (ag.prod (ag.slice cq) (ag.unit))))
theorem ga.open {h:Fr} {cs:List Value} {x:dJ} (r:ga.rel h cs x):∃ v1 v2 v3,cs=[bH x.1,v1,v2,v3]∧aj ag.u8 h v1 x.2.1∧aj ag.u8 h v2 x.2.2.1∧aj cq h v3 x.2.2.2.1:=by
 obtain ⟨c0,d0,rfl,jr,r⟩:=r;obtain ⟨c1,d1,rfl,r1,r⟩:=r;obtain ⟨c2,d2,rfl,r2,r⟩:=r;obtain ⟨c3,d3,rfl,r3,r⟩:=r;obtain rfl:d3=[]:=r;obtain rfl:c0=[bH x.1]:=jr;obtain ⟨v1,rfl,h1⟩:=r1;obtain ⟨v2,rfl,h2⟩:=r2;obtain ⟨v3,rfl,h3⟩:=r3;exact ⟨v1,v2,v3,rfl,h1,h2,h3⟩
theorem ga.sh {h:Fr} {cs:List Value} {x:dJ} (r:ga.rel h cs x):∃ a1 a2 a3 c1 c2 c3,cs=[bH x.1,.slice a1 x.2.1.length c1,.slice a2 x.2.2.1.length c2,.slice a3 x.2.2.2.1.length c3]∧aj ag.u8 h (.slice a1 x.2.1.length c1) x.2.1∧aj ag.u8 h (.slice a2 x.2.2.1.length c2) x.2.2.1∧aj cq h (.slice a3 x.2.2.2.1.length c3) x.2.2.2.1:=by
 obtain ⟨v1,v2,v3,rfl,h1,h2,h3⟩:=ga.open r;obtain ⟨a1,c1,rfl⟩:=h1.shape;obtain ⟨a2,c2,rfl⟩:=h2.shape;obtain ⟨a3,c3,rfl⟩:=h3.shape;exact ⟨a1,a2,a3,c1,c2,c3,rfl,h1,h2,h3⟩
theorem ga.mk {h:Fr} {x0:UInt8} {x1:List UInt8} {v1:Value} {cD:List UInt8} {v2:Value} {eF:List aH} {v3:Value} (h1:aj ag.u8 h v1 x1) (h2:aj ag.u8 h v2 cD) (h3:aj cq h v3 eF):ga.rel h [bH x0,v1,v2,v3] (x0,x1,cD,eF,()) :=
 ⟨[bH x0],[v1,v2,v3],rfl,rfl,⟨[v1],[v2,v3],rfl,⟨v1,rfl,h1⟩,⟨[v2],[v3],rfl,⟨v2,rfl,h2⟩,⟨[v3],[],rfl,⟨v3,rfl,h3⟩,rfl⟩⟩⟩⟩
abbrev K8:Type:=(List (List UInt8)) × (List FD) × Unit
abbrev iV:Type:=Int × Int × Int × (List UInt8) × (List UInt8) × Unit
abbrev gq:ag iV:=ag.prod ag.i64 (ag.prod ag.i64 (ag.prod ag.i64 (ag.prod (ag.slice ag.u8) (ag.prod (ag.slice ag.u8) (ag.unit)))))
theorem gq.open {h:Fr} {cs:List Value} {x:iV} (r:gq.rel h cs x):∃ v3 v4,cs=[.int .i64 x.1,.int .i64 x.2.1,.int .i64 x.2.2.1,v3,v4]∧cE x.1∧cE x.2.1∧cE x.2.2.1∧aj ag.u8 h v3 x.2.2.2.1∧aj ag.u8 h v4 x.2.2.2.2.1:=by
 obtain ⟨c0,d0,rfl,jr,r⟩:=r;obtain ⟨c1,d1,rfl,r1,r⟩:=r;obtain ⟨c2,d2,rfl,r2,r⟩:=r;obtain ⟨c3,d3,rfl,r3,r⟩:=r;obtain ⟨gL,d4,rfl,Ez,r⟩:=r;obtain rfl:d4=[]:=r;obtain ⟨rfl,h0⟩:=jr;obtain ⟨rfl,h1⟩:=r1;obtain ⟨rfl,h2⟩:=r2;obtain ⟨v3,rfl,h3⟩:=r3;obtain ⟨v4,rfl,h4⟩:=Ez;exact ⟨v3,v4,rfl,h0,h1,h2,h3,h4⟩
theorem gq.sh {h:Fr} {cs:List Value} {x:iV} (r:gq.rel h cs x):∃ a3 a4 c3 gL,cs=[.int .i64 x.1,.int .i64 x.2.1,.int .i64 x.2.2.1,.slice a3 x.2.2.2.1.length c3,.slice a4 x.2.2.2.2.1.length gL]∧cE x.1∧cE x.2.1∧cE x.2.2.1∧aj ag.u8 h (.slice a3 x.2.2.2.1.length c3) x.2.2.2.1∧aj ag.u8 h (.slice a4 x.2.2.2.2.1.length gL) x.2.2.2.2.1:=by
 obtain ⟨v3,v4,rfl,h0,h1,h2,h3,h4⟩:=gq.open r;obtain ⟨a3,c3,rfl⟩:=h3.shape;obtain ⟨a4,gL,rfl⟩:=h4.shape;exact ⟨a3,a4,c3,gL,rfl,h0,h1,h2,h3,h4⟩
theorem gq.mk {h:Fr} {x0:Int} {x1:Int} {cD:Int} {eF:List UInt8} {v3:Value} {cT:List UInt8} {v4:Value} (h0:cE x0) (h1:cE x1) (h2:cE cD) (h3:aj ag.u8 h v3 eF) (h4:aj ag.u8 h v4 cT):gq.rel h [.int .i64 x0,.int .i64 x1,.int .i64 cD,v3,v4] (x0,x1,cD,eF,cT,()) :=
 ⟨[.int .i64 x0],[.int .i64 x1,.int .i64 cD,v3,v4],rfl,⟨rfl,h0⟩,⟨[.int .i64 x1],[.int .i64 cD,v3,v4],rfl,⟨rfl,h1⟩,⟨[.int .i64 cD],[v3,v4],rfl,⟨rfl,h2⟩,⟨[v3],[v4],rfl,⟨v3,rfl,h3⟩,⟨[v4],[],rfl,⟨v4,rfl,h4⟩,rfl⟩⟩⟩⟩⟩
abbrev Fo:Type:=iV × iV × Unit
abbrev K3:Type:=(List aH) × (List iV) × (List Fo) × (List Int) × Unit
end Go.Sp
end
section
/- Texts of this proof, one behind the other. -/
section
/- Texts of this proof, one behind the other. -/
section
/- Texts of this proof. -/
namespace Go.Sp
abbrev FB:=List UInt8 × Value × Nat
theorem EX (a b:List UInt8):(str a ==str b)=decide (a=b):=by
 show (ByteArray.beq (str a) (str b))=_
 unfold ByteArray.beq
 by_cases h:a=b
 ·subst h;simp
 ·simp [h,str]
section
variable {ro:Option Nat} {P:Program} {fn:Func} {n:Nat} {R:Ending→World→Prop} {k:List Item} {σ:List (Nat × Value)} {D:List Deferred} {g:bh} {U ζ aN:List az} {ops:Array Oper} {i d:Nat} {ls:List Nat}
 {t tk te:TypeId} {x y z:Operand} {b c:Nat} {l:List FB} {key:List UInt8} {w:World}
theorem TS (hk:P.underlying tk=some .string) (e:Bool) (n:Nat):(Instr.checkKey e (n+1) tk (.string (str key))).run P w=.ok () w:=by
 simp only [Instr.checkKey,Sem.run_bind,run_underlying hk,Result.andThen]
 rfl
theorem run_next_at {ty bm since c0 Gm r:Nat} {seen:Array Nat} {es:Array MapEntry} (hr:w.heap[r]?=some (.mapIter (some bm) since seen c0)) (hb:w.heap[bm]?=some (.map es Gm)) (hold:∀ x∈es.toList,x.born<since) (hsc:since≤c0) :
  ((leftOf es seen).size=0∧(Instr.next (.pointer (some ⟨r,0,none⟩)) false ty).run P w=.ok (.tuple #[.bool false]) w) ∨
  ∃ e∈(leftOf es seen).toList,∃ n:Nat,w.drawn≤n∧(Instr.next (.pointer (some ⟨r,0,none⟩)) false ty).run P w=.ok (.tuple #[.bool true,e.key,e.val]) (({ w with drawn:=n }:World).putObj r (.mapIter (some bm) since (seen.push e.born) Gm)):=by
 simp only [Instr.next,getObj,Sem.run_bind,Sem.run,hr,hb,Result.andThen,next_test_false seen es since c0 hold hsc,Bool.false_eq_true,if_false];unfold leftOf;have hmem:∀ x∈(Array.filter (fun e=>!seen.contains e.born) es).toList,x.born<since:=fun x hx=>hold x (by simp at hx ⊢;exact hx.1);generalize Array.filter (fun e=>!seen.contains e.born) es=L at hmem ⊢;have e1:L.filter (fun x=>decide (x.born<since))=L:=Array.filter_eq_self.2 (fun x hx=>by simpa using hmem x (by simpa using hx));have e2:L.filter (fun x=>decide (x.born≥since))=#[]:=by
  rw [Array.filter_eq_empty_iff]
  intro x hx
  have:=hmem x (by simpa using hx)
  simp
  omega
 simp only [e1,e2,Array.append_empty]
 by_cases h0:L.size=0
 ·left
  have:L=#[]:=Array.eq_empty_of_size_eq_zero h0;subst this;refine ⟨rfl,?_⟩
  simp [choose,Sem.run,Question.forced]
 ·right
  have hne:L.isEmpty=false:=by simp [Array.isEmpty,h0]
  simp only [hne,Bool.false_eq_true,if_false,Array.empty_append,Array.size_map];have hch:∃ (j n:Nat),j<L.size∧w.drawn≤n∧(choose (Question.mapNext L.size)).run P w=.ok j { w with drawn:=n }:=by
   by_cases hf:L.size≤1
   ·exact ⟨0,w.drawn,by omega,Nat.le_refl _,by simp [choose,Sem.run,Question.forced,hf]⟩
   ·exact ⟨_,w.drawn+1,Nat.mod_lt _ (by omega),Nat.le_succ _,by
     simp only [choose,Sem.run,Question.forced,decide_eq_true_eq,hf,if_false,Question.cut]
     rfl⟩
  obtain ⟨j,n,hj,hnn,hrun⟩:=hch;refine ⟨L[j],by simp,n,hnn,?_⟩;have qy:∀ (o' :Obj),(setObj r o').run P ({ w with drawn:=n }:World)=.ok () (({ w with drawn:=n }:World).putObj r o'):=fun o' =>by
   simp only [setObj,Sem.run];rw [show ({ w with drawn:=n }:World).heap[r]?=some (.mapIter (some bm) since seen c0) from hr]
   rfl
  simp only [hrun,Array.getElem?_map,Array.getElem?_eq_getElem hj,Option.map_some,Sem.run_bind,qy,Result.andThen]
  rfl
end
end Go.Sp
end
section
/- Texts of this proof, one behind the other. -/
section
/- Texts of this proof. -/
namespace Go.Sp
section
variable {ro:Option Nat} {P:Program} {fn:Func} {n:Nat} {R:Ending→World→Prop} {k:List Item} {σ:List (Nat × Value)} {D:List Deferred} {g:bh} {U ζ aN:List az} {ops:Array Oper} {i d:Nat} {ls:List Nat}
 {t tk te e:TypeId} {x y z:Operand} {b c:Nat} {l:List FB} {w:World}
theorem UT (xs:List UInt8) (j:Nat):(str xs)[j]?=xs[j]?:=by
 by_cases h:j<xs.length
 ·rw [List.getElem?_eq_getElem h,getElem?_pos (str xs) j (by rw [si];exact h)]
  rfl
 ·rw [List.getElem?_eq_none (by omega),getElem?_neg (str xs) j (by rw [si];exact h)]
theorem aD.u3 {xs:List UInt8} {kd:IntKind} {cA:Int} {j:Nat} (ht:P.underlying t=some .string) (hx:aA σ x=some (.string (str xs))) (hy:aA σ y=some (.int kd cA)) (hz:cA=(j:Int)) (hj:j<xs.length) :
  aD P (.index t x y) σ g U (bH xs[j]) U:=.run fun o ρ w ho hk=>by
 subst hz;have h:=UT xs j;rw [List.getElem?_eq_getElem hj] at h
 simp [execOp,ho,hk x _ hx,hk y _ hy,Instr.index,asIntOf,run_underlying ht,h]
 rfl
theorem aD.pO {kd:IntKind} {cA:Int} {j len bo off:Nat} (ht:P.underlying t=some (.array len e)) (he:(P.info? e).map (·.size)=some 1) (hx:aA σ x=some (.pointer (some ⟨bo,off,none⟩))) (hy:aA σ y=some (.int kd cA)) (hz:cA=(j:Int)) (hj:j<len) :
  aD P (.indexAddr t x y) σ g U (.pointer (some ⟨bo,off+j,none⟩)) U:=.run fun o ρ w ho hk=>by
 subst hz
 simp [execOp,ho,hk x _ hx,hk y _ hy,Instr.indexAt,Instr.sureAddr,asIntOf,run_underlying ht,hj,run_sizeOf he,Addr.add]
theorem aD.kz {kd:IntKind} {cA:Int} {j len:Nat} {p:Addr} (ht:P.underlying t=some (.array len e)) (he:(P.info? e).map (·.size)=some 1) (hx:aA σ x=some (.pointer (some p))) (hy:aA σ y=some (.int kd cA)) (hz:cA=(j:Int)) (hj:j<len) :
  aD P (.indexAddr t x y) σ g U (.pointer (some (p.add j))) U:=.run fun o ρ w ho hk=>by
 subst hz
 simp [execOp,ho,hk x _ hx,hk y _ hy,Instr.indexAt,Instr.sureAddr,asIntOf,run_underlying ht,hj,run_sizeOf he]
def Kb (cs:List UInt8):List Value:=(List.range 256).map fun i=>.bool (decide (i∈cs.map (·.toNat)))
@[simp] theorem YF (cs:List UInt8):(Kb cs).length=256:=by simp [Kb]
theorem TX {m:Option Nat} (ht:P.underlying t=some (.map tk te)):(Op.equal t (.map m) (.map none)).run P w=.ok m.isNone w:=by
 show (Op.equalIn (9999+1) t (.map m) (.map none)).run P w=.ok m.isNone w
 unfold Op.equalIn;simp only [Sem.run_bind,run_underlying ht,Result.andThen]
 cases m<;>rfl
theorem aD.RT {m:Option Nat} {u:TypeId} (ht:P.underlying t=some (.map tk te)) (hx:aA σ x=some (.map m)) (hy:aA σ y=some (.map none)):aD P (.binOp .neq t x y u) σ g U (.bool m.isSome) U :=
 .run fun o ρ w ho hk=>by
  simp [execOp,ho,hk x _ hx,hk y _ hy,eqGuard,Go.binOp,TX (w:=w) (m:=m) ht]
  try cases m<;>rfl
end
end Go.Sp
end
section
/- Texts of this proof. -/
namespace Go.Sp
abbrev FC:=List (List UInt8 × List UInt8 × Nat)
def YH (m:FC):Nat:=(m.map fun x=>x.2.1.length).sum
section
variable {ro:Option Nat} {P:Program} {fn:Func} {n:Nat} {R:Ending→World→Prop} {k:List Item} {σ:List (Nat × Value)} {D:List Deferred} {g:bh} {U ζ aN:List az} {ops:Array Oper} {i d:Nat} {ls:List Nat}
 {t tk te:TypeId} {x y z:Operand} {b c:Nat} {m:FC} {key v:List UInt8} {w:World}
end
end Go.Sp
end
end
end
section
/- Texts of this proof. -/
namespace Go.Sp
variable {ro:Option Nat} {P:Program} {fn:Func} {n:Nat} {R:Ending→World→Prop} {k:List Item} {σ:List (Nat × Value)} {D:List Deferred} {g:bh} {U:List az}
theorem S.EG {c:Code} (h:S ro P fn n R (.code c::.inLoop c::k) σ D g U):S ro P fn n R (.inLoop c::k) σ D g U :=
 fun a w hf hd hw=>.step (fun _ _=>stepR_inLoop) (h a w hf hd hw)
theorem S.Ti {P:Program} {fn:Func} {n:Nat} {R:Ending→World→Prop} {k:List Item} {σ:List (Nat × Value)} {D:List Deferred} {g:bh} {U ζ aN uc :List az} {f:FuncId} {x:Operand} {first cap:Array Value} {ps:Array Tmp} {vj:List Nat} {assign body:Code}
  {β AT dx:Type} {vs:β→AT→List Value} {own:β→AT→List az} (Ok Fin:List β→Prop) (W:List β→dx→List az) (x0:dx) (hx:aA σ x=some (.func (.func f) first cap)) (hc:dr P f=true) (hps:ps=vj.toArray) (mv:∀ y e,(vs y e).length=vj.length) (hb:vj.all (fun p=>Nat.blt p n)=true)
  (it:∀ (l:Nat) (J:List β→az),(∀ done y e,Ok (done++[y])→gC P l (vs y e).toArray g.h (own y e++[J done]) (aM fun u U=>u=.bool true∧U=[J (done++[y])])) →
   ay P f (first++#[pE l]++cap) g.h (aN++[J []]) (aM fun _ U=>∃ ys,Fin ys∧U=uc ++[J ys]))
  (hs:jw U (aN++W [] x0) ζ)
  (round:∀ (l iT oF:Nat) (tm:Array Value) (done:List β) (y:β) (e:AT) (t:dx) (_:Ok (done++[y])) (g' :bh),g.h.sub g'.h→∀ R:Ending→World→Prop,
   (∀ t' w,Holds w g' (blk l (.loop (pR oF tm ps assign body iT))::W (done++[y]) t')→R (.returned (.bool true)) w) →
   S (some l) P fn n R [.code assign,.beginRound,.code body] (under vj (vs y e) σ) [] g' (blk l (.loop (pR oF tm ps assign body iT))::(W done t++own y e)))
  (h:∀ iT t ys,Fin ys→S none P fn n R k σ (⟨.collected iT,#[]⟩::D) g (blk iT (.deferred (some []))::(W ys t++(uc ++ζ)))) :
  S none P fn n R (.code (.rangeFunc x ps assign body)::k) σ D g U:=by
 refine S.rangeFunc (J:=fun j ua =>j=none∧∃ ys t,Fin ys∧ua =W ys t++(uc ++ζ)) hx hc (fun l iT oF tm hfn hfit=>?_) (fun iT jump ua hJ=>?_)
 ·let L:=pR oF tm ps assign body iT
  have hy:∀ done y e,Ok (done++[y])→gC P l (vs y e).toArray g.h (own y e++[fun m=>∃ t,Sat (blk l (.loop L)::W done t) m]) (aM fun u U=>u=.bool true∧U=[fun m=>∃ t,Sat (blk l (.loop L)::W (done++[y]) t) m]):=by
   intro done y e hpre
   refine gC.perm (List.perm_append_comm) (gC.sK (A:=fun t m=>Sat (blk l (.loop L)::W done t) m) fun t=>?_);refine gC.imp (ζ:=blk l (.loop L)::(W done t++own y e)) (fun _ z=>Sat.unpack (fun _ u=>u) z) ?_;refine gC.of (fn:=fn) (n:=n) (σ:=σ) (vs y e) vj rfl hps (mv y e) hb hfn hfit (fun g' hg' R hR=>?_);exact round l iT oF tm done y e t hpre g' hg' R fun t' w hw=>hR _ _ w ⟨rfl,rfl⟩ (Holds.pack (ζ:=[]) (ws:=blk l (.loop L)::W (done++[y]) t') (A:=fun m=>∃ t,Sat (blk l (.loop L)::W (done++[y]) t) m) (fun _ z=>⟨t',z⟩) (by simpa using hw))
  have hi:=(it l _ hy).frame (ζ:=ζ)
  intro g' hg' w hw
  have hw1:Holds w g' ((aN++[fun m=>∃ t,Sat (blk l (.loop L)::W [] t) m])++ζ):=by
   have hp:(blk l (.loop L)::U).Perm ((blk l (.loop L)::W [] x0)++(aN++ζ)):=by
    refine (List.Perm.cons _ hs.perm).trans ?_;rw [List.cons_append,List.append_assoc];refine List.Perm.cons _ ?_;rw [← List.append_assoc,← List.append_assoc];exact List.Perm.append_right _ List.perm_append_comm
   have h1:=Holds.pack (A:=fun m=>∃ t,Sat (blk l (.loop L)::W [] t) m) (fun _ z=>⟨x0,z⟩) (hw.perm hp);refine h1.perm ?_;rw [← List.cons_append,List.append_assoc];exact (List.perm_append_comm (l₁:=[_]) (l₂:=aN)).append_right ζ |>.trans (by rw [List.append_assoc])
  refine (hi g' hg' w hw1).mono fun e w' hh=>?_;obtain ⟨ax,⟨cN,hp,rfl⟩,hw'⟩:=hh
  cases e with
  |panicked _=>exact hp.elim
  |outgrown=>exact hp.elim
  |returned v =>
   obtain ⟨ys,mu,rfl⟩:∃ ys,Fin ys∧cN=_:=hp;have h2:Holds w' g' ((fun m=>∃ t,Sat (blk l (.loop L)::W ys t) m)::(uc ++ζ)):=hw'.perm (by
    rw [← List.cons_append];exact (List.perm_append_comm (l₁:=uc) (l₂:=[_])).append_right ζ)
   obtain ⟨t,h3⟩:=Holds.sK (A:=fun t m=>Sat (blk l (.loop L)::W ys t) m) h2;exact ⟨_,⟨L,W ys t++(uc ++ζ),by simp [L,pR],⟨rfl,ys,t,mu,rfl⟩,rfl⟩,h3.imp fun _ z=>Sat.unpack (fun _ u=>u) z⟩
 ·obtain ⟨rfl,ys,t,mu,rfl⟩:=hJ
  exact h iT t ys mu
section
variable {ops:Array Oper} {l:List Nat} {i d:Nat} {T:TypeId} {x:Operand} {v:Value} {cs:List Value}
end
end Go.Sp
end
end
end
