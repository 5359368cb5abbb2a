/- Texts of this proof, one behind the other. -/
import Derived.Test.YtojafegjlahajaaGreatDoorQSpRange
import Derived.ChangeArms
import Derived.DataReads
import GoSem.ClaimJoined
import Derived.Laws.Strings2
import Derived.Laws.IdiomRangeMap
import Derived.Laws.Externs
set_option linter.unusedSectionVars false
section
/- Texts of this proof, one behind the other. -/
section
/- Texts of this proof. -/
namespace Go.Sp
open Go.ChangeShapes
theorem HL (w:World) (a:Addr):Fr.cell w.fr a=w.cell? a:=by
 unfold Fr.cell World.cell? World.fr
 cases w.heap[a.block]? with
 |none=>rfl
 |some o=>cases o<;>rfl
def ag.unit:ag Unit:={ k:=0,rel:=fun _ cs _=>cs=[],len:=fun h=>by rw [h];rfl,mono:=fun _ h=>h,one:=fun h c hc=>by subst h;simp at hc }
def ag.prod {α β:Type} (T:ag α) (kR:ag β):ag (α × β) :=
 {k:=T.k+kR.k,rel:=fun h cs x=>∃ c1 c2,cs=c1++c2∧T.rel h c1 x.1∧kR.rel h c2 x.2,len:=fun ⟨c1,c2,h,a,b⟩=>by rw [h,List.length_append,T.len a,kR.len b]
  mono:=fun s ⟨c1,c2,h,a,b⟩=>⟨c1,c2,h,T.mono s a,kR.mono s b⟩
  one:=fun ⟨c1,c2,h,a,b⟩ c hc=>by
   subst h
   rcases List.mem_append.1 hc with x|x
   ·exact T.one a c x
   ·exact kR.one b c x }
def tX {H:Type} (P:Program) (t:TypeId) (d:DataW H):Prop:=∀ n∈d.weights P t,n≤reachBytes
theorem JB {H:Type} {P:Program} {e:TypeId}:∀ {ds:List (DataW H)} (_:∀ n∈DataW.weightsAll P e ds,n≤reachBytes) (i:Nat) (hi:i<ds.length),tX P e ds[i]
 |d::ds,h,0,_=>fun n hn=>h n (by simp [DataW.weightsAll];exact .inl hn)
 |d::ds,h,i+1,hi=>JB (ds:=ds) (fun n hn=>h n (by simp [DataW.weightsAll];exact .inr hn)) i (by simpa using hi)
theorem x2 {H:Type} {P:Program}:∀ {ts:List TypeId} {ds:List (DataW H)} (_:∀ n∈DataW.weightsEach P ts ds,n≤reachBytes) (i:Nat) (ht:i<ts.length) (hi:i<ds.length),tX P ts[i] ds[i]
 |t::ts,d::ds,h,0,_,_=>fun n hn=>h n (by simp [DataW.weightsEach];exact .inl hn)
 |t::ts,d::ds,h,i+1,ht,hi=>x2 (ts:=ts) (ds:=ds) (fun n hn=>h n (by simp [DataW.weightsEach];exact .inr hn)) i (by simpa using ht) (by simpa using hi)
def dW (P:Program) (t:TypeId) {α:Type} (T:ag α) (Q:α→Prop):Prop :=
 ∀ (H:Type) (enc:TypeId × Value→H) (w:World) (base:Nat) (spare:Nat→Bool) (held:Bool) (fuel:Nat) (cs:List Value) (x:DataW H × List MemPlace),
  DataW.trod enc P w base spare held fuel t cs=some x→tX P t x.1→∃ a,T.rel w.fr cs a∧Q a
def uR {α:Type} (Q:α→Prop) (xs:List α):Prop:=xs.length≤140737488351232∧∀ x∈xs,Q x
def pX {α:Type} (_:α):Prop:=True
theorem dW.u8 {P:Program} {t:TypeId} (ht:P.underlying t=some (.int .u8)):dW P t ag.u8 pX:=fun _ _ _ _ _ _ _ _ _ h _=>by
 obtain ⟨n,rfl,_,hw⟩:=DataW.trod_int ht h;have:0≤n∧n≤255:=by simpa [Lit.wf,IntKind.min,IntKind.max,IntKind.wrap,IntKind.bits,IntKind.signed] using hw
 refine ⟨UInt8.ofNat n.toNat,?_,trivial⟩
 show _=_
 have e:((UInt8.ofNat n.toNat).toNat:Int)=n:=by
  have:(UInt8.ofNat n.toNat).toNat=n.toNat % 256:=by simp
  omega
 rw [bD,e]
theorem dW.i64 {P:Program} {t:TypeId} (ht:P.underlying t=some (.int .i64)):dW P t ag.i64 cG:=fun _ _ _ _ _ _ _ _ _ h _=>by
 obtain ⟨n,rfl,_,hw⟩:=DataW.trod_int ht h;have:cG n:=by unfold cG;simpa [Lit.wf,IntKind.min,IntKind.max,IntKind.wrap,IntKind.bits,IntKind.signed] using hw
 exact ⟨n,⟨rfl,this⟩,this⟩
theorem dW.bool {P:Program} {t:TypeId} (ht:P.underlying t=some .bool):dW P t ag.bool pX:=fun _ _ _ _ _ _ _ _ _ h _=>by
 obtain ⟨n,rfl,_⟩:=DataW.trod_bool ht h;exact ⟨n,rfl,trivial⟩
theorem WB (s:ByteArray):str s.data.toList=s:=by cases s;rfl
theorem dW.str {P:Program} {t:TypeId} (ht:P.underlying t=some .string):dW P t ag.str (fun s=>s.length≤140737488351232):=fun _ _ _ _ _ _ _ _ _ h hl=>by
 obtain ⟨s,rfl,rfl,hs⟩:=DataW.trod_string ht h;exact ⟨s.data.toList,⟨by rw [WB],by unfold maxLen at hs;rw [Array.length_toList];exact Nat.le_trans hs (by decide)⟩,hl _ (by simp [DataW.weights])⟩
theorem G0 {α:Type} {p:Nat→α→Prop}:∀ {n:Nat} (_:∀ i,i<n→∃ x,p i x),∃ l:List α,l.length=n∧∀ i (hi:i<l.length),p i l[i]
 |0,_=>⟨[],rfl,fun i hi=>absurd hi (by simp)⟩
 |n+1,h=>by
  obtain ⟨l,h1,h2⟩:=G0 (n:=n) (fun i hi=>h i (by omega));obtain ⟨x,hx⟩:=h n (by omega);refine ⟨l++[x],by simp [h1],fun i hi=>?_⟩
  by_cases hi' :i<l.length
  ·rw [List.getElem_append_left hi'];exact h2 i hi'
  ·have:i=n:=by simp at hi;omega
   subst this;rw [List.getElem_append_right (by omega)];simpa using hx
theorem bV.J5 {α β:Type} {R:β→α→Prop}:∀ {bs:List β} {as:List α},bs.length=as.length→(∀ i (hb:i<bs.length) (ha:i<as.length),R bs[i] as[i])→bV R bs as
 |[],[],_,_=>trivial
 |_::_,[],h,_=>by simp at h
 |[],_::_,h,_=>by simp at h
 |b::bs,a::as,h,hr=>⟨hr 0 (by simp) (by simp),bV.J5 (by simpa using h) fun i hb ha=>hr (i+1) (by simp;omega) (by simp;omega)⟩
theorem CB {α:Type} {k:Nat}:∀ {ak:List (List α)},(∀ c∈ak,c.length=k)→ak.flatten.length=ak.length*k
 |[],_=>by simp
 |c::ak,h=>by
  rw [List.flatten_cons,List.length_append,CB (fun d hd=>h d (by simp [hd])),h c (by simp)];simp [Nat.succ_mul];omega
theorem HG {α:Type} {k:Nat} (hk:0<k):∀ {ak:List (List α)} (_:∀ c∈ak,c.length=k) (j:Nat),ak.flatten[j]?=(ak[j / k]?).bind fun c=>c[j % k]?
 |[],_,j=>by simp
 |c::ak,h,j=>by
  have hc:=h c (by simp)
  by_cases hj:j<k
  ·rw [List.flatten_cons,List.getElem?_append_left (by omega),Nat.div_eq_of_lt hj,Nat.mod_eq_of_lt hj];simp
  ·have hj' :k≤j:=by omega
   rw [List.flatten_cons,List.getElem?_append_right (by omega),hc,HG hk (fun d hd=>h d (by simp [hd]))];have e1:j / k=(j - k) / k+1:=by rw [Nat.div_eq_sub_div hk hj']
   have e2:j % k=(j - k) % k:=by rw [Nat.mod_eq_sub_mod hj']
   rw [e1,e2];simp
theorem dW.slice {P:Program} {t e:TypeId} {α:Type} {T:ag α} {Q:α→Prop} (ho:dW P e T Q) (ht:P.underlying t=some (.slice e)) (hc:P.cellsOf e=T.k) (hy:0<P.bytesOf e) (hk:0<T.k):dW P t (ag.slice T) (uR Q):=fun H enc w base spare held fuel cs x h hlt=>by
 rcases DataW.trod_slice ht h with ⟨rfl,_⟩|⟨a,len,cap,elems,rest,n,_,rfl,rfl,hb,hl,hm,hlen,hel,_,_⟩
 ·exact ⟨[],⟨_,rfl,aj.nil⟩,by simp,by simp⟩
 have hw:len*P.bytesOf e≤reachBytes∧∀ n∈DataW.weightsAll P e (elems.map (·.1)),n≤reachBytes:=by
  unfold tX at hlt;simp only [DataW.weights,ht,List.length_map,List.mem_cons,List.mem_append] at hlt;exact ⟨Nat.le_trans (Nat.mul_le_mul_right _ (by omega)) (hlt _ (.inl rfl)),fun n hn=>hlt n (.inr (.inl hn))⟩
 have xA:len≤140737488351232:=by
  have:=Nat.le_trans (Nat.le_mul_of_pos_right len hy) hw.1;unfold reachBytes at this;omega
 have each:∀ i,i<len→∃ y:List Value × α,y.1.length=T.k∧(T.rel w.fr y.1 y.2∧Q y.2)∧∀ q,q<T.k→w.cell? ((a.add (i*T.k)).add q)=y.1[q]?:=by
  intro i hi
  have h1:=hel i hi;rw [List.getElem?_eq_getElem (by omega),hc,Option.bind_eq_some_iff] at h1;obtain ⟨ds,h2,h3⟩:=h1;obtain ⟨b,hb⟩:=ho _ enc w base spare held n ds _ h3 (by have h9:=JB hw.2 i (by simp;omega);rw [List.getElem_map] at h9;exact h9);obtain ⟨_,h4,h5⟩:=World.cells?_some h2;exact ⟨(ds,b),h4,hb,h5⟩
 obtain ⟨l,h1,h2⟩:=G0 each;have hQ:uR Q (l.map (·.2)):=by
  refine ⟨by simp;omega,fun y hy=>?_⟩;obtain ⟨z,hz,rfl⟩:=List.mem_map.1 hy;obtain ⟨i,hi,rfl⟩:=List.mem_iff_getElem.1 hz;exact (h2 i hi).2.1.2
 refine ⟨l.map (·.2),⟨_,rfl,l.map (·.1),?_,some a,cap,?_,?_,⟨?_,fun h=>by cases h⟩,?_,?_⟩,hQ⟩
 ·refine bV.J5 (by simp) fun i hb ha=>?_
  simp only [List.getElem_map];exact (h2 i (by simpa using hb)).2.1.1
 ·simp [h1]
 ·simp [h1];omega
 ·simpa [maxLen] using hm
 ·rw [CB (k:=T.k)]
  ·simp
  ·intro c hc
   obtain ⟨y,hy,rfl⟩:=List.mem_map.1 hc;obtain ⟨i,hi,rfl⟩:=List.mem_iff_getElem.1 hy;exact (h2 i hi).1
 ·intro j hj
  refine ⟨a,rfl,?_⟩;have hall:∀ c∈l.map (·.1),c.length=T.k:=by
   intro c hc
   obtain ⟨y,hy,rfl⟩:=List.mem_map.1 hc;obtain ⟨i,hi,rfl⟩:=List.mem_iff_getElem.1 hy;exact (h2 i hi).1
  rw [HL,← List.getElem?_eq_getElem hj,HG hk hall];have hj2:j<l.length*T.k:=by rw [CB hall] at hj;simpa using hj
  have hi:j / T.k<l.length:=by rw [Nat.div_lt_iff_lt_mul hk];exact hj2
  have hq:j % T.k<T.k:=Nat.mod_lt _ hk;have:=(h2 _ hi).2.2 _ hq;rw [Addr.add_add,show j / T.k*T.k+j % T.k=j from by rw [Nat.mul_comm];exact Nat.div_add_mod j T.k] at this;rw [this]
  simp [List.getElem?_eq_getElem hi]
theorem dW.arr {P:Program} {t:TypeId} {α:Type} {T:ag α} {Q:List α→Prop} (ho:dW P t (ag.slice T) Q) {H:Type} {enc:TypeId × Value→H} {w:World} {base:Nat} {spare:Nat→Bool} {held:Bool} {fuel:Nat} {v:Value} {x:DataW H × List MemPlace}
  (h:DataW.trod enc P w base spare held fuel t [v]=some x) (hl:tX P t x.1):∃ a,aj T w.fr v a∧Q a:=by
 obtain ⟨a,⟨u,h1,h2⟩,hq⟩:=ho _ enc w base spare held fuel _ x h hl
 cases h1
 exact ⟨a,h2,hq⟩
def iu (P:Program) (fs:List Field) (off:Nat) {α:Type} (T:ag α) (Q:α→Prop):Prop :=
 ∀ (H:Type) (enc:TypeId × Value→H) (w:World) (base:Nat) (spare:Nat→Bool) (held:Bool) (fuel:Nat) (cs:List Value),
  (∀ f∈fs,∃ x,DataW.trod enc P w base spare held fuel f.type ((cs.drop f.offset).take (P.cellsOf f.type))=some x∧tX P f.type x.1)→cs.length=off+T.k→∃ a,T.rel w.fr (cs.drop off) a∧Q a
theorem iu.nil {P:Program} {off:Nat}:iu P [] off ag.unit pX:=fun _ _ _ _ _ _ _ cs _ h=>⟨(),by show cs.drop off=[];rw [List.drop_eq_nil_of_le];simp [ag.unit] at h;omega,trivial⟩
theorem iu.cons {P:Program} {f:Field} {fs:List Field} {off:Nat} {α β:Type} {T:ag α} {kR:ag β} {Q:α→Prop} {R:β→Prop} (ho:f.offset=off) (hc:P.cellsOf f.type=T.k) (h1:dW P f.type T Q) (h2:iu P fs (off+T.k) kR R):iu P (f::fs) off (ag.prod T kR) (fun x=>Q x.1∧R x.2) :=
 fun H enc w base spare held fuel cs h hl=>by
  obtain ⟨x,hx,hx'⟩:=h f (by simp);rw [ho,hc] at hx;obtain ⟨a,ha,oB⟩:=h1 _ _ _ _ _ _ _ _ _ hx hx';obtain ⟨b,hb,Us⟩:=h2 _ enc w base spare held fuel cs (fun g hg=>h g (by simp [hg])) (by rw [hl];simp [ag.prod];omega);exact ⟨(a,b),⟨_,_,(by rw [← List.drop_drop,List.take_append_drop]:cs.drop off=(cs.drop off).take T.k++cs.drop (off+T.k)),ha,hb⟩,oB,Us⟩
theorem dW.struct {P:Program} {t:TypeId} {fs:List Field} {α:Type} {T:ag α} {Q:α→Prop} (ho:iu P fs 0 T Q) (ht:P.underlying t=some (.struct fs.toArray)) (hc:P.cellsOf t=T.k):dW P t T Q:=fun H enc w base spare held fuel cs x h hlt=>by
 obtain ⟨xs,n,_,rfl,hl,hn,hf⟩:=DataW.trod_struct ht h;unfold tX at hlt;simp only [DataW.weights,ht] at hlt;have:=ho _ enc w base spare held n cs (fun f hf' =>by
  obtain ⟨i,hi,rfl⟩:=List.mem_iff_getElem.1 hf';have:=hf i fs[i] (by simp [hi]);have hi2:i<xs.length:=by simp at hn;omega
  rw [List.getElem?_eq_getElem hi2] at this;refine ⟨_,by simpa using this,?_⟩;have:=x2 hlt i (by simpa using hi) (by simpa using hi2)
  simpa using this) (by rw [hl,hc];simp)
 simpa using this
end Go.Sp
end
section
/- Texts of this proof, one behind the other. -/
section
/- Texts of this proof. -/
namespace Go.Sp
structure bN (α:Type) where
 jd:ag α
 own:List Value→α→az
 rel:∀ {cs:List Value} {a:α} {m:Fr},own cs a m→jd.rel m cs a
theorem bV.EF {α β:Type} {R:β→α→Prop}:∀ {bs:List β} {as:List α},bV R bs as→bs.length=as.length
 |[],[],_=>rfl
 |[],_::_,h=>h.elim
 |_::_,[],h=>h.elim
 |_::_,_::_,h=>congrArg Nat.succ (bV.EF h.2)
theorem wD {k:Nat} {h:Fr}:∀ {cs:List (List Value)} {ds:List (List Value)},bV ((ag.cells k).rel h) cs ds→cs=ds
 |[],[],_=>rfl
 |[],_::_,h=>h.elim
 |_::_,[],h=>h.elim
 |_::_,_::_,h=>by rw [h.1.1,wD h.2]
theorem aj.kO {α:Type} {T:ag α} {k:Nat} {h:Fr} {v:Value} {ak:List (List Value)} {xs:List α} (h1:aj (ag.cells k) h v ak) (h2:bV (T.rel h) ak xs) (hk:k=T.k):aj T h v xs:=by
 obtain ⟨ds,p,q⟩:=h1;obtain rfl:=wD p;subst hk;exact ⟨ds,h2,by rw [← h2.EF];exact q⟩
def cH {α:Type} (G:bN α) (e:TypeId) (v:Value) (xs:List α):az:=fun m=>∃ ak,Sat [av (ag.cells G.jd.k) e v ak,b6 G.own ak xs] m
theorem cH.arr {α:Type} {G:bN α} {e:TypeId} {v:Value} {xs:List α} {m:Fr}:cH G e v xs m→aj G.jd m v xs:=by
 rintro ⟨ak,h1,h2,_,s1,s2,⟨ds,p,q⟩,h3,_,_,t,_,y,_⟩;have hd:=wD p;have hy:=b6.sU (R:=fun cs a=>G.jd.rel m cs a) (k:=m) (fun b a m' z s=>G.jd.mono s (G.rel z)) y (Fr.aH t s2);refine ⟨ak,hy,?_⟩;rw [← hy.EF];subst hd;exact (q.sl).mono s1
def bN.pure {α:Type} (T:ag α):bN α:={ jd:=T,own:=fun cs a _=>T.rel Fr.emp cs a,rel:=fun h=>T.mono (Fr.cV _) h }
def bN.row {α:Type} (T:ag α) (e:TypeId):bN (List α):={ jd:=ag.slice T,own:=fun cs xs m=>∃ v,cs=[v]∧av T e v xs m,rel:=fun ⟨v,h,x⟩=>⟨v,h,x.arr⟩ }
def bN.list {α:Type} (G:bN α) (e:TypeId):bN (List α):={ jd:=ag.slice G.jd,own:=fun cs xs m=>∃ v,cs=[v]∧cH G e v xs m,rel:=fun ⟨v,h,x⟩=>⟨v,h,x.arr⟩ }
def bN.prod {α β:Type} (A:bN α) (B:bN β):bN (α × β) :=
 {jd:=ag.prod A.jd B.jd,own:=fun cs x m=>∃ c d,cs=c++d∧Sat [A.own c x.1,B.own d x.2] m
  rel:=fun ⟨c,d,h,z⟩=>by
   obtain ⟨h1,h2,_,s1,s2,p,q⟩:=Sat.two.1 z;obtain ⟨h3,t,u⟩:=q;exact ⟨c,d,h,A.jd.mono s1 (A.rel p),B.jd.mono (Fr.aH t s2) (B.rel u)⟩ }
def bN.unit:bN Unit:={ jd:=ag.unit,own:=fun cs _ _=>cs=[],rel:=fun h=>h }
theorem bN.T1 {α β:Type} {T:ag α} {B:bN β} {c d:List Value} {x:α} {y:β} {m:Fr} (h:T.rel Fr.emp c x) (h2:B.own d y m):(bN.prod (bN.pure T) B).own (c++d) (x,y) m :=
 ⟨c,d,rfl,Fr.emp,m,Fr.dZ _,Fr.cV _,Fr.bU _,h,m,Fr.emp,Fr.eZ (Fr.dZ _),Fr.bU _,Fr.cV _,h2,trivial⟩
section
variable {ro:Option Nat} {P:Program} {fn:Func} {n:Nat} {R:Ending→World→Prop} {k:List Item} {σ:List (Nat × Value)} {D:List Deferred} {g:bk} {U ζ aO:List az} {ops:Array Oper} {L:List Nat} {todo:List Item}
 {α:Type} {G:bN α} {e:TypeId} {v:Value} {xs:List α}
theorem V0 {m:Fr} (h:Sat U m):Sat (cH G e (.slice none 0 0) []::U) m:=by
 refine ⟨Fr.emp,m,Fr.dZ _,Fr.cV _,Fr.bU _,⟨[],Fr.emp,Fr.emp,Fr.dZ _,Fr.cV _,Fr.cV _,?_,Fr.emp,Fr.emp,Fr.dZ _,Fr.cV _,Fr.cV _,trivial,trivial⟩,h⟩;exact AB _
theorem S.r9 (G:bN α) (e:TypeId) (h:S ro P fn n R todo σ D g (cH G e (.slice none 0 0) []::U)):S ro P fn n R todo σ D g U:=S.imp' (fun _=>V0) h
theorem S.x3 {k' :Nat} (hk:G.jd.k=k') (s:a_ U (cH G e v xs) ζ) (h:∀ ak,ak.length=xs.length→S ro P fn n R todo σ D g (av (ag.cells k') e v ak::b6 G.own ak xs::ζ)):S ro P fn n R todo σ D g U:=by
 subst hk;exact S.cr s (S.s7 (A:=fun ak m=>Sat [av (ag.cells G.jd.k) e v ak,b6 G.own ak xs] m) fun ak =>
  S.wV (fun _ x=>x) (S.lV (B:=b6 G.own ak xs) (.there .here) (p:=ak.length=xs.length) (fun _ x=>x.len) fun hl=>h ak hl))
theorem VZ {k' :Nat} (hk:G.jd.k=k') {ak:List (List Value)} (s1:a_ U (av (ag.cells k') e v ak) ζ) (s2:a_ ζ (b6 G.own ak xs) aO) {m:Fr} (h:Sat U m):Sat (cH G e v xs::aO) m:=by
 subst hk;exact Sat.Ex (A:=av (ag.cells G.jd.k) e v ak) (B:=b6 G.own ak xs) (fun _ x=>⟨ak,x⟩) (Sat.fk (fun _ y=>y) (fun _ y=>Sat.perm s2.perm y) (Sat.perm s1.perm h))
theorem S.S4 {k' :Nat} (hk:G.jd.k=k') {ak:List (List Value)} (s1:a_ U (av (ag.cells k') e v ak) ζ) (s2:a_ ζ (b6 G.own ak xs) aO) (h:S ro P fn n R todo σ D g (cH G e v xs::aO)):S ro P fn n R todo σ D g U :=
 S.imp' (fun _=>VZ hk s1 s2) h
theorem S.x4 {k' :Nat} (hk:G.jd.k=k') {ak:List (List Value)} {cs:List Value} {a:α} {cT kr:List az} (s1:a_ U (av (ag.cells k') e v (ak++[cs])) ζ) (s2:a_ ζ (b6 G.own ak xs) cT) (s3:a_ cT (G.own cs a) kr) (h:S ro P fn n R todo σ D g (cH G e v (xs++[a])::kr)):S ro P fn n R todo σ D g U :=
 S.cr s1 (S.each (.there s2) (.there s3) (S.S4 hk (.there .here) .here h))
end
theorem af.cu {P:Program} {fn:Func} {n:Nat} {R:Ending→World→Prop} {k:List Item} {σ:List (Nat × Value)} {D:List Deferred} {g:bk} {U:List az} {ops:Array Oper} {l:List Nat} {i d:Nat} {t:TypeId} {x:Operand} {v:Value}
  (ho:bG ops i n σ d (.load t x)) (hd:eF ops [i] l=true) (dc:∀ ζ,aF P (.load t x) σ g (U++ζ) v (U++ζ)) (h:af P fn n R ops k D g l ((d,v)::σ) U):af P fn n R ops k D g (i::l) σ U :=
 .gd (K:=fun v' ax =>v' =v∧ax =U) ho rfl hd (fun ζ o ρ w h1 h2 h3=>let ⟨w',a,b⟩:=dc ζ o ρ w h1 h2 h3;⟨v,w',U++ζ,⟨U,⟨rfl,rfl⟩,rfl⟩,a,b⟩) (by rintro _ _ ⟨rfl,rfl⟩;exact h)
theorem ay.post {P:Program} {f:FuncId} {args:Array Value} {r:Fr} {U:List az} {Post Post' :Ending→List az→Prop} (h:ay P f args r U Post) (hp:∀ e ax,Post e ax →∀ w g,Holds w g ax →∃ Bq,Post' e Bq ∧Holds w g Bq):ay P f args r U Post' :=
 fun g hr w hw=>(h g hr w hw).mono fun e w' ⟨ax,x,y⟩=>hp e ax x w' g y
theorem aL.imp {K K' :Value→List az→Prop} (h:∀ v U,K v U→K' v U):∀ e U,aL K e U→aL K' e U
 |.returned v,U,x=>h v U x
 |.panicked _,_,x=>x.elim
 |.outgrown,_,x=>x.elim
theorem Sat.unpack {ws ζ:List az} {A:az} (hA:∀ m,A m→Sat ws m) {m:Fr} (h:Sat (A::ζ) m):Sat (ws++ζ) m:=by
 obtain ⟨_,_,d,s1,s2,x,y⟩:=h;exact Sat.mono (Fr.iw s1 s2) (Sat.append d (hA _ x) y)
theorem Holds.s7 {w:World} {g:bk} {ζ:List az} {α:Type} {A:α→az} (h:Holds w g ((fun m=>∃ x,A x m)::ζ)):∃ x,Holds w g (A x::ζ):=by
 obtain ⟨p,q,rr,k,d,s1,s2,k1,k2,kd,t1,t2,⟨x,hx⟩,y⟩:=h;exact ⟨x,p,q,rr,k,d,s1,s2,k1,k2,kd,t1,t2,hx,y⟩
end Go.Sp
end
section
/- Texts of this proof, one behind the other. -/
section
/- Texts of this proof. -/
namespace Go.Sp
section
variable {ro:Option Nat} {P:Program} {fn:Func} {n:Nat} {R:Ending→World→Prop} {k:List Item} {σ:List (Nat × Value)} {D:List Deferred} {g:bk} {U:List az} {ops:Array Oper} {i d:Nat} {l:List Nat} {t:TypeId} {x:Operand}
theorem WC (xs:List UInt8) (a b:Nat):(str xs).extract a b=str ((xs.take b).drop a):=by
 have:=ByteArray.extract_mk xs a b;unfold str;rw [this,List.drop_take]
theorem K9 {xs:List UInt8} {lo hi:Option Operand} {a b:Nat} {kl kh:IntKind} (ht:P.underlying t=some .string) (hx:aA σ x=some (.string (str xs)))
  (hlo:∀ y,lo=some y→aA σ y=some (.int kl (a:Int))) (zS :lo=none→a=0) (hhi:∀ y,hi=some y→aA σ y=some (.int kh (b:Int))) (xx :hi=none→b=xs.length)
  (hab:a≤b) (hb:b≤xs.length):∀ U,aF P (.slice t x lo hi none) σ g U (.string (str ((xs.take b).drop a))) U:=fun U=>.run fun o ρ w ho hk=>by
 have hsz:=sB xs;have e1:(a:Int)≤(b:Int):=by omega
 have hex:=WC xs a b
 cases lo with
 |none =>
  have:=zS rfl;subst this
  cases hi with
  |none=>have:=xx rfl;subst this;simp [execOp,ho,hk x _ hx,Instr.sliceAt,run_underlying ht,Instr.slice,Instr.sliceBounds,hsz,hex]
  |some y =>
   simp [execOp,ho,hk x _ hx,hk y _ (hhi y rfl),Instr.sliceAt,run_underlying ht,Instr.slice,Instr.sliceBounds,Instr.sliceBound,asIntOf,hsz,hb,hex]
 |some z =>
  cases hi with
  |none=>have:=xx rfl;subst this;simp [execOp,ho,hk x _ hx,hk z _ (hlo z rfl),Instr.sliceAt,run_underlying ht,Instr.slice,Instr.sliceBounds,Instr.sliceBound,asIntOf,hsz,hab,hex]
  |some y =>
   simp [execOp,ho,hk x _ hx,hk z _ (hlo z rfl),hk y _ (hhi y rfl),Instr.sliceAt,run_underlying ht,Instr.slice,Instr.sliceBounds,Instr.sliceBound,asIntOf,hsz,hab,hb,hex]
theorem O.K8 {xs:List UInt8} {kb:IntKind} {nT:Int} {b:Nat} {y:Operand} (ho:bG ops i n σ d (.slice t x none (some y) none)) (ht:P.underlying t=some .string) (hx:aA σ x=some (.string (str xs))) (hy:aA σ y=some (.int kb nT)) (hz:nT=(b:Int)) (hb:b≤xs.length)
  (h:O ro P fn n R ops l k ((d,.string (str (xs.take b)))::σ) D g U):O ro P fn n R ops (i::l) k σ D g U:=by
 subst hz;have:=K9 (P:=P) (σ:=σ) (g:=g) (kl:=.i64) (kh:=kb) (a:=0) (b:=b) ht hx (lo:=none) (hi:=some y) (fun _ h=>nomatch h) (fun _=>rfl) (fun _ h=>by cases h;exact hy) (fun h=>nomatch h) (Nat.zero_le _) hb U;exact O.op ho this h
theorem O.WA {xs:List UInt8} {ka:IntKind} {qu:Int} {a:Nat} {y:Operand} (ho:bG ops i n σ d (.slice t x (some y) none none)) (ht:P.underlying t=some .string) (hx:aA σ x=some (.string (str xs))) (hy:aA σ y=some (.int ka qu)) (hz:qu=(a:Int)) (ha:a≤xs.length)
  (h:O ro P fn n R ops l k ((d,.string (str (xs.drop a)))::σ) D g U):O ro P fn n R ops (i::l) k σ D g U:=by
 subst hz;have:=K9 (P:=P) (σ:=σ) (g:=g) (kl:=ka) (kh:=.i64) (a:=a) (b:=xs.length) ht hx (lo:=some y) (hi:=none) (fun _ h=>by cases h;exact hy) (fun h=>nomatch h) (fun _ h=>nomatch h) (fun _=>rfl) ha (Nat.le_refl _) U;rw [List.take_length] at this;exact O.op ho this h
end
end Go.Sp
end
section
/- Texts of this proof, one behind the other. -/
section
/- Texts of this proof. -/
namespace Go.Sp
section marks
variable {α:Type} (f:Int→Int→α)
def EN (k n:Nat):List α:=(List.range n).map fun (i:Nat)=>f (k:Int) (i:Int)
@[simp] theorem ZX (k n:Nat):(EN f k n).length=n:=by simp [EN]
def JM (k n i:Nat):List α:=(List.range i).map fun (q:Nat)=>f (k:Int) ((n:Int)+(q:Int))
@[simp] theorem ZZ (k n i:Nat):(JM f k n i).length=i:=by simp [JM]
def JL (j n i:Nat):List α:=(List.range i).map fun (q:Nat)=>f ((j:Int)+(n:Int)) (q:Int)
@[simp] theorem ZY (j n i:Nat):(JL f j n i).length=i:=by simp [JL]
def JJ (ns:List Nat) (k:Nat):List (List α):=(List.range k).map fun j=>EN f j (ns[j]?.getD 0)
@[simp] theorem ZW (ns:List Nat) (k:Nat):(JJ f ns k).length=k:=by simp [JJ]
end marks
section
variable {ro:Option Nat} {P:Program} {fn:Func} {n:Nat} {R:Ending→World→Prop} {todo:List Item} {σ:List (Nat × Value)} {D:List Deferred} {g:bk} {U ζ aO aba:List az} {α:Type} {T:ag α} {K:Nat} {e:TypeId} {v u:Value} {xs ys:List α}
end
theorem b6.mono {β α:Type} {A:β→α→az} {m k:Fr} (s:m.sub k):∀ {bs:List β} {as:List α},b6 A bs as m→b6 A bs as k
 |[],[],_=>trivial
 |[],_::_,h=>h.elim
 |_::_,[],h=>h.elim
 |_::_,_::_,h=>Sat.mono s h
theorem b6.app {β α:Type} {A:β→α→az}:∀ {bs:List β} {as:List α} {bs' :List β} {as' :List α} {m:Fr},Sat [b6 A bs as,b6 A bs' as'] m→b6 A (bs++bs') (as++as') m
 |[],[],bs',as',m,h=>by
  obtain ⟨_,_,_,_,s2,_,h3,_,_,t,_,y,_⟩:=h;exact b6.mono (Fr.aH t s2) y
 |[],_::_,_,_,_,h=>by obtain ⟨_,_,_,_,_,x,_⟩:=h;exact x.elim
 |_::_,[],_,_,_,h=>by obtain ⟨_,_,_,_,_,x,_⟩:=h;exact x.elim
 |b::bs,a::as,bs',as',m,h=>by
  obtain ⟨h1,h2,d,s1,s2,x,y⟩:=h;have x' :Sat [A b a,b6 A bs as] h1:=x;obtain ⟨k1,k2,kd,t1,t2,p,bg,vE,ZF,u1,u2,q,_⟩:=x'
  show Sat [A b a,b6 A (bs++bs') (as++as')] m
  have d1:bg.cR h2:=Fr.fK d (Fr.aH u1 t2) (Fr.bU _);refine ⟨k1,bg.add h2,Fr.rI (Fr.fK kd (Fr.bU _) u1) (Fr.fK d t1 (Fr.bU _)),Fr.aH t1 s1,Fr.iw (Fr.aH (Fr.aH u1 t2) s1) s2,p,bg.add h2,Fr.emp,Fr.eZ (Fr.dZ _),Fr.bU _,Fr.cV _,?_,trivial⟩;exact b6.app ⟨bg,h2,d1,Fr.de _ _,Fr.dL d1,q,y⟩
end Go.Sp
end
section
/- Texts of this proof. -/
namespace Go.Sp
theorem ag.rel.mono {α:Type} {T:ag α} {h k:Fr} {cs:List Value} {x:α} (r:T.rel h cs x) (s:h.sub k):T.rel k cs x:=T.mono s r
def JN {α:Type} (f:Int→α) (n:Nat):List α:=(List.range n).map fun (i:Nat)=>f (i:Int)
@[simp] theorem Z0 {α:Type} (f:Int→α) (n:Nat):(JN f n).length=n:=by simp [JN]
theorem bN.x8 {α β:Type} {T:ag α} {B:bN β} {c d:List Value} {x:α} {y:β} {W:List az} (h:T.rel Fr.emp c x) (hB:∀ m,Sat W m→B.own d y m):∀ m,Sat W m→(bN.prod (bN.pure T) B).own (c++d) (x,y) m:=fun m s=>bN.T1 h (hB m s)
theorem bN.Ao {α β:Type} {A:bN α} {B:bN β} {c d:List Value} {x:α} {y:β} {w:az} {W:List az} (hA:∀ m,w m→A.own c x m) (hB:∀ m,Sat W m→B.own d y m):∀ m,Sat (w::W) m→(bN.prod A B).own (c++d) (x,y) m :=
 fun _ ⟨k1,k2,dj,s1,s2,o,st⟩=>⟨c,d,rfl,k1,k2,dj,s1,s2,hA _ o,k2,Fr.emp,Fr.eZ (Fr.dZ _),Fr.bU _,Fr.cV _,hB _ st,trivial⟩
end Go.Sp
end
end
end
end
end
section
/- Texts of this proof, one behind the other. -/
section
/- Texts of this proof. -/
set_option linter.unusedVariables false
namespace Go.Sp
structure rz where
 u8:TypeId
 int:TypeId
 bytes:TypeId
 dot:TypeId
 AT:TypeId
 leaf:TypeId
 stub:TypeId
 node:TypeId
 prf:TypeId
 root:TypeId
 YA:TypeId
 YC:TypeId
 held:TypeId
def byteOf (z:Int):UInt8:=UInt8.ofNat (z % 256).toNat
theorem LF (z:Int):Value.int .u8 (IntKind.u8.wrap z)=bD (byteOf z):=by
 rw [bD,LG];have:((byteOf z).toNat:Int)=z % 256:=by simp [byteOf];omega
 rw [this]
def Tg (k i:Int):List UInt8:=[35,byteOf k,byteOf (k.fdiv (2 ^ min (8:Int).toNat IntKind.i64.bits)),byteOf (k.fdiv (2 ^ min (16:Int).toNat IntKind.i64.bits)),47,byteOf i,byteOf (i.fdiv (2 ^ min (8:Int).toNat IntKind.i64.bits)),byteOf (i.fdiv (2 ^ min (16:Int).toNat IntKind.i64.bits))]
@[simp] theorem ZV (k i:Int):(Tg k i).length=8:=rfl
abbrev dn:Type:=Int × Int × Unit
abbrev c5:ag dn:=ag.prod ag.i64 (ag.prod ag.i64 (ag.unit))
theorem c5.open {h:Fr} {cs:List Value} {x:dn} (r:c5.rel h cs x):cs=[.int .i64 x.1,.int .i64 x.2.1]∧cG x.1∧cG x.2.1:=by
 obtain ⟨c0,d0,rfl,jH,r⟩:=r;obtain ⟨c1,d1,rfl,r1,r⟩:=r;obtain rfl:d1=[]:=r;obtain ⟨rfl,h0⟩:=jH;obtain ⟨rfl,h1⟩:=r1;exact ⟨rfl,h0,h1⟩
theorem c5.mk {h:Fr} {x0:Int} {x1:Int} (h0:cG x0) (h1:cG x1):c5.rel h [.int .i64 x0,.int .i64 x1] (x0,x1,()) :=
 ⟨[.int .i64 x0],[.int .i64 x1],rfl,⟨rfl,h0⟩,⟨[.int .i64 x1],[],rfl,⟨rfl,h1⟩,rfl⟩⟩
theorem Uj:c5.Pure:=fun _ _ _ h=>h
abbrev aP:Type:=(List UInt8) × Int × Int × (List dn) × Bool × (List UInt8) × (List UInt8) × Unit
abbrev cq:ag aP:=ag.prod ag.str (ag.prod ag.i64 (ag.prod ag.i64 (ag.prod (ag.slice c5) (ag.prod ag.bool (ag.prod (ag.slice ag.u8) (ag.prod (ag.slice ag.u8) (ag.unit)))))))
theorem cq.open {h:Fr} {cs:List Value} {x:aP} (r:cq.rel h cs x):∃ v3 v5 v6,cs=[.string (str x.1),.int .i64 x.2.1,.int .i64 x.2.2.1,v3,.bool x.2.2.2.2.1,v5,v6]∧x.1.length≤9223372036854775807∧cG x.2.1∧cG x.2.2.1∧aj c5 h v3 x.2.2.2.1∧aj ag.u8 h v5 x.2.2.2.2.2.1∧aj ag.u8 h v6 x.2.2.2.2.2.2.1:=by
 obtain ⟨c0,d0,rfl,jH,r⟩:=r;obtain ⟨c1,d1,rfl,r1,r⟩:=r;obtain ⟨c2,d2,rfl,r2,r⟩:=r;obtain ⟨c3,d3,rfl,r3,r⟩:=r;obtain ⟨gV,d4,rfl,Fl,r⟩:=r;obtain ⟨dP,d5,rfl,Ut,r⟩:=r;obtain ⟨dF,d6,rfl,Uu,r⟩:=r;obtain rfl:d6=[]:=r;obtain ⟨rfl,h0⟩:=jH;obtain ⟨rfl,h1⟩:=r1;obtain ⟨rfl,h2⟩:=r2;obtain ⟨v3,rfl,h3⟩:=r3;obtain rfl:gV=[.bool x.2.2.2.2.1]:=Fl;obtain ⟨v5,rfl,h5⟩:=Ut;obtain ⟨v6,rfl,h6⟩:=Uu;exact ⟨v3,v5,v6,rfl,h0,h1,h2,h3,h5,h6⟩
theorem cq.sh {h:Fr} {cs:List Value} {x:aP} (r:cq.rel h cs x):∃ a3 a5 a6 c3 dP dF,cs=[.string (str x.1),.int .i64 x.2.1,.int .i64 x.2.2.1,.slice a3 x.2.2.2.1.length c3,.bool x.2.2.2.2.1,.slice a5 x.2.2.2.2.2.1.length dP,.slice a6 x.2.2.2.2.2.2.1.length dF]∧x.1.length≤9223372036854775807∧cG x.2.1∧cG x.2.2.1∧aj c5 h (.slice a3 x.2.2.2.1.length c3) x.2.2.2.1∧aj ag.u8 h (.slice a5 x.2.2.2.2.2.1.length dP) x.2.2.2.2.2.1∧aj ag.u8 h (.slice a6 x.2.2.2.2.2.2.1.length dF) x.2.2.2.2.2.2.1:=by
 obtain ⟨v3,v5,v6,rfl,h0,h1,h2,h3,h5,h6⟩:=cq.open r;obtain ⟨a3,c3,rfl⟩:=h3.shape;obtain ⟨a5,dP,rfl⟩:=h5.shape;obtain ⟨a6,dF,rfl⟩:=h6.shape;exact ⟨a3,a5,a6,c3,dP,dF,rfl,h0,h1,h2,h3,h5,h6⟩
theorem cq.mk {h:Fr} {x0:List UInt8} {x1:Int} {cC:Int} {eH:List dn} {v3:Value} {cU:Bool} {eN:List UInt8} {v5:Value} {eO:List UInt8} {v6:Value} (h0:x0.length≤9223372036854775807) (h1:cG x1) (h2:cG cC) (h3:aj c5 h v3 eH) (h5:aj ag.u8 h v5 eN) (h6:aj ag.u8 h v6 eO):cq.rel h [.string (str x0),.int .i64 x1,.int .i64 cC,v3,.bool cU,v5,v6] (x0,x1,cC,eH,cU,eN,eO,()) :=
 ⟨[.string (str x0)],[.int .i64 x1,.int .i64 cC,v3,.bool cU,v5,v6],rfl,⟨rfl,h0⟩,⟨[.int .i64 x1],[.int .i64 cC,v3,.bool cU,v5,v6],rfl,⟨rfl,h1⟩,⟨[.int .i64 cC],[v3,.bool cU,v5,v6],rfl,⟨rfl,h2⟩,⟨[v3],[.bool cU,v5,v6],rfl,⟨v3,rfl,h3⟩,⟨[.bool cU],[v5,v6],rfl,rfl,⟨[v5],[v6],rfl,⟨v5,rfl,h5⟩,⟨[v6],[],rfl,⟨v6,rfl,h6⟩,rfl⟩⟩⟩⟩⟩⟩⟩
abbrev ef (dB:rz):bN aP:=bN.prod (bN.pure ag.str) (bN.prod (bN.pure ag.i64) (bN.prod (bN.pure ag.i64) (bN.prod (bN.row c5 dB.dot) (bN.prod (bN.pure ag.bool) (bN.prod (bN.row ag.u8 dB.u8) (bN.prod (bN.row ag.u8 dB.u8) (bN.unit)))))))
theorem ef.mk {dB:rz} {m:Fr} {x0:List UInt8} {x1:Int} {cC:Int} {eH:List dn} {v3:Value} {cU:Bool} {eN:List UInt8} {v5:Value} {eO:List UInt8} {v6:Value} (h0:x0.length≤9223372036854775807) (h1:cG x1) (h2:cG cC) (s:Sat [av c5 dB.dot v3 eH,av ag.u8 dB.u8 v5 eN,av ag.u8 dB.u8 v6 eO] m):(bN.prod (bN.pure ag.str) (bN.prod (bN.pure ag.i64) (bN.prod (bN.pure ag.i64) (bN.prod (bN.row c5 dB.dot) (bN.prod (bN.pure ag.bool) (bN.prod (bN.row ag.u8 dB.u8) (bN.prod (bN.row ag.u8 dB.u8) (bN.unit)))))))).own [.string (str x0),.int .i64 x1,.int .i64 cC,v3,.bool cU,v5,v6] (x0,x1,cC,eH,cU,eN,eO,()) m :=
 bN.x8 (T:=ag.str) (c:=[.string (str x0)]) ⟨rfl,h0⟩ (bN.x8 (T:=ag.i64) (c:=[.int .i64 x1]) ⟨rfl,h1⟩<|bN.x8 (T:=ag.i64) (c:=[.int .i64 cC]) ⟨rfl,h2⟩<|bN.Ao (A:=(bN.row c5 dB.dot)) (c:=[v3]) (fun _ o=>⟨_,rfl,o⟩)<|bN.x8 (T:=ag.bool) (c:=[.bool cU]) rfl<|bN.Ao (A:=(bN.row ag.u8 dB.u8)) (c:=[v5]) (fun _ o=>⟨_,rfl,o⟩)<|bN.Ao (A:=(bN.row ag.u8 dB.u8)) (c:=[v6]) (fun _ o=>⟨_,rfl,o⟩)<|fun _ _=>rfl) m s
abbrev aG:Type:=(List UInt8) × (List aP) × Unit
abbrev bW:ag aG:=ag.prod ag.str (ag.prod (ag.slice cq) (ag.unit))
theorem bW.open {h:Fr} {cs:List Value} {x:aG} (r:bW.rel h cs x):∃ v1,cs=[.string (str x.1),v1]∧x.1.length≤9223372036854775807∧aj cq h v1 x.2.1:=by
 obtain ⟨c0,d0,rfl,jH,r⟩:=r;obtain ⟨c1,d1,rfl,r1,r⟩:=r;obtain rfl:d1=[]:=r;obtain ⟨rfl,h0⟩:=jH;obtain ⟨v1,rfl,h1⟩:=r1;exact ⟨v1,rfl,h0,h1⟩
theorem bW.sh {h:Fr} {cs:List Value} {x:aG} (r:bW.rel h cs x):∃ a1 c1,cs=[.string (str x.1),.slice a1 x.2.1.length c1]∧x.1.length≤9223372036854775807∧aj cq h (.slice a1 x.2.1.length c1) x.2.1:=by
 obtain ⟨v1,rfl,h0,h1⟩:=bW.open r;obtain ⟨a1,c1,rfl⟩:=h1.shape;exact ⟨a1,c1,rfl,h0,h1⟩
theorem bW.mk {h:Fr} {x0:List UInt8} {x1:List aP} {v1:Value} (h0:x0.length≤9223372036854775807) (h1:aj cq h v1 x1):bW.rel h [.string (str x0),v1] (x0,x1,()) :=
 ⟨[.string (str x0)],[v1],rfl,⟨rfl,h0⟩,⟨[v1],[],rfl,⟨v1,rfl,h1⟩,rfl⟩⟩
abbrev en (dB:rz):bN aG:=bN.prod (bN.pure ag.str) (bN.prod (bN.list (ef dB) dB.AT) (bN.unit))
theorem en.mk {dB:rz} {m:Fr} {x0:List UInt8} {x1:List aP} {v1:Value} (h0:x0.length≤9223372036854775807) (s:Sat [cH (ef dB) dB.AT v1 x1] m):(bN.prod (bN.pure ag.str) (bN.prod (bN.list (ef dB) dB.AT) (bN.unit))).own [.string (str x0),v1] (x0,x1,()) m :=
 bN.x8 (T:=ag.str) (c:=[.string (str x0)]) ⟨rfl,h0⟩ (bN.Ao (A:=(bN.list (ef dB) dB.AT)) (c:=[v1]) (fun _ o=>⟨_,rfl,o⟩)<|fun _ _=>rfl) m s
abbrev Gn:Type:=(List UInt8) × (List UInt8) × Unit
abbrev dJ:Type:=UInt8 × (List UInt8) × (List UInt8) × (List aG) × Unit
abbrev gv:ag dJ:=ag.prod ag.u8 (ag.prod (ag.slice ag.u8) (ag.prod (ag.slice ag.u8) (ag.prod (ag.slice bW) (ag.unit))))
theorem gv.open {h:Fr} {cs:List Value} {x:dJ} (r:gv.rel h cs x):∃ v1 v2 v3,cs=[bD x.1,v1,v2,v3]∧aj ag.u8 h v1 x.2.1∧aj ag.u8 h v2 x.2.2.1∧aj bW h v3 x.2.2.2.1:=by
 obtain ⟨c0,d0,rfl,jH,r⟩:=r;obtain ⟨c1,d1,rfl,r1,r⟩:=r;obtain ⟨c2,d2,rfl,r2,r⟩:=r;obtain ⟨c3,d3,rfl,r3,r⟩:=r;obtain rfl:d3=[]:=r;obtain rfl:c0=[bD x.1]:=jH;obtain ⟨v1,rfl,h1⟩:=r1;obtain ⟨v2,rfl,h2⟩:=r2;obtain ⟨v3,rfl,h3⟩:=r3;exact ⟨v1,v2,v3,rfl,h1,h2,h3⟩
theorem gv.sh {h:Fr} {cs:List Value} {x:dJ} (r:gv.rel h cs x):∃ a1 a2 a3 c1 c2 c3,cs=[bD x.1,.slice a1 x.2.1.length c1,.slice a2 x.2.2.1.length c2,.slice a3 x.2.2.2.1.length c3]∧aj ag.u8 h (.slice a1 x.2.1.length c1) x.2.1∧aj ag.u8 h (.slice a2 x.2.2.1.length c2) x.2.2.1∧aj bW h (.slice a3 x.2.2.2.1.length c3) x.2.2.2.1:=by
 obtain ⟨v1,v2,v3,rfl,h1,h2,h3⟩:=gv.open r;obtain ⟨a1,c1,rfl⟩:=h1.shape;obtain ⟨a2,c2,rfl⟩:=h2.shape;obtain ⟨a3,c3,rfl⟩:=h3.shape;exact ⟨a1,a2,a3,c1,c2,c3,rfl,h1,h2,h3⟩
theorem gv.mk {h:Fr} {x0:UInt8} {x1:List UInt8} {v1:Value} {cC:List UInt8} {v2:Value} {eH:List aG} {v3:Value} (h1:aj ag.u8 h v1 x1) (h2:aj ag.u8 h v2 cC) (h3:aj bW h v3 eH):gv.rel h [bD x0,v1,v2,v3] (x0,x1,cC,eH,()) :=
 ⟨[bD x0],[v1,v2,v3],rfl,rfl,⟨[v1],[v2,v3],rfl,⟨v1,rfl,h1⟩,⟨[v2],[v3],rfl,⟨v2,rfl,h2⟩,⟨[v3],[],rfl,⟨v3,rfl,h3⟩,rfl⟩⟩⟩⟩
abbrev L0:Type:=(List (List UInt8)) × (List Gn) × Unit
abbrev j5:Type:=Int × Int × Int × (List UInt8) × (List UInt8) × Unit
abbrev jg:ag j5:=ag.prod ag.i64 (ag.prod ag.i64 (ag.prod ag.i64 (ag.prod (ag.slice ag.u8) (ag.prod (ag.slice ag.u8) (ag.unit)))))
theorem jg.open {h:Fr} {cs:List Value} {x:j5} (r:jg.rel h cs x):∃ v3 v4,cs=[.int .i64 x.1,.int .i64 x.2.1,.int .i64 x.2.2.1,v3,v4]∧cG x.1∧cG x.2.1∧cG x.2.2.1∧aj ag.u8 h v3 x.2.2.2.1∧aj ag.u8 h v4 x.2.2.2.2.1:=by
 obtain ⟨c0,d0,rfl,jH,r⟩:=r;obtain ⟨c1,d1,rfl,r1,r⟩:=r;obtain ⟨c2,d2,rfl,r2,r⟩:=r;obtain ⟨c3,d3,rfl,r3,r⟩:=r;obtain ⟨gV,d4,rfl,Fl,r⟩:=r;obtain rfl:d4=[]:=r;obtain ⟨rfl,h0⟩:=jH;obtain ⟨rfl,h1⟩:=r1;obtain ⟨rfl,h2⟩:=r2;obtain ⟨v3,rfl,h3⟩:=r3;obtain ⟨v4,rfl,h4⟩:=Fl;exact ⟨v3,v4,rfl,h0,h1,h2,h3,h4⟩
theorem jg.sh {h:Fr} {cs:List Value} {x:j5} (r:jg.rel h cs x):∃ a3 a4 c3 gV,cs=[.int .i64 x.1,.int .i64 x.2.1,.int .i64 x.2.2.1,.slice a3 x.2.2.2.1.length c3,.slice a4 x.2.2.2.2.1.length gV]∧cG x.1∧cG x.2.1∧cG x.2.2.1∧aj ag.u8 h (.slice a3 x.2.2.2.1.length c3) x.2.2.2.1∧aj ag.u8 h (.slice a4 x.2.2.2.2.1.length gV) x.2.2.2.2.1:=by
 obtain ⟨v3,v4,rfl,h0,h1,h2,h3,h4⟩:=jg.open r;obtain ⟨a3,c3,rfl⟩:=h3.shape;obtain ⟨a4,gV,rfl⟩:=h4.shape;exact ⟨a3,a4,c3,gV,rfl,h0,h1,h2,h3,h4⟩
theorem jg.mk {h:Fr} {x0:Int} {x1:Int} {cC:Int} {eH:List UInt8} {v3:Value} {cU:List UInt8} {v4:Value} (h0:cG x0) (h1:cG x1) (h2:cG cC) (h3:aj ag.u8 h v3 eH) (h4:aj ag.u8 h v4 cU):jg.rel h [.int .i64 x0,.int .i64 x1,.int .i64 cC,v3,v4] (x0,x1,cC,eH,cU,()) :=
 ⟨[.int .i64 x0],[.int .i64 x1,.int .i64 cC,v3,v4],rfl,⟨rfl,h0⟩,⟨[.int .i64 x1],[.int .i64 cC,v3,v4],rfl,⟨rfl,h1⟩,⟨[.int .i64 cC],[v3,v4],rfl,⟨rfl,h2⟩,⟨[v3],[v4],rfl,⟨v3,rfl,h3⟩,⟨[v4],[],rfl,⟨v4,rfl,h4⟩,rfl⟩⟩⟩⟩⟩
abbrev Ga:Type:=j5 × j5 × Unit
abbrev LV:Type:=(List aG) × (List j5) × (List Ga) × (List Int) × Unit
end Go.Sp
end
section
/- Texts of this proof, one behind the other. -/
section
/- Texts of this proof, one behind the other. -/
section
/- Texts of this proof. -/
namespace Go.Sp
abbrev Gl:=List UInt8 × Value × Nat
theorem FH (a b:List UInt8):(str a ==str b)=decide (a=b):=by
 show (ByteArray.beq (str a) (str b))=_
 unfold ByteArray.beq
 by_cases h:a=b
 ·subst h;simp
 ·simp [h,str]
section
variable {ro:Option Nat} {P:Program} {fn:Func} {n:Nat} {R:Ending→World→Prop} {k:List Item} {σ:List (Nat × Value)} {D:List Deferred} {g:bk} {U ζ aO:List az} {ops:Array Oper} {i d:Nat} {ls:List Nat}
 {t tk te:TypeId} {x y z:Operand} {b c:Nat} {l:List Gl} {key:List UInt8} {w:World}
theorem VA (hk:P.underlying tk=some .string) (e:Bool) (n:Nat):(Instr.checkKey e (n+1) tk (.string (str key))).run P w=.ok () w:=by
 simp only [Instr.checkKey,Sem.run_bind,run_underlying hk,Result.andThen]
 rfl
theorem run_next_at {ty bm since c0 G1 r:Nat} {seen:Array Nat} {es:Array MapEntry} (hr:w.heap[r]?=some (.mapIter (some bm) since seen c0)) (hb:w.heap[bm]?=some (.map es G1)) (hold:∀ x∈es.toList,x.born<since) (hsc:since≤c0) :
  ((leftOf es seen).size=0∧(Instr.next (.pointer (some ⟨r,0,none⟩)) false ty).run P w=.ok (.tuple #[.bool false]) w) ∨
  ∃ e∈(leftOf es seen).toList,∃ n:Nat,w.drawn≤n∧(Instr.next (.pointer (some ⟨r,0,none⟩)) false ty).run P w=.ok (.tuple #[.bool true,e.key,e.val]) (({ w with drawn:=n }:World).putObj r (.mapIter (some bm) since (seen.push e.born) G1)):=by
 simp only [Instr.next,getObj,Sem.run_bind,Sem.run,hr,hb,Result.andThen,next_test_false seen es since c0 hold hsc,Bool.false_eq_true,if_false];unfold leftOf;have hmem:∀ x∈(Array.filter (fun e=>!seen.contains e.born) es).toList,x.born<since:=fun x hx=>hold x (by simp at hx ⊢;exact hx.1);generalize Array.filter (fun e=>!seen.contains e.born) es=L at hmem ⊢;have e1:L.filter (fun x=>decide (x.born<since))=L:=Array.filter_eq_self.2 (fun x hx=>by simpa using hmem x (by simpa using hx));have e2:L.filter (fun x=>decide (x.born≥since))=#[]:=by
  rw [Array.filter_eq_empty_iff]
  intro x hx
  have:=hmem x (by simpa using hx)
  simp
  omega
 simp only [e1,e2,Array.append_empty]
 by_cases h0:L.size=0
 ·left
  have:L=#[]:=Array.eq_empty_of_size_eq_zero h0;subst this;refine ⟨rfl,?_⟩
  simp [choose,Sem.run,Question.forced]
 ·right
  have hne:L.isEmpty=false:=by simp [Array.isEmpty,h0]
  simp only [hne,Bool.false_eq_true,if_false,Array.empty_append,Array.size_map];have hch:∃ (j n:Nat),j<L.size∧w.drawn≤n∧(choose (Question.mapNext L.size)).run P w=.ok j { w with drawn:=n }:=by
   by_cases hf:L.size≤1
   ·exact ⟨0,w.drawn,by omega,Nat.le_refl _,by simp [choose,Sem.run,Question.forced,hf]⟩
   ·exact ⟨_,w.drawn+1,Nat.mod_lt _ (by omega),Nat.le_succ _,by
     simp only [choose,Sem.run,Question.forced,decide_eq_true_eq,hf,if_false,Question.cut]
     rfl⟩
  obtain ⟨j,n,hj,hnn,hrun⟩:=hch;refine ⟨L[j],by simp,n,hnn,?_⟩;have p8:∀ (o' :Obj),(setObj r o').run P ({ w with drawn:=n }:World)=.ok () (({ w with drawn:=n }:World).putObj r o'):=fun o' =>by
   simp only [setObj,Sem.run];rw [show ({ w with drawn:=n }:World).heap[r]?=some (.mapIter (some bm) since seen c0) from hr]
   rfl
  simp only [hrun,Array.getElem?_map,Array.getElem?_eq_getElem hj,Option.map_some,Sem.run_bind,p8,Result.andThen]
  rfl
end
end Go.Sp
end
section
/- Texts of this proof, one behind the other. -/
section
/- Texts of this proof. -/
namespace Go.Sp
section
variable {ro:Option Nat} {P:Program} {fn:Func} {n:Nat} {R:Ending→World→Prop} {k:List Item} {σ:List (Nat × Value)} {D:List Deferred} {g:bk} {U ζ aO:List az} {ops:Array Oper} {i d:Nat} {ls:List Nat}
 {t tk te e:TypeId} {x y z:Operand} {b c:Nat} {l:List Gl} {w:World}
theorem WD (xs:List UInt8) (j:Nat):(str xs)[j]?=xs[j]?:=by
 by_cases h:j<xs.length
 ·rw [List.getElem?_eq_getElem h,getElem?_pos (str xs) j (by rw [sB];exact h)]
  rfl
 ·rw [List.getElem?_eq_none (by omega),getElem?_neg (str xs) j (by rw [sB];exact h)]
theorem aF.vD {xs:List UInt8} {kd:IntKind} {b_:Int} {j:Nat} (ht:P.underlying t=some .string) (hx:aA σ x=some (.string (str xs))) (hy:aA σ y=some (.int kd b_)) (hz:b_=(j:Int)) (hj:j<xs.length) :
  aF P (.index t x y) σ g U (bD xs[j]) U:=.run fun o ρ w ho hk=>by
 subst hz;have h:=WD xs j;rw [List.getElem?_eq_getElem hj] at h
 simp [execOp,ho,hk x _ hx,hk y _ hy,Instr.index,asIntOf,run_underlying ht,h]
 rfl
theorem aF.p_ {kd:IntKind} {b_:Int} {j len bo off:Nat} (ht:P.underlying t=some (.array len e)) (he:(P.info? e).map (·.size)=some 1) (hx:aA σ x=some (.pointer (some ⟨bo,off,none⟩))) (hy:aA σ y=some (.int kd b_)) (hz:b_=(j:Int)) (hj:j<len) :
  aF P (.indexAddr t x y) σ g U (.pointer (some ⟨bo,off+j,none⟩)) U:=.run fun o ρ w ho hk=>by
 subst hz
 simp [execOp,ho,hk x _ hx,hk y _ hy,Instr.indexAt,Instr.sureAddr,asIntOf,run_underlying ht,hj,run_sizeOf he,Addr.add]
theorem aF.kN {kd:IntKind} {b_:Int} {j len:Nat} {p:Addr} (ht:P.underlying t=some (.array len e)) (he:(P.info? e).map (·.size)=some 1) (hx:aA σ x=some (.pointer (some p))) (hy:aA σ y=some (.int kd b_)) (hz:b_=(j:Int)) (hj:j<len) :
  aF P (.indexAddr t x y) σ g U (.pointer (some (p.add j))) U:=.run fun o ρ w ho hk=>by
 subst hz
 simp [execOp,ho,hk x _ hx,hk y _ hy,Instr.indexAt,Instr.sureAddr,asIntOf,run_underlying ht,hj,run_sizeOf he]
def KV (cs:List UInt8):List Value:=(List.range 256).map fun i=>.bool (decide (i∈cs.map (·.toNat)))
@[simp] theorem aas (cs:List UInt8):(KV cs).length=256:=by simp [KV]
theorem VG {m:Option Nat} (ht:P.underlying t=some (.map tk te)):(Op.equal t (.map m) (.map none)).run P w=.ok m.isNone w:=by
 show (Op.equalIn (9999+1) t (.map m) (.map none)).run P w=.ok m.isNone w
 unfold Op.equalIn;simp only [Sem.run_bind,run_underlying ht,Result.andThen]
 cases m<;>rfl
theorem aF.Tm {m:Option Nat} {u:TypeId} (ht:P.underlying t=some (.map tk te)) (hx:aA σ x=some (.map m)) (hy:aA σ y=some (.map none)):aF P (.binOp .neq t x y u) σ g U (.bool m.isSome) U :=
 .run fun o ρ w ho hk=>by
  simp [execOp,ho,hk x _ hx,hk y _ hy,eqGuard,Go.binOp,VG (w:=w) (m:=m) ht]
  try cases m<;>rfl
end
end Go.Sp
end
section
/- Texts of this proof. -/
namespace Go.Sp
abbrev Gm:=List (List UInt8 × List UInt8 × Nat)
def aau (m:Gm):Nat:=(m.map fun x=>x.2.1.length).sum
section
variable {ro:Option Nat} {P:Program} {fn:Func} {n:Nat} {R:Ending→World→Prop} {k:List Item} {σ:List (Nat × Value)} {D:List Deferred} {g:bk} {U ζ aO:List az} {ops:Array Oper} {i d:Nat} {ls:List Nat}
 {t tk te:TypeId} {x y z:Operand} {b c:Nat} {m:Gm} {key v:List UInt8} {w:World}
end
end Go.Sp
end
end
end
section
/- Texts of this proof. -/
namespace Go.Sp
variable {ro:Option Nat} {P:Program} {fn:Func} {n:Nat} {R:Ending→World→Prop} {k:List Item} {σ:List (Nat × Value)} {D:List Deferred} {g:bk} {U:List az}
theorem S.Fu {c:Code} (h:S ro P fn n R (.code c::.inLoop c::k) σ D g U):S ro P fn n R (.inLoop c::k) σ D g U :=
 fun a w hf hd hw=>.step (fun _ _=>stepR_inLoop) (h a w hf hd hw)
theorem S.UQ {P:Program} {fn:Func} {n:Nat} {R:Ending→World→Prop} {k:List Item} {σ:List (Nat × Value)} {D:List Deferred} {g:bk} {U ζ aO uH :List az} {f:FuncId} {x:Operand} {first cap:Array Value} {ps:Array Tmp} {vT:List Nat} {assign body:Code}
  {β Br dB:Type} {vs:β→Br→List Value} {own:β→Br→List az} (Ok Fin:List β→Prop) (W:List β→dB→List az) (x0:dB) (hx:aA σ x=some (.func (.func f) first cap)) (hc:dA P f=true) (hps:ps=vT.toArray) (mM:∀ y e,(vs y e).length=vT.length) (hb:vT.all (fun p=>Nat.blt p n)=true)
  (it:∀ (l:Nat) (J:List β→az),(∀ done y e,Ok (done++[y])→gM P l (vs y e).toArray g.h (own y e++[J done]) (aL fun u U=>u=.bool true∧U=[J (done++[y])])) →
   ay P f (first++#[pW l]++cap) g.h (aO++[J []]) (aL fun _ U=>∃ ys,Fin ys∧U=uH ++[J ys]))
  (hs:jM U (aO++W [] x0) ζ)
  (round:∀ (l jf o7:Nat) (tm:Array Value) (done:List β) (y:β) (e:Br) (t:dB) (_:Ok (done++[y])) (g' :bk),g.h.sub g'.h→∀ R:Ending→World→Prop,
   (∀ t' w,Holds w g' (blk l (.loop (qc o7 tm ps assign body jf))::W (done++[y]) t')→R (.returned (.bool true)) w) →
   S (some l) P fn n R [.code assign,.beginRound,.code body] (under vT (vs y e) σ) [] g' (blk l (.loop (qc o7 tm ps assign body jf))::(W done t++own y e)))
  (h:∀ jf t ys,Fin ys→S none P fn n R k σ (⟨.collected jf,#[]⟩::D) g (blk jf (.deferred (some []))::(W ys t++(uH ++ζ)))) :
  S none P fn n R (.code (.rangeFunc x ps assign body)::k) σ D g U:=by
 refine S.rangeFunc (J:=fun j uG =>j=none∧∃ ys t,Fin ys∧uG =W ys t++(uH ++ζ)) hx hc (fun l jf o7 tm hfn hfit=>?_) (fun jf jump uG hJ=>?_)
 ·let L:=qc o7 tm ps assign body jf
  have hy:∀ done y e,Ok (done++[y])→gM P l (vs y e).toArray g.h (own y e++[fun m=>∃ t,Sat (blk l (.loop L)::W done t) m]) (aL fun u U=>u=.bool true∧U=[fun m=>∃ t,Sat (blk l (.loop L)::W (done++[y]) t) m]):=by
   intro done y e hpre
   refine gM.perm (List.perm_append_comm) (gM.s7 (A:=fun t m=>Sat (blk l (.loop L)::W done t) m) fun t=>?_);refine gM.imp (ζ:=blk l (.loop L)::(W done t++own y e)) (fun _ z=>Sat.unpack (fun _ u=>u) z) ?_;refine gM.of (fn:=fn) (n:=n) (σ:=σ) (vs y e) vT rfl hps (mM y e) hb hfn hfit (fun g' hg' R hR=>?_);exact round l jf o7 tm done y e t hpre g' hg' R fun t' w hw=>hR _ _ w ⟨rfl,rfl⟩ (Holds.pack (ζ:=[]) (ws:=blk l (.loop L)::W (done++[y]) t') (A:=fun m=>∃ t,Sat (blk l (.loop L)::W (done++[y]) t) m) (fun _ z=>⟨t',z⟩) (by simpa using hw))
  have hi:=(it l _ hy).frame (ζ:=ζ)
  intro g' hg' w hw
  have hw1:Holds w g' ((aO++[fun m=>∃ t,Sat (blk l (.loop L)::W [] t) m])++ζ):=by
   have hp:(blk l (.loop L)::U).Perm ((blk l (.loop L)::W [] x0)++(aO++ζ)):=by
    refine (List.Perm.cons _ hs.perm).trans ?_;rw [List.cons_append,List.append_assoc];refine List.Perm.cons _ ?_;rw [← List.append_assoc,← List.append_assoc];exact List.Perm.append_right _ List.perm_append_comm
   have h1:=Holds.pack (A:=fun m=>∃ t,Sat (blk l (.loop L)::W [] t) m) (fun _ z=>⟨x0,z⟩) (hw.perm hp);refine h1.perm ?_;rw [← List.cons_append,List.append_assoc];exact (List.perm_append_comm (l₁:=[_]) (l₂:=aO)).append_right ζ |>.trans (by rw [List.append_assoc])
  refine (hi g' hg' w hw1).mono fun e w' hh=>?_;obtain ⟨ax,⟨cT,hp,rfl⟩,hw'⟩:=hh
  cases e with
  |panicked _=>exact hp.elim
  |outgrown=>exact hp.elim
  |returned v =>
   obtain ⟨ys,mL,rfl⟩:∃ ys,Fin ys∧cT=_:=hp;have h2:Holds w' g' ((fun m=>∃ t,Sat (blk l (.loop L)::W ys t) m)::(uH ++ζ)):=hw'.perm (by
    rw [← List.cons_append];exact (List.perm_append_comm (l₁:=uH) (l₂:=[_])).append_right ζ)
   obtain ⟨t,h3⟩:=Holds.s7 (A:=fun t m=>Sat (blk l (.loop L)::W ys t) m) h2;exact ⟨_,⟨L,W ys t++(uH ++ζ),by simp [L,qc],⟨rfl,ys,t,mL,rfl⟩,rfl⟩,h3.imp fun _ z=>Sat.unpack (fun _ u=>u) z⟩
 ·obtain ⟨rfl,ys,t,mL,rfl⟩:=hJ
  exact h jf t ys mL
section
variable {ops:Array Oper} {l:List Nat} {i d:Nat} {T:TypeId} {x:Operand} {v:Value} {cs:List Value}
end
end Go.Sp
end
end
end
