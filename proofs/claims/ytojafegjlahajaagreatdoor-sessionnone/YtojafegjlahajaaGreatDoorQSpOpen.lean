/- Texts of this proof, one behind the other. -/
import Derived.Test.YtojafegjlahajaaGreatDoorQSpBytes
import Derived.Lib.ConvBytes
import Derived.RangeFuncRecord
import Derived.ChangeArms
import Derived.DataReads
import GoSem.ClaimJoined
section
/- Texts of this proof, one behind the other. -/
section
/- Texts of this proof. -/
namespace Go.Sp
section
variable {ro:Option Nat} {P:Program} {fn:Func} {n:Nat} {R:Ending→World→Prop} {k:List Item} {σ:List (Nat × Value)} {D:List Deferred} {g:Gr} {η ζ θ:List SProp} {ops:Array Oper} {L l:List Nat} {i d:Nat} {t e:TypeId} {x y z:Operand} {α:Type} {T:Rp α}
theorem S.unroll {c:Code} (h:S ro P fn n R (.code c::.inLoop c::k) σ D g η):S ro P fn n R (.code (.loop c)::k) σ D g η :=
 S.loop (fun _:Unit=>True) (fun _=>σ) (fun _=>η) (fun _=>0) () trivial Sub.refl rfl fun _ _ _=>h
theorem Does.sliceTo0 {kb:IntKind} {a:Option Addr} {m c q:Nat} {zb:Int} (ht:P.underlying t=some (.slice e)) (he:(P.info? e).map (·.size)=some T.k) (hx:ev σ x=some (.slice a m c)) (hy:ev σ y=some (.int kb zb)) (hz:zb=(q:Int)) (hq:q≤c) :
  Does P (.slice t x none (some y) none) σ g η (.slice a q c) η :=
 fun o ρ w ho hk hw=>⟨w,by
  subst hz
  cases a<;>simp [execOp,ho,hk x _ hx,hk y _ hy,Instr.sliceAt,run_underlying ht,Instr.slice,Instr.sliceBounds,Instr.sliceBound,asIntOf,hq,run_sizeOf he,Addr.add],hw⟩
theorem Does.min2 {kd:IntKind} {a b:Int} (hx:ev σ x=some (.int kd a)) (hy:ev σ y=some (.int kd b)) :
  Does P (.call ⟨.builtin .min,#[x,y],#[t,t]⟩) σ g η (.int kd (if b<a then b else a)) η :=
 fun o ρ w ho hk hw=>⟨w,by
  simp [execOp,ho,hk x _ hx,hk y _ hy,resolve,invoke,builtin,Builtin.min_,Builtin.min2],hw⟩
theorem Sel.app {η ζ θ:List SProp} {A:SProp} (s:Sel η A ζ):Sel (η++θ) A (ζ++θ):=by
 induction s with
 |here=>exact .here
 |there _ ih=>exact .there ih
theorem ODg.litP {fl:Bool} {by_ len:Nat} {z:List Value} {parts:Array (Nat × Operand)} {vs:List Value} {ys:List α} (ho:Fires ops i n σ d (.buildSlice t len parts)) (hd:hdOk fl ops i l=true) (ht:P.underlying t=some (.slice e)) (he:elemIs P e T.k by_ z) (hk:0<T.k)
  (hp:partsOf σ parts.toList 0=some vs) (hlen:parts.toList.length=len) (hvs:All2 (T.rel Fr.emp) (vs.map (·.cells.toList)) ys) (h24:len*T.k≤16777216)
  (h:∀ a c,OD P fn n R ops k D g l ((d,.slice a len c)::σ) (OwnP T e (.slice a len c) ys::η)):ODx P fn n R ops k D g fl (i::l) σ η :=
 ODg.loudE (K:=fun v η' =>∃ a c,v=.slice a len c∧η' =OwnP T e v ys::η) ho rfl hd (fun _=>(DoesE.litP ht he hk hp hlen hvs h24).imp fun _ _ ⟨a,c,h1,h2⟩=>⟨_,⟨a,c,h1,rfl⟩,h2⟩)
  fun _ _ ⟨a,c,h1,h2⟩=>by subst h1;subst h2;exact h a c
theorem OD.litP {by_ len:Nat} {z:List Value} {parts:Array (Nat × Operand)} {vs:List Value} {ys:List α} (ho:Fires ops i n σ d (.buildSlice t len parts)) (hd:descOk ops [i] l=true) (ht:P.underlying t=some (.slice e)) (he:elemIs P e T.k by_ z) (hk:0<T.k) (hp:partsOf σ parts.toList 0=some vs) (hlen:parts.toList.length=len) (hvs:All2 (T.rel Fr.emp) (vs.map (·.cells.toList)) ys) (h24:len*T.k≤16777216) (h:∀ a c,OD P fn n R ops k D g l ((d,.slice a len c)::σ) (OwnP T e (.slice a len c) ys::η)):OD P fn n R ops k D g (i::l) σ η:=ODg.litP (fl:=false) ho (by simpa [hdOk] using hd) ht he hk hp hlen hvs h24 h
theorem ODt.litP {by_ len:Nat} {z:List Value} {parts:Array (Nat × Operand)} {vs:List Value} {ys:List α} (ho:Fires ops i n σ d (.buildSlice t len parts)) (_:true=true) (ht:P.underlying t=some (.slice e)) (he:elemIs P e T.k by_ z) (hk:0<T.k) (hp:partsOf σ parts.toList 0=some vs) (hlen:parts.toList.length=len) (hvs:All2 (T.rel Fr.emp) (vs.map (·.cells.toList)) ys) (h24:len*T.k≤16777216) (h:∀ a c,OD P fn n R ops k D g l ((d,.slice a len c)::σ) (OwnP T e (.slice a len c) ys::η)):ODx P fn n R ops k D g true (i::l) σ η:=ODg.litP (fl:=true) ho rfl ht he hk hp hlen hvs h24 h
theorem ODg.appendO {fl:Bool} {by_:Nat} {z:List Value} {v u:Value} {xs ys:List α} (ho:Fires ops i n σ d (.call ⟨.builtin .append,#[x,y],#[t,t]⟩)) (hd:hdOk fl ops i l=true) (ht:P.underlying t=some (.slice e)) (he:elemIs P e T.k by_ z) (hk:0<T.k) (hx:ev σ x=some v) (hy:ev σ y=some u)
  (hl:Sel η (OwnP T e u ys) θ) (hs:Sel θ (OwnP T e v xs) ζ) (hb:(xs.length+ys.length)*by_≤140737488355328) (h63:xs.length+ys.length≤9223372036854775807)
  (h:∀ a c,OD P fn n R ops k D g l ((d,.slice a (xs.length+ys.length) c)::σ) (OwnP T e (.slice a (xs.length+ys.length) c) (xs++ys)::ζ)):ODx P fn n R ops k D g fl (i::l) σ η :=
 ODg.loudE (K:=fun v' η' =>∃ a c,v' =.slice a (xs.length+ys.length) c∧η' =OwnP T e v' (xs++ys)::ζ) ho rfl hd (fun _=>(DoesE.appendO ht he hk hx hy hl.app hs.app hb h63).imp fun _ _ ⟨a,c,h1,h2⟩=>⟨_,⟨a,c,h1,rfl⟩,h2⟩)
  fun _ _ ⟨a,c,h1,h2⟩=>by subst h1;subst h2;exact h a c
theorem OD.appendO {by_:Nat} {z:List Value} {v u:Value} {xs ys:List α} (ho:Fires ops i n σ d (.call ⟨.builtin .append,#[x,y],#[t,t]⟩)) (hd:descOk ops [i] l=true) (ht:P.underlying t=some (.slice e)) (he:elemIs P e T.k by_ z) (hk:0<T.k) (hx:ev σ x=some v) (hy:ev σ y=some u) (hl:Sel η (OwnP T e u ys) θ) (hs:Sel θ (OwnP T e v xs) ζ) (hb:(xs.length+ys.length)*by_≤140737488355328) (h63:xs.length+ys.length≤9223372036854775807) (h:∀ a c,OD P fn n R ops k D g l ((d,.slice a (xs.length+ys.length) c)::σ) (OwnP T e (.slice a (xs.length+ys.length) c) (xs++ys)::ζ)):OD P fn n R ops k D g (i::l) σ η:=ODg.appendO (fl:=false) ho (by simpa [hdOk] using hd) ht he hk hx hy hl hs hb h63 h
theorem ODg.appendP {fl:Bool} {by_:Nat} {z:List Value} {v u:Value} {xs ys:List α} (ho:Fires ops i n σ d (.call ⟨.builtin .append,#[x,y],#[t,t]⟩)) (hd:hdOk fl ops i l=true) (hT:T.Pure) (ht:P.underlying t=some (.slice e)) (he:elemIs P e T.k by_ z) (hk:0<T.k) (hx:ev σ x=some v) (hy:ev σ y=some u)
  (hs:Sel η (OwnP T e v xs) ζ) (hu:Arr T g.h u ys) (hb:(xs.length+ys.length)*by_≤140737488355328) (h63:xs.length+ys.length≤9223372036854775807)
  (h:∀ a c,OD P fn n R ops k D g l ((d,.slice a (xs.length+ys.length) c)::σ) (OwnP T e (.slice a (xs.length+ys.length) c) (xs++ys)::ζ)):ODx P fn n R ops k D g fl (i::l) σ η :=
 ODg.loudE (K:=fun v' η' =>∃ a c,v' =.slice a (xs.length+ys.length) c∧η' =OwnP T e v' (xs++ys)::ζ) ho rfl hd (fun _=>(DoesE.appendP hT ht he hk hx hy hs.app hu hb h63).imp fun _ _ ⟨a,c,h1,h2⟩=>⟨_,⟨a,c,h1,rfl⟩,h2⟩)
  fun _ _ ⟨a,c,h1,h2⟩=>by subst h1;subst h2;exact h a c
theorem OD.appendP {by_:Nat} {z:List Value} {v u:Value} {xs ys:List α} (ho:Fires ops i n σ d (.call ⟨.builtin .append,#[x,y],#[t,t]⟩)) (hd:descOk ops [i] l=true) (hT:T.Pure) (ht:P.underlying t=some (.slice e)) (he:elemIs P e T.k by_ z) (hk:0<T.k) (hx:ev σ x=some v) (hy:ev σ y=some u) (hs:Sel η (OwnP T e v xs) ζ) (hu:Arr T g.h u ys) (hb:(xs.length+ys.length)*by_≤140737488355328) (h63:xs.length+ys.length≤9223372036854775807) (h:∀ a c,OD P fn n R ops k D g l ((d,.slice a (xs.length+ys.length) c)::σ) (OwnP T e (.slice a (xs.length+ys.length) c) (xs++ys)::ζ)):OD P fn n R ops k D g (i::l) σ η:=ODg.appendP (fl:=false) ho (by simpa [hdOk] using hd) hT ht he hk hx hy hs hu hb h63 h
theorem ODg.idxOwn {v:Value} {xs:List α} {j:Nat} {kd:IntKind} (ho:Fires ops i n σ d (.indexAddr t x y)) {fl:Bool} (hd:hdOk fl ops i l=true) (ht:P.underlying t=some (.slice e)) (he:(P.info? e).map (·.size)=some T.k) (hx:ev σ x=some v) {zi:Int} (hy:ev σ y=some (.int kd zi)) (hzi:zi=(j:Int))
  (hs:Sel η (OwnP T e v xs) ζ) (hj:j<xs.length) (h:∀ p,PtrIn v T.k j p→OD P fn n R ops k D g l ((d,.pointer (some p))::σ) η):ODx P fn n R ops k D g fl (i::l) σ η :=
 ODx.perm hs.perm (ODg.loudE (η:=OwnP T e v xs::ζ) (K:=fun u η' =>∃ p,u=.pointer (some p)∧PtrIn v T.k j p∧η' =OwnP T e v xs::ζ) ho rfl hd
  (fun _=>(DoesE.idxOwn ht he hx hy hzi Sel.here hj).imp fun _ _ ⟨p,a,b,c⟩=>⟨_,⟨p,a,b,rfl⟩,c⟩) fun _ _ ⟨p,a,b,c⟩=>by subst a;subst c;exact ODx.perm hs.perm.symm (h p b))
theorem OD.idxOwn {v:Value} {xs:List α} {j:Nat} {kd:IntKind} (ho:Fires ops i n σ d (.indexAddr t x y)) (hd:descOk ops [i] l=true) (ht:P.underlying t=some (.slice e)) (he:(P.info? e).map (·.size)=some T.k) (hx:ev σ x=some v) {zi:Int} (hy:ev σ y=some (.int kd zi)) (hzi:zi=(j:Int)) (hs:Sel η (OwnP T e v xs) ζ) (hj:j<xs.length) (h:∀ p,PtrIn v T.k j p→OD P fn n R ops k D g l ((d,.pointer (some p))::σ) η):OD P fn n R ops k D g (i::l) σ η:=ODg.idxOwn (fl:=false) ho (by simpa [hdOk] using hd) ht he hx hy hzi hs hj h
theorem OD.slot {v v' :Value} (q:Nat) (hl:look σ q=some v) (h0:v=v') (h:OD P fn n R ops k D g L ((q,v')::σ) η):OD P fn n R ops k D g L σ η:=OD.weaken h (Sub.consE hl h0 Sub.refl)
end
theorem u8_inj {a b:UInt8} (h:(a.toNat:Int)=b.toNat):a=b:=UInt8.toNat_inj.mp (by omega)
end Go.Sp
end
section
/- Texts of this proof. -/
namespace Go.Sp
theorem Holds.putObj {w:World} {g:Gr} {η:List SProp} {b:Nat} {o:Obj} (o' :Obj) (h:Holds w g (blk b o::η)):Holds (w.putObj b o') g (blk b o' ::η):=by
 have hb:=h.block;have hlt:=(Array.getElem?_eq_some_iff.1 hb).1;exact h.setBlock (World.putObj_heap_same hlt) (fun i hi=>World.putObj_heap_other hi) rfl rfl rfl
section ycon
variable {P:Program} {l:Nat} {args:Array Value} {r:Fr} {η:List SProp} {Post:Ending→List SProp→Prop}
end ycon
section
variable {ro:Option Nat} {P:Program} {fn:Func} {n:Nat} {R:Ending→World→Prop} {k:List Item} {σ:List (Nat × Value)} {D:List Deferred} {g:Gr} {η ζ θ:List SProp}
 {ops:Array Oper} {i d l:Nat} {ls:List Nat} {f:FuncId} {x y:Operand} {xs:Array Operand} {ts:Array TypeId} {vals:List Value} {K:Value→List SProp→Prop}
def under:List Nat→List Value→List (Nat × Value)→List (Nat × Value)
 |p::ps,v::vs,σ=>under ps vs ((p,v)::σ)
 |_,_,σ=>σ
theorem S.objIs {todo:List Item} {b:Nat} {T:TypeId} {cs cs' :List Value} (s:Sel η (obj b T cs) ζ) (e:cs=cs') (h:S ro P fn n R todo σ D g (obj b T cs' ::ζ)):S ro P fn n R todo σ D g η:=S.sel s (e ▸ h)
end
end Go.Sp
end
end
section
/- Texts of this proof. -/
namespace Go.Sp
open Go.ChangeShapes
theorem fr_cell (w:World) (a:Addr):Fr.cell w.fr a=w.cell? a:=by
 unfold Fr.cell World.cell? World.fr
 cases w.heap[a.block]? with
 |none=>rfl
 |some o=>cases o<;>rfl
def Rp.unit:Rp Unit:={ k:=0,rel:=fun _ cs _=>cs=[],len:=fun h=>by rw [h];rfl,mono:=fun _ h=>h,one:=fun h c hc=>by subst h;simp at hc }
def Rp.prod {α β:Type} (T:Rp α) (U:Rp β):Rp (α × β) :=
 {k:=T.k+U.k,rel:=fun h cs x=>∃ c1 c2,cs=c1++c2∧T.rel h c1 x.1∧U.rel h c2 x.2,len:=fun ⟨c1,c2,h,a,b⟩=>by rw [h,List.length_append,T.len a,U.len b]
  mono:=fun s ⟨c1,c2,h,a,b⟩=>⟨c1,c2,h,T.mono s a,U.mono s b⟩
  one:=fun ⟨c1,c2,h,a,b⟩ c hc=>by
   subst h
   rcases List.mem_append.1 hc with x|x
   ·exact T.one a c x
   ·exact U.one b c x }
def light {H:Type} (P:Program) (t:TypeId) (d:DataW H):Prop:=∀ n∈d.weights P t,n≤reachBytes
theorem light_all {H:Type} {P:Program} {e:TypeId}:∀ {ds:List (DataW H)} (_:∀ n∈DataW.weightsAll P e ds,n≤reachBytes) (i:Nat) (hi:i<ds.length),light P e ds[i]
 |d::ds,h,0,_=>fun n hn=>h n (by simp [DataW.weightsAll];exact .inl hn)
 |d::ds,h,i+1,hi=>light_all (ds:=ds) (fun n hn=>h n (by simp [DataW.weightsAll];exact .inr hn)) i (by simpa using hi)
theorem light_each {H:Type} {P:Program}:∀ {ts:List TypeId} {ds:List (DataW H)} (_:∀ n∈DataW.weightsEach P ts ds,n≤reachBytes) (i:Nat) (ht:i<ts.length) (hi:i<ds.length),light P ts[i] ds[i]
 |t::ts,d::ds,h,0,_,_=>fun n hn=>h n (by simp [DataW.weightsEach];exact .inl hn)
 |t::ts,d::ds,h,i+1,ht,hi=>light_each (ts:=ts) (ds:=ds) (fun n hn=>h n (by simp [DataW.weightsEach];exact .inr hn)) i (by simpa using ht) (by simpa using hi)
def Opens (P:Program) (t:TypeId) {α:Type} (T:Rp α) (Q:α→Prop):Prop :=
 ∀ (H:Type) (enc:TypeId × Value→H) (w:World) (base:Nat) (spare:Nat→Bool) (held:Bool) (fuel:Nat) (cs:List Value) (x:DataW H × List MemPlace),
  DataW.trod enc P w base spare held fuel t cs=some x→light P t x.1→∃ a,T.rel w.fr cs a∧Q a
def Within {α:Type} (Q:α→Prop) (xs:List α):Prop:=xs.length≤140737488351232∧∀ x∈xs,Q x
def Anyv {α:Type} (_:α):Prop:=True
theorem Opens.u8 {P:Program} {t:TypeId} (ht:P.underlying t=some (.int .u8)):Opens P t Rp.u8 Anyv:=fun _ _ _ _ _ _ _ _ _ h _=>by
 obtain ⟨n,rfl,_,hw⟩:=DataW.trod_int ht h;have:0≤n∧n≤255:=by simpa [Lit.wf,IntKind.min,IntKind.max,IntKind.wrap,IntKind.bits,IntKind.signed] using hw
 refine ⟨UInt8.ofNat n.toNat,?_,trivial⟩
 show _=_
 have e:((UInt8.ofNat n.toNat).toNat:Int)=n:=by
  have:(UInt8.ofNat n.toNat).toNat=n.toNat % 256:=by simp
  omega
 rw [byteV,e]
theorem Opens.i64 {P:Program} {t:TypeId} (ht:P.underlying t=some (.int .i64)):Opens P t Rp.i64 InI64:=fun _ _ _ _ _ _ _ _ _ h _=>by
 obtain ⟨n,rfl,_,hw⟩:=DataW.trod_int ht h;have:InI64 n:=by unfold InI64;simpa [Lit.wf,IntKind.min,IntKind.max,IntKind.wrap,IntKind.bits,IntKind.signed] using hw
 exact ⟨n,⟨rfl,this⟩,this⟩
theorem choose_list {α:Type} {p:Nat→α→Prop}:∀ {n:Nat} (_:∀ i,i<n→∃ x,p i x),∃ l:List α,l.length=n∧∀ i (hi:i<l.length),p i l[i]
 |0,_=>⟨[],rfl,fun i hi=>absurd hi (by simp)⟩
 |n+1,h=>by
  obtain ⟨l,h1,h2⟩:=choose_list (n:=n) (fun i hi=>h i (by omega));obtain ⟨x,hx⟩:=h n (by omega);refine ⟨l++[x],by simp [h1],fun i hi=>?_⟩
  by_cases hi' :i<l.length
  ·rw [List.getElem_append_left hi'];exact h2 i hi'
  ·have:i=n:=by simp at hi;omega
   subst this;rw [List.getElem_append_right (by omega)];simpa using hx
theorem All2.of_get {α β:Type} {R:β→α→Prop}:∀ {bs:List β} {as:List α},bs.length=as.length→(∀ i (hb:i<bs.length) (ha:i<as.length),R bs[i] as[i])→All2 R bs as
 |[],[],_,_=>trivial
 |_::_,[],h,_=>by simp at h
 |[],_::_,h,_=>by simp at h
 |b::bs,a::as,h,hr=>⟨hr 0 (by simp) (by simp),All2.of_get (by simpa using h) fun i hb ha=>hr (i+1) (by simp;omega) (by simp;omega)⟩
theorem flat_len_k {α:Type} {k:Nat}:∀ {css:List (List α)},(∀ c∈css,c.length=k)→css.flatten.length=css.length*k
 |[],_=>by simp
 |c::css,h=>by
  rw [List.flatten_cons,List.length_append,flat_len_k (fun d hd=>h d (by simp [hd])),h c (by simp)];simp [Nat.succ_mul];omega
theorem flat_get_k {α:Type} {k:Nat} (hk:0<k):∀ {css:List (List α)} (_:∀ c∈css,c.length=k) (j:Nat),css.flatten[j]?=(css[j / k]?).bind fun c=>c[j % k]?
 |[],_,j=>by simp
 |c::css,h,j=>by
  have hc:=h c (by simp)
  by_cases hj:j<k
  ·rw [List.flatten_cons,List.getElem?_append_left (by omega),Nat.div_eq_of_lt hj,Nat.mod_eq_of_lt hj];simp
  ·have hj' :k≤j:=by omega
   rw [List.flatten_cons,List.getElem?_append_right (by omega),hc,flat_get_k hk (fun d hd=>h d (by simp [hd]))];have e1:j / k=(j - k) / k+1:=by rw [Nat.div_eq_sub_div hk hj']
   have e2:j % k=(j - k) % k:=by rw [Nat.mod_eq_sub_mod hj']
   rw [e1,e2];simp
theorem Opens.slice {P:Program} {t e:TypeId} {α:Type} {T:Rp α} {Q:α→Prop} (ho:Opens P e T Q) (ht:P.underlying t=some (.slice e)) (hc:P.cellsOf e=T.k) (hy:0<P.bytesOf e) (hk:0<T.k):Opens P t (Rp.slice T) (Within Q):=fun H enc w base spare held fuel cs x h hlt=>by
 rcases DataW.trod_slice ht h with ⟨rfl,_⟩|⟨a,len,cap,elems,rest,n,_,rfl,rfl,hb,hl,hm,hlen,hel,_,_⟩
 ·exact ⟨[],⟨_,rfl,Arr.nil⟩,by simp,by simp⟩
 have hw:len*P.bytesOf e≤reachBytes∧∀ n∈DataW.weightsAll P e (elems.map (·.1)),n≤reachBytes:=by
  unfold light at hlt;simp only [DataW.weights,ht,List.length_map,List.mem_cons,List.mem_append] at hlt;exact ⟨Nat.le_trans (Nat.mul_le_mul_right _ (by omega)) (hlt _ (.inl rfl)),fun n hn=>hlt n (.inr (.inl hn))⟩
 have hlen2:len≤140737488351232:=by
  have:=Nat.le_trans (Nat.le_mul_of_pos_right len hy) hw.1;unfold reachBytes at this;omega
 have each:∀ i,i<len→∃ y:List Value × α,y.1.length=T.k∧(T.rel w.fr y.1 y.2∧Q y.2)∧∀ q,q<T.k→w.cell? ((a.add (i*T.k)).add q)=y.1[q]?:=by
  intro i hi
  have h1:=hel i hi;rw [List.getElem?_eq_getElem (by omega),hc,Option.bind_eq_some_iff] at h1;obtain ⟨ds,h2,h3⟩:=h1;obtain ⟨b,hb⟩:=ho _ enc w base spare held n ds _ h3 (by have h9:=light_all hw.2 i (by simp;omega);rw [List.getElem_map] at h9;exact h9);obtain ⟨_,h4,h5⟩:=World.cells?_some h2;exact ⟨(ds,b),h4,hb,h5⟩
 obtain ⟨l,h1,h2⟩:=choose_list each;have hQ:Within Q (l.map (·.2)):=by
  refine ⟨by simp;omega,fun y hy=>?_⟩;obtain ⟨z,hz,rfl⟩:=List.mem_map.1 hy;obtain ⟨i,hi,rfl⟩:=List.mem_iff_getElem.1 hz;exact (h2 i hi).2.1.2
 refine ⟨l.map (·.2),⟨_,rfl,l.map (·.1),?_,some a,cap,?_,?_,⟨?_,fun h=>by cases h⟩,?_,?_⟩,hQ⟩
 ·refine All2.of_get (by simp) fun i hb ha=>?_
  simp only [List.getElem_map];exact (h2 i (by simpa using hb)).2.1.1
 ·simp [h1]
 ·simp [h1];omega
 ·simpa [maxLen] using hm
 ·rw [flat_len_k (k:=T.k)]
  ·simp
  ·intro c hc
   obtain ⟨y,hy,rfl⟩:=List.mem_map.1 hc;obtain ⟨i,hi,rfl⟩:=List.mem_iff_getElem.1 hy;exact (h2 i hi).1
 ·intro j hj
  refine ⟨a,rfl,?_⟩;have hall:∀ c∈l.map (·.1),c.length=T.k:=by
   intro c hc
   obtain ⟨y,hy,rfl⟩:=List.mem_map.1 hc;obtain ⟨i,hi,rfl⟩:=List.mem_iff_getElem.1 hy;exact (h2 i hi).1
  rw [fr_cell,← List.getElem?_eq_getElem hj,flat_get_k hk hall];have hj2:j<l.length*T.k:=by rw [flat_len_k hall] at hj;simpa using hj
  have hi:j / T.k<l.length:=by rw [Nat.div_lt_iff_lt_mul hk];exact hj2
  have hq:j % T.k<T.k:=Nat.mod_lt _ hk;have:=(h2 _ hi).2.2 _ hq;rw [Addr.add_add,show j / T.k*T.k+j % T.k=j from by rw [Nat.mul_comm];exact Nat.div_add_mod j T.k] at this;rw [this]
  simp [List.getElem?_eq_getElem hi]
def OpensF (P:Program) (fs:List Field) (off:Nat) {α:Type} (T:Rp α) (Q:α→Prop):Prop :=
 ∀ (H:Type) (enc:TypeId × Value→H) (w:World) (base:Nat) (spare:Nat→Bool) (held:Bool) (fuel:Nat) (cs:List Value),
  (∀ f∈fs,∃ x,DataW.trod enc P w base spare held fuel f.type ((cs.drop f.offset).take (P.cellsOf f.type))=some x∧light P f.type x.1)→cs.length=off+T.k→∃ a,T.rel w.fr (cs.drop off) a∧Q a
theorem OpensF.nil {P:Program} {off:Nat}:OpensF P [] off Rp.unit Anyv:=fun _ _ _ _ _ _ _ cs _ h=>⟨(),by show cs.drop off=[];rw [List.drop_eq_nil_of_le];simp [Rp.unit] at h;omega,trivial⟩
theorem OpensF.cons {P:Program} {f:Field} {fs:List Field} {off:Nat} {α β:Type} {T:Rp α} {U:Rp β} {Q:α→Prop} {R:β→Prop} (ho:f.offset=off) (hc:P.cellsOf f.type=T.k) (h1:Opens P f.type T Q) (h2:OpensF P fs (off+T.k) U R):OpensF P (f::fs) off (Rp.prod T U) (fun x=>Q x.1∧R x.2) :=
 fun H enc w base spare held fuel cs h hl=>by
  obtain ⟨x,hx,hx'⟩:=h f (by simp);rw [ho,hc] at hx;obtain ⟨a,ha,qa⟩:=h1 _ _ _ _ _ _ _ _ _ hx hx';obtain ⟨b,hb,qb⟩:=h2 _ enc w base spare held fuel cs (fun g hg=>h g (by simp [hg])) (by rw [hl];simp [Rp.prod];omega);exact ⟨(a,b),⟨_,_,(by rw [← List.drop_drop,List.take_append_drop]:cs.drop off=(cs.drop off).take T.k++cs.drop (off+T.k)),ha,hb⟩,qa,qb⟩
theorem Opens.struct {P:Program} {t:TypeId} {fs:List Field} {α:Type} {T:Rp α} {Q:α→Prop} (ho:OpensF P fs 0 T Q) (ht:P.underlying t=some (.struct fs.toArray)) (hc:P.cellsOf t=T.k):Opens P t T Q:=fun H enc w base spare held fuel cs x h hlt=>by
 obtain ⟨xs,n,_,rfl,hl,hn,hf⟩:=DataW.trod_struct ht h;unfold light at hlt;simp only [DataW.weights,ht] at hlt;have:=ho _ enc w base spare held n cs (fun f hf' =>by
  obtain ⟨i,hi,rfl⟩:=List.mem_iff_getElem.1 hf';have:=hf i fs[i] (by simp [hi]);have hi2:i<xs.length:=by simp at hn;omega
  rw [List.getElem?_eq_getElem hi2] at this;refine ⟨_,by simpa using this,?_⟩;have:=light_each hlt i (by simpa using hi) (by simpa using hi2)
  simpa using this) (by rw [hl,hc];simp)
 simpa using this
end Go.Sp
end
