/- Texts of this proof, one behind the other. -/
import Derived.Test.YtodhbhanmdfdeaaGreatQSpGet
section
/- Texts of this proof. -/
namespace Go.Sp
def recK (key:List UInt8) (c:Int):RecT:=(key,c,1,[],false,[],List.replicate 64 0,())
def leafK (key:List UInt8) (c:Int):LeafT:=(key,[recK key c],())
def rootK (rep shard:Int) (f:UInt8):RootT:=(rep,shard,1,f::List.replicate 63 0,List.replicate 64 0,())
def evdK (rep:Int) (f:UInt8):EvdT:=(rootK rep 0 f,rootK rep 0 (f+1),())
theorem rootK_ok {rep shard:Int} {f:UInt8} (h1:1≤rep∧rep≤7) (h2:0≤shard∧shard<4):rootOk (rootK rep shard f)=true:=by
 refine rootOk_iff.2 ⟨rootShape_iff.2 ⟨h1.1,h1.2,h2.1,h2.2,by show (1:Int)≤1;omega,by show (1:Int)≤1073741824;omega,?_⟩,?_⟩
 ·simp [rootK]
 ·simp [rootK]
theorem evdK_ok {rep:Int} {f:UInt8} (h1:1≤rep∧rep≤7) (hf:f.toNat<255):evdOk (evdK rep f)=true:=by
 refine evdOk_iff.2 ⟨rootK_ok h1 ⟨by decide,by decide⟩,rootK_ok h1 ⟨by decide,by decide⟩,rfl,rfl,rfl,?_⟩
 show (f::List.replicate 63 0:List UInt8)<(f+1)::List.replicate 63 0
 rw [List.cons_lt_cons_iff]
 left
 rw [UInt8.lt_iff_toNat_lt,UInt8.toNat_add]
 show f.toNat<(f.toNat+1) % 256
 omega
theorem foldE_some:∀ (l:List EvdT) (s:List (List UInt8)),(∀ e∈l,evdOk e=true)→(s++l.map evdB).Nodup→s.length+l.length≤32→l.foldlM fE s=some (s++l.map evdB)
 |[],s,_,_,_=>by simp
 |e::l,s,h1,h2,h3=>by
  rw [List.length_cons] at h3;have hs:evdB e ∉ s:=fun q=>by
   have:=(List.nodup_append.1 h2).2.2 _ q (evdB e) (by simp);exact this rfl
  have e1:s++List.map evdB (e::l)=(s++[evdB e])++l.map evdB:=by simp
  rw [e1] at h2 ⊢;rw [List.foldlM_cons];have hf:fE s e=some (s++[evdB e]):=by unfold fE;rw [if_pos ⟨h1 e List.mem_cons_self,hs,by omega⟩]
  rw [hf];exact foldE_some l (s++[evdB e]) (fun x hx=>h1 x (List.mem_cons_of_mem _ hx)) h2 (by simp;omega)
theorem foldE_len:∀ (l:List EvdT) (s:List (List UInt8)),s.length≤32→(l.foldlM fE s).isSome=true→s.length+l.length≤32
 |[],s,h,_=>by simpa using h
 |e::l,s,h,hs=>by
  rw [List.foldlM_cons] at hs;unfold fE at hs
  split at hs
  ·rename_i c
   have:=foldE_len l (s++[evdB e]) (by simp;omega) hs
   simp at this ⊢
   omega
  ·cases hs
def manyK (n:Nat):List EvdT:=(List.range n).map fun (i:Nat)=>evdK (1+((i % 7:Nat):Int)) (UInt8.ofNat i)
@[simp] theorem manyK_length (n:Nat):(manyK n).length=n:=by simp [manyK]
theorem manyK_succ (n:Nat):manyK (n+1)=manyK n++[evdK (1+((n % 7:Nat):Int)) (UInt8.ofNat n)]:=by simp [manyK,List.range_succ]
theorem manyK_take {m n:Nat} (h:m≤n):(manyK n).take m=manyK m:=by
 unfold manyK;rw [← List.map_take,List.take_range,Nat.min_eq_left h]
theorem many_yes:(imgW ([],[],manyK 32,[],())).isSome=true:=by
 rw [imgW_isSome];have h:=foldE_some (manyK 32) [] (fun e he=>?_) ?_ (by simp)
 ·simp only [h];rfl
 ·obtain ⟨i,hi,rfl⟩:=List.mem_map.1 he
  have hi:i<32:=List.mem_range.1 hi;exact evdK_ok ⟨by omega,by omega⟩ (by rw [UInt8.toNat_ofNat'];omega)
 ·rw [List.nil_append]
  unfold manyK;rw [List.map_map];refine List.pairwise_map.2 (List.pairwise_iff_getElem.2 fun i j hi hj hij q=>?_);simp only [List.length_range] at hi hj;simp only [List.getElem_range,Function.comp] at q;have h1:evdOk (evdK (1+((i % 7:Nat):Int)) (UInt8.ofNat i))=true:=evdK_ok ⟨by omega,by omega⟩ (by rw [UInt8.toNat_ofNat'];omega);have h2:evdOk (evdK (1+((j % 7:Nat):Int)) (UInt8.ofNat j))=true:=evdK_ok ⟨by omega,by omega⟩ (by rw [UInt8.toNat_ofNat'];omega);have e1:=evdGet_iff.2 ⟨h1,rfl⟩;have e2:=evdGet_iff.2 ⟨h2,rfl⟩;rw [q,e2] at e1;have e3:=Option.some.inj e1;have e4:UInt8.ofNat j=UInt8.ofNat i:=(List.cons.inj (congrArg (fun x:EvdT=>x.1.2.2.2.1) e3)).1;have e5:=congrArg UInt8.toNat e4;rw [UInt8.toNat_ofNat',UInt8.toNat_ofNat'] at e5
  omega
theorem many_no:(imgW ([],[],manyK 33,[],())).isSome=false:=by
 rw [imgW_isSome];have h:((manyK 33).foldlM fE []).isSome=false:=by
  rw [Bool.eq_false_iff]
  intro q
  have:=foldE_len (manyK 33) [] (by simp) q
  simp at this
 rw [h]
 simp
theorem sRight_one {key:List UInt8} {c:Int} (h:1≤key.length∧key.length≤64) (hc:dotOk (c,1,())=true):SRight [recK key c]:=by
 have h0:recOk (recK key c)=true:=recOk_iff.2 ⟨shaped_iff.2 ⟨h.1,h.2,hc,rfl,by show (_ && hasM [] _)=false;rw [show hasM [] (rDot (recK key c))=false from rfl,Bool.and_false],by show 0≤1024;omega,fun q=>(by cases q)⟩,by simp [recK]⟩;refine ⟨oneK_iff.2 fun i hi=>?_,fun j hj=>⟨fun hj0=>?_,?_⟩⟩
 ·have:i=0:=by simp at hi;omega
  subst this;exact ⟨h0,rfl⟩
 ·simp at hj;omega
 ·have:j=0:=by simp at hj;omega
  subst this;unfold underR;rw [List.any_eq_false]
  intro y hy
  rw [List.mem_singleton.1 hy,show cmpR [recK key c][0] (recK key c)=0 from cmpR_eq.2 rfl]
  simp
def numK:HeldT:=([leafK [97] 1,leafK [98] 2],[rootK 1 0 0,rootK 1 1 0],[evdK 1 0],[1,7],())
theorem numK_yes:(imgW numK).isSome=true:=by
 rw [imgW_isSome];have hl:([leafK [97] 1,leafK [98] 2]:List LeafT).foldlM fL []=some [98]:=by
  have h1:fL [] (leafK [97] 1)=some [97]:=by unfold fL;rw [if_pos ⟨by decide,by decide,⟨by decide,rfl⟩,sRight_one ⟨by decide,by decide⟩ (by decide)⟩];rfl
  have h2:fL [97] (leafK [98] 2)=some [98]:=by unfold fL;rw [if_pos ⟨by decide,by decide,⟨by decide,rfl⟩,sRight_one ⟨by decide,by decide⟩ (by decide)⟩];rfl
  rw [List.foldlM_cons,h1]
  show List.foldlM fL [97] [leafK [98] 2]=_
  rw [List.foldlM_cons,h2];rfl
 have hr:([rootK 1 0 0,rootK 1 1 0]:List RootT).foldlM fR (0,0)=some (1,1):=by
  have h1:fR (0,0) (rootK 1 0 0)=some (1,0):=by unfold fR;rw [if_pos ⟨.inl rfl,rootK_ok ⟨by decide,by decide⟩ ⟨by decide,by decide⟩⟩];rfl
  have h2:fR (1,0) (rootK 1 1 0)=some (1,1):=by unfold fR;rw [if_pos ⟨.inr ⟨rfl,by show (0:Int)<1;decide⟩,rootK_ok ⟨by decide,by decide⟩ ⟨by decide,by decide⟩⟩];rfl
  rw [List.foldlM_cons,h1]
  show List.foldlM fR (1,0) [rootK 1 1 0]=_
  rw [List.foldlM_cons,h2];rfl
 have he:([evdK 1 0]:List EvdT).foldlM fE []=some [evdB (evdK 1 0)]:=foldE_some [evdK 1 0] [] (fun e he=>by rw [List.mem_singleton.1 he];exact evdK_ok ⟨by decide,by decide⟩ (by decide)) (by simp) (by simp);have hs:([1,7]:List Int).foldlM fS 0=some 7:=rfl
 show ((([leafK [97] 1,leafK [98] 2]:List LeafT).foldlM fL []).isSome && ((([rootK 1 0 0,rootK 1 1 0]:List RootT).foldlM fR (0,0)).isSome && ((([evdK 1 0]:List EvdT).foldlM fE []).isSome && (([1,7]:List Int).foldlM fS 0).isSome)))=true
 rw [hl,hr,he,hs]
 rfl
end Go.Sp
end
section
/- Texts of this proof. -/
namespace Go.Sp
section
variable {P:Program} {fn:Func} {n:Nat} {R:Ending→World→Prop} {ops:Array Oper} {k:List Item} {σ:List (Nat × Value)} {D:List Deferred} {g:Gr} {η:List SProp} {t e:TypeId} {x y:Operand}
theorem ODg.makeP {α:Type} {T:Rp α} {fl:Bool} {i d:Nat} {l:List Nat} {by_:Nat} {z:List Value} (a:α) {m:Nat} {kx ky:IntKind} {zx zy:Int} (ho:Fires ops i n σ d (.makeSlice t x y)) (hd:hdOk fl ops i l=true) (ht:P.underlying t=some (.slice e)) (he:elemIs P e T.k by_ z) (hk:0<T.k) (hz:T.rel Fr.emp z a)
  (hx:ev σ x=some (.int kx zx)) (hy:ev σ y=some (.int ky zy)) (hzx:zx=(m:Int)) (hzy:zy=(m:Int)) (hb:by_*m≤281474976710656) (h63:m≤9223372036854775807)
  (h:∀ a' c,OD P fn n R ops k D g l ((d,.slice a' m c)::σ) (OwnP T e (.slice a' m c) (List.replicate m a)::η)):ODx P fn n R ops k D g fl (i::l) σ η :=
 ODg.loudE (K:=fun v η' =>∃ a' c,v=.slice a' m c∧η' =OwnP T e v (List.replicate m a)::η) ho rfl hd (fun _=>(DoesE.makeP a ht he hk hz hx hy hzx hzy hb h63).imp fun _ _ ⟨a,c,h1,h2⟩=>⟨_,⟨a,c,h1,rfl⟩,h2⟩) (by rintro v _ ⟨a,c,rfl,rfl⟩;exact h a c)
theorem OD.makeP {α:Type} {T:Rp α} {i d:Nat} {l:List Nat} {by_:Nat} {z:List Value} (a:α) {m:Nat} {kx ky:IntKind} {zx zy:Int} (ho:Fires ops i n σ d (.makeSlice t x y)) (hd:descOk ops [i] l=true) (ht:P.underlying t=some (.slice e)) (he:elemIs P e T.k by_ z) (hk:0<T.k) (hz:T.rel Fr.emp z a)
  (hx:ev σ x=some (.int kx zx)) (hy:ev σ y=some (.int ky zy)) (hzx:zx=(m:Int)) (hzy:zy=(m:Int)) (hb:by_*m≤281474976710656) (h63:m≤9223372036854775807)
  (h:∀ a' c,OD P fn n R ops k D g l ((d,.slice a' m c)::σ) (OwnP T e (.slice a' m c) (List.replicate m a)::η)):OD P fn n R ops k D g (i::l) σ η:=ODg.makeP (fl:=false) a ho (by simpa [hdOk] using hd) ht he hk hz hx hy hzx hzy hb h63 h
theorem ODt.makeP {α:Type} {T:Rp α} {i d:Nat} {l:List Nat} {by_:Nat} {z:List Value} (a:α) {m:Nat} {kx ky:IntKind} {zx zy:Int} (ho:Fires ops i n σ d (.makeSlice t x y)) (_:true=true) (ht:P.underlying t=some (.slice e)) (he:elemIs P e T.k by_ z) (hk:0<T.k) (hz:T.rel Fr.emp z a)
  (hx:ev σ x=some (.int kx zx)) (hy:ev σ y=some (.int ky zy)) (hzx:zx=(m:Int)) (hzy:zy=(m:Int)) (hb:by_*m≤281474976710656) (h63:m≤9223372036854775807)
  (h:∀ a' c,OD P fn n R ops k D g l ((d,.slice a' m c)::σ) (OwnP T e (.slice a' m c) (List.replicate m a)::η)):ODx P fn n R ops k D g true (i::l) σ η:=ODg.makeP (fl:=true) a ho rfl ht he hk hz hx hy hzx hzy hb h63 h
def fieldCell (P:Program) (s f:Nat):Option Nat :=
 match P.underlying s with
 |some (.struct fs) =>
  match fs[f]? with
  |some fd=>if flat P fd.type then some fd.offset else none
  |none=>none
 |_=>none
theorem run_field1 {s f off:Nat} {cs:Array Value} {v:Value} (h:fieldCell P s f=some off) (hv:cs[off]?=some v) (w:World):(Instr.field s (.agg cs) f).run P w=.ok v w:=by
 unfold fieldCell at h
 split at h
 ·rename_i fs hu
  split at h
  ·rename_i fd hf
   split at h
   ·rename_i hfl
    cases h
    simp [Instr.field,run_underlying hu,hf,part,asAgg,run_isAgg_flat hfl,hv]
   ·cases h
  ·cases h
 ·cases h
theorem Does.field1 {s f off:Nat} {cs:Array Value} {v:Value} (h:fieldCell P s f=some off) (hx:ev σ x=some (.agg cs)) (hv:cs[off]?=some v):Does P (.field s x f) σ g η v η :=
 .run fun o ρ w ho hk=>by simp [execOp,ho,hk x _ hx,run_field1 h hv]
end
end Go.Sp
end
