/- Texts of this proof. -/
import Derived.Test.YtojafegjlahajaaGreatDoorQSpMem
namespace Go.Sp
section
variable {P:Program} {σ:List (Nat × Value)} {g:Gr} {η ζ:List SProp}
def elemIs (P:Program) (e k by_:Nat) (z:List Value):Prop:=∃ i zv,P.info? e=some i∧i.zero=some zv∧i.size=k∧i.bytes=by_∧zv.cells.toList=z∧z.length=k
theorem elemIs.mk {e k by_:Nat} {z:List Value} (h:(P.info? e).map (fun i=>(i.zero.map (·.cells.toList),i.size,i.bytes))=some (some z,k,by_)) (hz:z.length=k):elemIs P e k by_ z:=by
 unfold elemIs
 cases hi:P.info? e with
 |none=>rw [hi] at h;cases h
 |some i =>
  rw [hi] at h;simp only [Option.map_some,Option.some.injEq,Prod.mk.injEq,Option.map_eq_some_iff] at h;obtain ⟨⟨zv,h1,h2⟩,h3,h4⟩:=h;exact ⟨i,zv,rfl,h1,h3,h4,h2,hz⟩
def reps (z:List Value):Nat→List Value
 |0=>[]
 |m+1=>z++reps z m
theorem length_reps (z:List Value) (m:Nat):(reps z m).length=m*z.length:=by
 induction m with
 |zero=>simp [reps]
 |succ m ih=>simp [reps,ih,Nat.succ_mul,Nat.add_comm]
theorem reps_get (z:List Value) (m j:Nat) (h:j<m*z.length):(reps z m)[j]?=z[j % z.length]?:=by
 induction m generalizing j with
 |zero=>simp at h
 |succ m ih =>
  simp only [reps]
  rcases Nat.lt_or_ge j z.length with hj|hj
  ·rw [List.getElem?_append_left hj,Nat.mod_eq_of_lt hj]
  ·rw [List.getElem?_append_right hj,ih (j - z.length) (by rw [Nat.succ_mul] at h;omega),Nat.mod_eq_sub_mod hj]
theorem madeCells_reps (z:Array Value) (m:Nat) (hz:0<z.size):(madeCells z (m*z.size)).toList=reps z.toList m:=by
 apply List.ext_getElem?
 intro j
 rcases Nat.lt_or_ge j (m*z.size) with h|h
 ·rw [reps_get _ _ _ (by simpa using h)]
  have hm:=Nat.mod_lt j hz
  simp [madeCells,h,hm]
 ·rw [List.getElem?_eq_none (by simp [madeCells];exact h),List.getElem?_eq_none (by rw [length_reps];simpa using h)]
theorem Holds.ownF {w:World} {b:Nat} {T k m cap:Nat} {cur:Array Value} {cs:List Value} {fz:Nat × Nat} (h:Holds w g (blk b (.cells cur T fz)::η)) (hz:Thawed fz (cap*k)) (h1:m≤cap) (h2:cap≤9223372036854775807)
  (h3:cur.size=cap*k) (h4:cur.toList.take (m*k)=cs):Holds w g (Own (.slice (some ⟨b,0,none⟩) m cap) k T m cs::η) :=
 h.imp fun _=>Sat.cons_imp (fun f hf=>⟨by rw [← h4,List.length_take,Array.length_toList,h3];exact Nat.min_eq_left (Nat.mul_le_mul_right _ h1),.inr ⟨b,cap,cur,rfl,⟨fz,hf,hz⟩,h1,h2,h3,h4⟩⟩) fun _ x=>x
theorem Holds.own {w:World} {b:Nat} {T k m cap:Nat} {cur:Array Value} {cs:List Value} (h:Holds w g (blk b (.cells cur T (0,0))::η)) (h1:m≤cap) (h2:cap≤9223372036854775807)
  (h3:cur.size=cap*k) (h4:cur.toList.take (m*k)=cs):Holds w g (Own (.slice (some ⟨b,0,none⟩) m cap) k T m cs::η) :=
 h.ownF (thawed0 _) h1 h2 h3 h4
theorem run_append_roomZ {P:Program} (w:World) (t ty e:TypeId) (i:TypeInfo) (ht:P.underlying t=some (.slice e)) (hi:P.info? e=some i)
  (g sLen sCap:Nat) (cur:Array Value) {fz:Nat × Nat} (hg:w.heap[g]?=some (.cells cur e fz)) (hz:Thawed fz cur.size)
  (a:Addr) (m c:Nat) (news:List Value) (hl:news.length=m*i.size) (hnews:∀ j u,news[j]?=some u→w.cell? (a.add j)=some u) (h1:∀ u∈news,u.oneCell' =true)
  (hroom:sLen+m≤sCap) (hfit:sLen*i.size+news.length≤cur.size) :
  (Builtin.append_ #[t,t] ty #[.slice (some ⟨g,0,none⟩) sLen sCap,.slice (some a) m c]).run P w =
   .ok (.slice (some ⟨g,0,none⟩) (sLen+m) sCap) (w.setRow g (cur.toList.take (sLen*i.size)++news++cur.toList.drop (sLen*i.size+news.length)).toArray):=by
 have hf:=run_firstCells_some (P:=P) w i.size m a m c news hl hnews;have hst:=run_storeCells_z P g (sLen*i.size) e hz news 0 cur w hg (Nat.le_refl _) (by simpa using hfit) h1;simp only [Nat.add_zero] at hst
 simp [Builtin.append_,run_underlying ht,sizeOf,typeInfo,hi,Builtin.lenOf,hroom,hf,Addr.add_lit,hst]
theorem DoesE.make {t e k by_:Nat} {z:List Value} {x y:Operand} {m:Nat} {kx ky:IntKind} (ht:P.underlying t=some (.slice e)) (he:elemIs P e k by_ z) (hk:0<k)
  (hx:ev σ x=some (.int kx m)) (hy:ev σ y=some (.int ky m)) (hb:by_*m≤281474976710656) (h63:m≤9223372036854775807) :
  DoesE P (.makeSlice t x y) σ g η fun v η' =>η' =Own v k e m (reps z m)::η :=
 fun o ρ w ho hkn hw=>by
  obtain ⟨i,zv,hi,hz,hs,hby,hzc,hzl⟩:=he;subst hs hby hzc;have hb' :(i.bytes:Int)*(m:Int)≤281474976710656:=by rw [← Int.natCast_mul];omega
  have hr:=run_make (P:=P) w t e i zv ht hi hz kx ky m m (by omega) (Int.le_refl _) hb' (by omega);simp only [Int.toNat_natCast] at hr;have hzs:zv.cells.size=i.size:=by simpa using hzl
  refine ⟨.slice (some ⟨w.heap.size,0,none⟩) m m,w.alloc (.cells (madeCells zv.cells (m*i.size)) e),_,rfl,by simp [execOp,ho,hkn x _ hx,hkn y _ hy,hr],(hw.alloc _).own (Nat.le_refl _) (by omega) ?_ ?_⟩
  ·simp [madeCells]
  ·rw [← hzs,madeCells_reps _ _ (by omega),List.take_of_length_le (by rw [length_reps];simp)]
theorem DoesE.make0 {t e k by_:Nat} {z:List Value} {x y:Operand} {c:Nat} {kx ky:IntKind} (ht:P.underlying t=some (.slice e)) (he:elemIs P e k by_ z)
  (hx:ev σ x=some (.int kx 0)) (hy:ev σ y=some (.int ky c)) (hb:by_*c≤281474976710656) (h63:c≤9223372036854775807) :
  DoesE P (.makeSlice t x y) σ g η fun v η' =>η' =Own v k e 0 []::η :=
 fun o ρ w ho hkn hw=>by
  obtain ⟨i,zv,hi,hz,hs,hby,hzc,hzl⟩:=he;subst hs hby hzc;have hb' :(i.bytes:Int)*(c:Int)≤281474976710656:=by rw [← Int.natCast_mul];omega
  have hr:=run_make (P:=P) w t e i zv ht hi hz kx ky 0 c (by omega) (by omega) hb' (by omega);simp only [Int.toNat_natCast,Int.toNat_zero] at hr;refine ⟨.slice (some ⟨w.heap.size,0,none⟩) 0 c,w.alloc (.cells (madeCells zv.cells (c*i.size)) e),_,rfl,by simp [execOp,ho,hkn x _ hx,hkn y _ hy,hr],(hw.alloc _).own (Nat.zero_le _) (by omega) ?_ ?_⟩
  ·simp [madeCells]
  ·simp
def partsOf (σ:List (Nat × Value)):List (Nat × Operand)→Nat→Option (List Value)
 |[],_=>some []
 |(i,x)::r,j=>match Nat.beq i j,ev σ x,partsOf σ r (j+1) with|true,some v,some vs=>some (v::vs)|_,_,_=>none
theorem foldl_set:∀ (us pre mid post:List Value) (o:Nat) (q:Nat) (cells:Array Value),cells.toList=pre++mid++post→mid.length=us.length→pre.length=q+o →
  (us.zipIdx o).foldl (fun cs (x:Value × Nat)=>cs.setIfInBounds (q+x.2) x.1) cells=(pre++us++post).toArray
 |[],pre,mid,post,o,q,cells,hc,hm,_=>by
  have:mid=[]:=List.eq_nil_of_length_eq_zero (by simpa using hm);subst this
  apply Array.ext';simpa using hc
 |u::us,pre,mid,post,o,q,cells,hc,hm,hp=>by
  match mid,hm with
  |m::mid,hm =>
   simp only [List.zipIdx_cons,List.foldl_cons];rw [foldl_set us (pre++[u]) mid post (o+1) q _ ?_ (by simpa using hm) (by simp;omega)]
   ·simp
   ·rw [Array.toList_setIfInBounds,hc,← hp]
    simp
theorem fill_parts {σ:List (Nat × Value)} {ρ:Operand→Value} (hk:Knows σ ρ) (k:Nat):∀ (l:List (Nat × Operand)) (j:Nat) (vs:List Value) (pre rest:List Value) (cells:Array Value),
  partsOf σ l j=some vs→(∀ v∈vs,v.cells.size=k)→cells.toList=pre++rest→pre.length=j*k→rest.length=l.length*k →
  Instr.fill (fun i=>some (i*k,k)) cells (l.map fun p=>(p.1,ρ p.2))=some (pre++(vs.map (·.cells.toList)).flatten).toArray
 |[],j,vs,pre,rest,cells,h,_,hc,_,hr=>by
  cases h
  have:rest=[]:=List.eq_nil_of_length_eq_zero (by simpa using hr);subst this;simp only [List.map_nil,Instr.fill,List.flatten_nil,List.append_nil] at hc ⊢;rw [← hc]
 |(i,x)::l,j,vs,pre,rest,cells,h,hs,hc,hp,hr=>by
  simp only [partsOf] at h
  split at h
  ·rename_i v us hb hv hus
   cases h
   have:=Nat.eq_of_beq_eq_true hb;subst this;have hvk:v.cells.size=k:=hs v (by simp);have e2:(l.length+1)*k=l.length*k+k:=Nat.succ_mul _ _;simp only [List.length_cons] at hr;have hsz:cells.size=i*k+((l.length+1)*k):=by rw [← Array.length_toList,hc,List.length_append,hp,hr]
   have hf:(v.cells.zipIdx.foldl (fun cs (x:Value × Nat)=>cs.setIfInBounds (i*k+x.2) x.1) cells)=(pre++v.cells.toList++rest.drop k).toArray:=by
    rw [← Array.foldl_toList,Array.toList_zipIdx];refine foldl_set v.cells.toList pre (rest.take k) (rest.drop k) 0 (i*k) cells ?_ ?_ (by simpa using hp)
    ·rw [List.append_assoc,List.take_append_drop];exact hc
    ·simp [hvk];omega
   have h2:¬ (i*k+v.cells.size>cells.size):=by omega
   simp only [List.map_cons,Instr.fill,hk x v hv];rw [if_neg (by simp [hvk];omega)];refine (congrArg (fun c=>Instr.fill _ c _) hf).trans ?_;rw [fill_parts hk k l (i+1) us (pre++v.cells.toList) (rest.drop k) _ hus (fun u hu=>hs u (by simp [hu])) (by simp) (by simp [hp,hvk,Nat.succ_mul]) (by simp;omega)]
   simp
  ·cases h
theorem partsOf_length {σ:List (Nat × Value)}:∀ (l:List (Nat × Operand)) (j:Nat) (vs:List Value),partsOf σ l j=some vs→vs.length=l.length
 |[],_,_,h=>by cases h;rfl
 |(q,x)::l,j,vs,h=>by
  simp only [partsOf] at h
  split at h
  ·rename_i v us _ _ hus;cases h;simp [partsOf_length l _ _ hus]
  ·cases h
theorem length_cellsOf {k:Nat}:∀ vs:List Value,(∀ v∈vs,v.cells.size=k)→((vs.map (·.cells.toList)).flatten).length=vs.length*k
 |[],_=>by simp
 |v::vs,h=>by
  have:=length_cellsOf vs (fun u hu=>h u (by simp [hu]))
  simp [this,h v (by simp),Nat.succ_mul,Nat.add_comm]
theorem DoesE.lit {t e k by_:Nat} {z:List Value} {parts:Array (Nat × Operand)} {vs:List Value} {len:Nat} (ht:P.underlying t=some (.slice e)) (he:elemIs P e k by_ z) (hk:0<k)
  (hp:partsOf σ parts.toList 0=some vs) (hlen:parts.toList.length=len) (hvs:vs.all (fun v=>Nat.beq v.cells.size k)=true) (h24:len*k≤16777216) :
  DoesE P (.buildSlice t len parts) σ g η fun v η' =>η' =Own v k e len (vs.map (·.cells.toList)).flatten::η :=
 fun o ρ w ho hkn hw=>by
  obtain ⟨i,zv,hi,hz,hs,hby,hzc,hzl⟩:=he;subst hs hzc;have hzs:zv.cells.size=i.size:=by simpa using hzl
  have hv' :∀ v∈vs,v.cells.size=i.size:=fun v hv=>Nat.eq_of_beq_eq_true (List.all_eq_true.1 hvs v hv);have h24' :¬ (16777216<len*i.size):=by omega
  have hvl:((vs.map (·.cells.toList)).flatten).length=len*i.size:=by rw [length_cellsOf vs hv',partsOf_length _ _ _ hp,hlen]
  have hmap:(parts.map fun (p:Nat × Operand)=>(p.1,ρ p.2)).toList=parts.toList.map fun p=>(p.1,ρ p.2):=Array.toList_map;have hsz:(sizeOf e).run P w=.ok i.size w:=run_sizeOf (by simp [hi]) w;have hrun:(Instr.buildSlice t len (parts.map fun (p:Nat × Operand)=>(p.1,ρ p.2))).run P w =
    .ok (.slice (some ⟨w.heap.size,0,none⟩) len len) (w.alloc (.cells (vs.map (·.cells.toList)).flatten.toArray e)):=by
   have hf:∀ c:Array Value,c.size=len*i.size→Instr.fill (fun j=>some (j*i.size,i.size)) c (parts.map fun (p:Nat × Operand)=>(p.1,ρ p.2)).toList=some ((vs.map (·.cells.toList)).flatten).toArray:=fun c hc=>by
    rw [hmap];exact fill_parts hkn i.size parts.toList 0 vs [] c.toList c hp hv' rfl (by simp) (by simp [hc,← hlen])
   by_cases h0:len*i.size=0
   ·simp only [Instr.buildSlice,Sem.run_bind,run_underlying ht,Result.andThen_ok,hsz,h0,if_true,Sem.run_pure,Sem.run_ite]
    rw [hf _ (by simp [h0])]
    simp [newRow]
   ·simp only [Instr.buildSlice,Sem.run_bind,run_underlying ht,Result.andThen_ok,hsz,h24',if_false,h0,Sem.run_pure,Sem.run_ite,zeroValue,typeInfo,run_program,hi,hz]
    rw [hf _ (by simp)]
    simp [newRow]
  refine ⟨.slice (some ⟨w.heap.size,0,none⟩) len len,w.alloc (.cells (vs.map (·.cells.toList)).flatten.toArray e),_,rfl,?_,(hw.alloc _).own (Nat.le_refl _) ?_ ?_ ?_⟩
  ·simp only [execOp,ho,Sem.run_bind]
   have:(parts.map fun x=>match x with|(i,x)=>(i,ρ x))=parts.map fun (p:Nat × Operand)=>(p.1,ρ p.2):=rfl;rw [this,hrun];rfl
  ·have:len≤len*i.size:=Nat.le_mul_of_pos_right _ hk
   omega
  ·simpa using hvl
  ·exact List.take_of_length_le (by simpa using Nat.le_of_eq hvl)
theorem run_append_args {o:Oper} {x y:Operand} {ts:Array TypeId} {ρ:Operand→Value} (ho:o.op=.call ⟨.builtin .append,#[x,y],ts⟩) {w w' :World} {v:Value}
  (h:(Builtin.append_ ts o.type #[ρ x,ρ y]).run P w=.ok v w'):(execOp ρ o).run P w=.ok (.value v) w' :=by
 simp [execOp,ho,resolve,invoke,builtin,h]
theorem DoesE.append {t e k by_:Nat} {z:List Value} {x y:Operand} {v u:Value} {m q:Nat} {cs news:List Value} (ht:P.underlying t=some (.slice e)) (he:elemIs P e k by_ z) (hk:0<k)
  (hx:ev σ x=some v) (hy:ev σ y=some u) (hs:Sel η (Own v k e m cs) ζ) (hu:Sl g.h u k q news) (h1:∀ c∈news,c.oneCell' =true) (hb:(m+q)*by_≤140737488355328) (h63:m+q≤9223372036854775807) :
  DoesE P (.call ⟨.builtin .append,#[x,y],#[t,t]⟩) σ g η fun v' η' =>η' =Own v' k e (m+q) (cs++news)::ζ :=
 fun o ρ w ho hkn hw=>by
  obtain ⟨i,zv,hi,hz,hsz,hby,hzc,hzl⟩:=he;subst hsz hby hzc;have hzs:zv.cells.size=i.size:=by simpa using hzl
  obtain ⟨a,cap,rfl,c1,c2,c3,c4⟩:=hu;have hw1:=hw.sel hs
  cases a with
  |none =>
   have hq:news=[]:=by
    cases news with
    |nil=>rfl
    |cons c r=>obtain ⟨p,hp,_⟩:=c4 0 (by simp);cases hp
   subst hq;have hq0:q=0:=by
    have:q*i.size=0:=by rw [← c3];rfl
    rcases Nat.mul_eq_zero.1 this with h|h<;>omega
   subst hq0;have hv:∃ a cap,v=.slice a m cap∧m≤cap:=by
    obtain ⟨_,_,_,_,_,_,_,_,_,_,_,_,hA,_⟩:=hw1
    rcases hA with ⟨_,⟨rfl,rfl⟩|⟨b,cap,cur,rfl,_,h1,_⟩⟩
    ·exact ⟨none,0,rfl,Nat.le_refl _⟩
    ·exact ⟨_,cap,rfl,h1⟩
   obtain ⟨a,cp,rfl,hle⟩:=hv;refine ⟨.slice a m cp,w,_,rfl,run_append_args ho ?_,by simpa using hw1⟩;rw [hkn x _ hx,hkn y _ hy]
   cases a<;>simp [Builtin.append_,run_underlying ht,sizeOf,typeInfo,hi,Builtin.lenOf,Builtin.firstCells,storeCells,hle]
  |some a =>
   have hnews:∀ j u,news[j]?=some u→w.cell? (a.add j)=some u:=fun j u hj=>by
    obtain ⟨hjl,rfl⟩:=List.getElem?_eq_some_iff.1 hj;obtain ⟨p,hp,hc⟩:=c4 j hjl
    cases hp
    exact Fr.cell_mono hw.ground hc
   have hnx:=hkn x _ hx;have hny:=hkn y _ hy;have fresh:∀ (old:Nat),old<m+q→cs.length=m*i.size→Holds (w.drew.alloc (.cells (cs.toArray++news.toArray++Builtin.zeroCells zv.cells (grownCap w (m+q) old e - (m+q))) e)) g
     (Own (.slice (some ⟨w.heap.size,0,none⟩) (m+q) (grownCap w (m+q) old e)) i.size e (m+q) (cs++news)::ζ):=by
    intro old ho hcl
    have hge:=grownCap_ge w (m+q) old e;have hcm:=grownCap_le_maxLen w (m+q) old e (by simpa [maxLen] using h63);have hlen:(cs++news).length=(m+q)*i.size:=by rw [List.length_append,hcl,c3,Nat.add_mul]
    refine (((hw1.drop).drewN _ (Nat.le_add_right _ _)).alloc _).own hge (by simpa [maxLen] using hcm) ?_ ?_
    ·simp only [Array.size_append,List.size_toArray,size_zeroCells,hzs,hcl,c3,← Nat.add_mul]
     congr 1
     omega
    ·simp only [Array.toList_append,List.append_assoc]
     rw [← List.append_assoc,← hlen];exact List.take_left
   obtain ⟨hA,hA'⟩:cs.length=m*i.size∧((v=.slice none 0 0∧m=0)∨∃ b cap cur,v=.slice (some ⟨b,0,none⟩) m cap∧m≤cap∧cap≤9223372036854775807∧cur.size=cap*i.size∧cur.toList.take (m*i.size)=cs ∧
     ∃ fz,Thawed fz (cap*i.size)∧Holds w g (blk b (.cells cur e fz)::ζ)):=by
    obtain ⟨p1,p2,p3,K,hd,s1,s2,k1,k2,kd,t1,t2,⟨hl,hA⟩,hr⟩:=hw1;refine ⟨hl,hA.imp id ?_⟩;rintro ⟨b,cap,cur,rfl,⟨fz,hbk,hz⟩,h1,h2,h3,h4⟩;exact ⟨b,cap,cur,rfl,h1,h2,h3,h4,fz,hz,p1,p2,p3,K,hd,s1,s2,k1,k2,kd,t1,t2,hbk,hr⟩
   rcases hA' with ⟨rfl,rfl⟩|⟨b,cp,cur,rfl,h1',h2',h3',h4',fz,hfz,hwb⟩
   ·have hcs:cs=[]:=List.eq_nil_of_length_eq_zero (by simpa using hA)
    subst hcs
    by_cases hq:q=0
    ·subst hq
     have hn:news=[]:=List.eq_nil_of_length_eq_zero (by simpa using c3);subst hn;refine ⟨.slice none 0 0,w,_,rfl,run_append_args ho ?_,by simpa using hw1⟩;rw [hnx,hny]
     simp [Builtin.append_,run_underlying ht,sizeOf,typeInfo,hi,Builtin.lenOf,Builtin.firstCells,loadCells,loadCellsFrom]
    ·have hr:=run_append_nil (P:=P) w t o.type e i zv ht hi hz a q cap news c3 hnews (by omega) (by omega) (by have hb:=hb;simp only [Nat.zero_add] at hb;omega)
     have hf:=fresh 0 (by omega) (by simp);simp only [Nat.zero_add,List.nil_append,Array.empty_append] at hf ⊢;exact ⟨_,_,_,rfl,run_append_args ho (by rw [hnx,hny];exact hr),hf⟩
   ·by_cases hroom:m+q≤cp
    ·have hfit:m*i.size+news.length≤cur.size:=by rw [c3,h3',← Nat.add_mul];exact Nat.mul_le_mul_right _ hroom
     have hr:=run_append_roomZ (P:=P) w t o.type e i ht hi b m cp cur hwb.block (by rw [h3'];exact hfz) a q cap news c3 hnews h1 hroom hfit;refine ⟨_,_,_,rfl,run_append_args ho (by rw [hnx,hny];exact hr),hwb.setRow.ownF hfz hroom h2' ?_ ?_⟩
     ·simp only [List.size_toArray,List.length_append,List.length_take,List.length_drop,Array.length_toList]
      omega
     ·have hlen:(cs++news).length=(m+q)*i.size:=by rw [List.length_append,hA,c3,Nat.add_mul]
      rw [h4',← hlen];exact List.take_left
    ·have holds:∀ j u,cs[j]?=some u→w.cell? ((⟨b,0,none⟩:Addr).add j)=some u:=fun j u hj=>by
      have hb0:=hwb.block;rw [add_lit,Nat.zero_add];have hjl:=(List.getElem?_eq_some_iff.1 hj).1;rw [← h4',List.getElem?_take_of_lt (by omega)] at hj
      simpa [World.cell?,hb0] using hj
     have hr:=run_append_grow (P:=P) w t o.type e i zv ht hi hz ⟨b,0,none⟩ m cp cs hA holds a q cap news c3 hnews (by omega) (by omega) (growslice_fits (by omega) hb);exact ⟨_,_,_,rfl,run_append_args ho (by rw [hnx,hny];exact hr),fresh cp (by omega) hA⟩
end
end Go.Sp
