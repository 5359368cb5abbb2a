/- Texts of this proof, one behind the other. -/
import Derived.Test.YtojafegjlahajaaGreatDoorQSpTreeW
import Derived.Lib.Overlaps
import Derived.Laws.Externs
section
/- Texts of this proof, one behind the other. -/
section
/- Texts of this proof. -/
open Go
namespace Go.Sp
theorem lt_tri {a b:List UInt8} (h:¬ a<b) (h' :a≠b):b<a:=Classical.byContradiction fun q=>h' (List.le_antisymm (List.not_lt.1 q) (List.not_lt.1 h))
def putL (L:List LeafT) (x:LeafT):List LeafT:=L.filter (fun y=>decide (y.1<x.1))++(if x.2.1.length=0 then [] else [x])++L.filter (fun y=>decide (x.1<y.1))
theorem mem_putL {L:List LeafT} {x y:LeafT}:y∈putL L x↔(y∈L∧y.1≠x.1)∨(y=x∧x.2.1.length≠0):=by
 unfold putL;simp only [List.mem_append,List.mem_filter,decide_eq_true_eq]
 constructor
 ·rintro ((⟨h,q⟩|h)|⟨h,q⟩)
  ·exact .inl ⟨h,fun e=>by rw [e] at q;exact List.lt_irrefl _ q⟩
  ·split at h
   ·cases h
   ·rename_i q;exact .inr ⟨List.mem_singleton.1 h,q⟩
  ·exact .inl ⟨h,fun e=>by rw [e] at q;exact List.lt_irrefl _ q⟩
 ·rintro (⟨h,q⟩|⟨rfl,q⟩)
  ·by_cases hl:y.1<x.1
   ·exact .inl (.inl ⟨h,hl⟩)
   ·exact .inr ⟨h,lt_tri hl q⟩
  ·rw [if_neg q];exact .inl (.inr (List.mem_singleton.2 rfl))
theorem LRise.put {L:List LeafT} (h:LRise L) (x:LeafT):LRise (putL L x):=by
 unfold putL LRise;rw [List.append_assoc,List.pairwise_append];refine ⟨h.sublist List.filter_sublist,?_,?_⟩
 ·rw [List.pairwise_append]
  refine ⟨?_,h.sublist List.filter_sublist,?_⟩
  ·split
   ·exact .nil
   ·exact List.pairwise_singleton _ _
  ·intro a ha b hb
   split at ha
   ·cases ha
   ·cases List.mem_singleton.1 ha;exact of_decide_eq_true (List.mem_filter.1 hb).2
 ·intro a ha b hb
  have h1:=of_decide_eq_true (List.mem_filter.1 ha).2
  rcases List.mem_append.1 hb with hb|hb
  ·split at hb
   ·cases hb
   ·cases List.mem_singleton.1 hb;exact h1
  ·exact List.lt_trans h1 (of_decide_eq_true (List.mem_filter.1 hb).2)
theorem LRise.ext:∀ {L M:List LeafT},LRise L→LRise M→(∀ y,y∈L↔y∈M)→L=M
 |[],[],_,_,_=>rfl
 |[],y::_,_,_,h=>absurd ((h y).2 (by simp)) (by simp)
 |x::_,[],_,_,h=>absurd ((h x).1 (by simp)) (by simp)
 |x::L,y::M,hL,hM,h=>by
  have hx:=List.pairwise_cons.1 hL;have hy:=List.pairwise_cons.1 hM;have e:x=y:=by
   rcases List.mem_cons.1 ((h x).1 (by simp)) with e|e
   ·exact e
   ·rcases List.mem_cons.1 ((h y).2 (by simp)) with q|q
    ·exact q.symm
    ·exact absurd (List.lt_trans (hy.1 x e) (hx.1 y q)) (List.lt_irrefl _)
  subst e
  congr 1
  refine LRise.ext hx.2 hy.2 fun z=>⟨fun hz=>?_,fun hz=>?_⟩
  ·rcases List.mem_cons.1 ((h z).1 (by simp [hz])) with e|e
   ·subst e;exact absurd (hx.1 z hz) (List.lt_irrefl _)
   ·exact e
  ·rcases List.mem_cons.1 ((h z).2 (by simp [hz])) with e|e
   ·subst e;exact absurd (hy.1 z hz) (List.lt_irrefl _)
   ·exact e
theorem LRise.key {L:List LeafT} (h:LRise L) {x y:LeafT} (hx:x∈L) (hy:y∈L) (e:x.1=y.1):x=y:=by
 obtain ⟨i,hi,rfl⟩:=List.getElem_of_mem hx;obtain ⟨j,hj,rfl⟩:=List.getElem_of_mem hy
 rcases Nat.lt_trichotomy i j with q|q|q
 ·exact absurd (List.pairwise_iff_getElem.1 h i j hi hj q) (by rw [e];exact List.lt_irrefl _)
 ·subst q;rfl
 ·exact absurd (List.pairwise_iff_getElem.1 h j i hj hi q) (by rw [e];exact List.lt_irrefl _)
noncomputable def putE1 (s:Nat) (x:LeafT):Int:=if ¬ (keyOk x.1∧shardOf x.1=s) then 22 else if ¬ ofK x.1 x.2.1 then 4 else 0
noncomputable def putE (s:Nat):List LeafT→Int
 |[]=>0
 |x::l=>if putE1 s x=0 then putE s l else putE1 s x
def putOk (s:Nat) (x:LeafT):Prop:=(keyOk x.1∧shardOf x.1=s)∧ofK x.1 x.2.1
theorem putE1_0 {s:Nat} {x:LeafT}:putE1 s x=0↔putOk s x:=by
 unfold putE1 putOk
 by_cases h:keyOk x.1∧shardOf x.1=s
 ·rw [if_neg (by simp [h])]
  by_cases k:ofK x.1 x.2.1
  ·rw [if_neg (by simp [k])];exact ⟨fun _=>⟨h,k⟩,fun _=>rfl⟩
  ·rw [if_pos k];exact ⟨fun q=>absurd q (by decide),fun q=>absurd q.2 k⟩
 ·rw [if_pos h];exact ⟨fun q=>absurd q (by decide),fun q=>absurd q.1 h⟩
theorem putE_0 {s:Nat}:∀ {l:List LeafT},putE s l=0↔∀ x∈l,putOk s x
 |[]=>by simp [putE]
 |x::l=>by
  unfold putE
  by_cases h:putE1 s x=0
  ·rw [if_pos h,putE_0,List.forall_mem_cons,← putE1_0];exact ⟨fun q=>⟨h,q⟩,fun q=>q.2⟩
  ·rw [if_neg h,List.forall_mem_cons,← putE1_0];exact ⟨fun q=>absurd q h,fun q=>absurd q.1 h⟩
theorem TreeOk.put {s:Nat} {L:List LeafT} {x:LeafT} (h:TreeOk s L) (hx:putOk s x):TreeOk s (putL L x):=by
 refine ⟨fun y hy=>?_,h.2.put x⟩
 rcases mem_putL.1 hy with ⟨q,_⟩|⟨rfl,q⟩
 ·exact h.1 y q
 ·have h0:0<y.2.1.length:=by omega
  exact ⟨⟨hx.1.1,hx.2.1,h0,hx.2.2 h0⟩,hx.1.2⟩
noncomputable def putsL (L:List LeafT) (l:List LeafT):List LeafT:=l.foldl putL L
theorem TreeOk.puts {s:Nat}:∀ {l L:List LeafT},TreeOk s L→(∀ x∈l,putOk s x)→TreeOk s (putsL L l)
 |[],_,h,_=>h
 |x::l,L,h,hl=>TreeOk.puts (l:=l) (L:=putL L x) (h.put (hl x (by simp))) fun y hy=>hl y (by simp [hy])
theorem underL_put {L:List LeafT} {x:LeafT} {p:List UInt8} (hr:LRise L) (h:p.isPrefixOf (wayOf x.1)=false):underL p (putL L x)=underL p L:=by
 refine LRise.ext ((hr.put x).under p) (hr.under p) fun y=>?_;unfold underL;rw [List.mem_filter,List.mem_filter,mem_putL]
 constructor
 ·rintro ⟨⟨q,_⟩|⟨rfl,_⟩,k⟩
  ·exact ⟨q,k⟩
  ·rw [h] at k;cases k
 ·rintro ⟨q,k⟩
  exact ⟨.inl ⟨q,fun e=>by rw [e,h] at k;cases k⟩,k⟩
def lessL (L:List LeafT) (s:List UInt8):Nat:=(L.filter fun y=>decide (y.1<s)).length
theorem lessL_le (L:List LeafT) (s:List UInt8):lessL L s≤L.length:=List.length_filter_le _ _
theorem less_cut:∀ {L:List LeafT} (s:List UInt8),LRise L→L.take (lessL L s)=L.filter (fun y=>decide (y.1<s))∧L.drop (lessL L s)=L.filter (fun y=>!decide (y.1<s))
 |[],_,_=>⟨rfl,rfl⟩
 |x::L,s,h=>by
  have hx:=List.pairwise_cons.1 h;obtain ⟨h1,h2⟩:=less_cut s hx.2
  by_cases q:x.1<s
  ·have e:lessL (x::L) s=lessL L s+1:=by unfold lessL;rw [List.filter_cons_of_pos (by simpa using q)];rfl
   rw [e,List.take_succ_cons,List.drop_succ_cons,h1,h2,List.filter_cons_of_pos (by simpa using q),List.filter_cons_of_neg (by simpa using q)];exact ⟨rfl,rfl⟩
  ·have n:∀ y∈L,¬ y.1<s:=fun y hy k=>q (List.lt_trans (hx.1 y hy) k)
   have e0:L.filter (fun y=>decide (y.1<s))=[]:=List.filter_eq_nil_iff.2 fun y hy=>by simpa using n y hy
   have e:lessL (x::L) s=0:=by unfold lessL;rw [List.filter_cons_of_neg (by simpa using q),e0];rfl
   have e1:L.filter (fun y=>!decide (y.1<s))=L:=List.filter_eq_self.2 fun y hy=>by simpa using n y hy
   rw [e,List.filter_cons_of_neg (by simpa using q),List.filter_cons_of_pos (by simpa using q),e0,e1];exact ⟨rfl,rfl⟩
theorem less_lt {L:List LeafT} {s:List UInt8} (h:LRise L) {i:Nat} (hi:i<L.length):L[i].1<s↔i<lessL L s:=by
 obtain ⟨h1,h2⟩:=less_cut s h
 constructor
 ·intro q
  refine Nat.lt_of_not_ge fun k=>?_;have:L[i]∈L.drop (lessL L s):=List.mem_drop_iff_getElem.2 ⟨i - lessL L s,by omega,by congr 1;omega⟩;rw [h2,List.mem_filter] at this
  simpa [q] using this.2
 ·intro q
  have:L[i]∈L.take (lessL L s):=List.mem_take_iff_getElem.2 ⟨i,by omega,rfl⟩;rw [h1,List.mem_filter] at this
  simpa using this.2
def isAt (L:List LeafT) (s:List UInt8):Prop:=∃ h:lessL L s<L.length,L[lessL L s].1=s
noncomputable instance (L:List LeafT) (s:List UInt8):Decidable (isAt L s):=Classical.propDecidable _
theorem isAt_iff {L:List LeafT} {s:List UInt8} (h:LRise L):isAt L s↔∃ x∈L,x.1=s:=by
 constructor
 ·rintro ⟨q,e⟩;exact ⟨_,List.getElem_mem q,e⟩
 ·rintro ⟨x,hx,e⟩
  obtain ⟨i,hi,rfl⟩:=List.getElem_of_mem hx;have h1:¬ i<lessL L s:=fun q=>by have:=(less_lt h hi).2 q;rw [e] at this;exact List.lt_irrefl _ this
  have h2:¬ lessL L s<i:=fun q=>by
   have:=List.pairwise_iff_getElem.1 h _ _ (by omega) hi q;rw [e] at this;exact absurd ((less_lt h (by omega)).1 this) (Nat.lt_irrefl _)
  have e2:i=lessL L s:=by omega
  exact ⟨by omega,(congrArg Prod.fst (show L[lessL L s]=L[i] by congr 1;exact e2.symm)).trans e⟩
theorem put_there {L:List LeafT} {x:LeafT} (h:LRise L) (q:isAt L x.1):putL L x=L.take (lessL L x.1)++(if x.2.1.length=0 then [] else [x])++L.drop (lessL L x.1+1):=by
 obtain ⟨h1,h2⟩:=less_cut x.1 h;obtain ⟨q1,q2⟩:=q;unfold putL;rw [h1];congr 1;have e:L.drop (lessL L x.1)=L[lessL L x.1]::L.drop (lessL L x.1+1):=List.drop_eq_getElem_cons q1;have hp:LRise (L.drop (lessL L x.1)):=h.sublist (List.drop_sublist _ _);rw [e] at hp;have hq:=(List.pairwise_cons.1 hp).1;have k:L.filter (fun y=>decide (x.1<y.1))=(L.drop (lessL L x.1)).filter (fun y=>decide (x.1<y.1)):=by
  rw [h2,List.filter_filter];congr 1;funext y
  by_cases c:x.1<y.1
  ·have:¬ y.1<x.1:=fun z=>List.lt_irrefl _ (List.lt_trans c z)
   simp [c,this]
  ·simp [c]
 rw [k,e,List.filter_cons_of_neg (by simp [q2,List.lt_irrefl])];exact List.filter_eq_self.2 fun y hy=>by simpa [q2] using hq y hy
theorem put_new {L:List LeafT} {x:LeafT} (h:LRise L) (q:¬ isAt L x.1):putL L x=L.take (lessL L x.1)++(if x.2.1.length=0 then [] else [x])++L.drop (lessL L x.1):=by
 obtain ⟨h1,h2⟩:=less_cut x.1 h;unfold putL;rw [h1,h2];congr 1;refine List.filter_congr fun y hy=>?_;have ne:y.1≠x.1:=fun e=>q ((isAt_iff h).2 ⟨y,hy,e⟩)
 by_cases c:y.1<x.1
 ·have:¬ x.1<y.1:=fun z=>List.lt_irrefl _ (List.lt_trans c z)
  simp [c,this]
 ·simp [c,lt_tri c ne]
noncomputable def getL (L:List LeafT) (s:List UInt8):List RecT:=if h:isAt L s then (L[lessL L s]'h.1).2.1 else []
theorem getL_yes {L:List LeafT} (h:LRise L) {x:LeafT} (hx:x∈L):getL L x.1=x.2.1:=by
 have q:isAt L x.1:=(isAt_iff h).2 ⟨x,hx,rfl⟩;unfold getL;rw [dif_pos q];rw [h.key (List.getElem_mem q.1) hx q.2]
end Go.Sp
end
section
/- Texts of this proof. -/
namespace Go.Sp
section
variable {ro:Option Nat} {P:Program} {fn:Func} {n:Nat} {R:Ending→World→Prop} {k:List Item} {σ:List (Nat × Value)} {D:List Deferred} {g:Gr} {η ζ θ:List SProp} {ops:Array Oper} {i d:Nat} {ls:List Nat}
 {t te e:TypeId} {x y z u:Operand} {w:World} {a:Option Addr} {m c s:Nat} {kx ky kz:IntKind}
theorem DoesE.litO {t e k by_:Nat} {z:List Value} {parts:Array (Nat × Operand)} {vs cs:List Value} {len:Nat} (ht:P.underlying t=some (.slice e)) (he:elemIs P e k by_ z)
  (hp:partsOf σ parts.toList 0=some vs) (hlen:parts.toList.length=len) (hvs:vs.all (fun v=>Nat.beq v.cells.size k)=true) (h24:len*k≤16777216) (hcs:cs=(vs.map (·.cells.toList)).flatten) :
  DoesE P (.buildSlice t len parts) σ g η fun v η' =>∃ b,v=.slice (some ⟨b,0,none⟩) len len∧η' =obj b e cs::η :=
 fun o ρ w ho hkn hw=>by
  subst hcs;obtain ⟨i,zv,hi,hz,hs,hby,hzc,hzl⟩:=he;subst hs hzc;have hzs:zv.cells.size=i.size:=by simpa using hzl
  have hv' :∀ v∈vs,v.cells.size=i.size:=fun v hv=>Nat.eq_of_beq_eq_true (List.all_eq_true.1 hvs v hv);have h24' :¬ (16777216<len*i.size):=by omega
  have hmap:(parts.map fun (p:Nat × Operand)=>(p.1,ρ p.2)).toList=parts.toList.map fun p=>(p.1,ρ p.2):=Array.toList_map;have hsz:(sizeOf e).run P w=.ok i.size w:=run_sizeOf (by simp [hi]) w;have hrun:(Instr.buildSlice t len (parts.map fun (p:Nat × Operand)=>(p.1,ρ p.2))).run P w =
    .ok (.slice (some ⟨w.heap.size,0,none⟩) len len) (w.alloc (.cells (vs.map (·.cells.toList)).flatten.toArray e)):=by
   have hf:∀ c:Array Value,c.size=len*i.size→Instr.fill (fun j=>some (j*i.size,i.size)) c (parts.map fun (p:Nat × Operand)=>(p.1,ρ p.2)).toList=some ((vs.map (·.cells.toList)).flatten).toArray:=fun c hc=>by
    rw [hmap];exact fill_parts hkn i.size parts.toList 0 vs [] c.toList c hp hv' rfl (by simp) (by simp [hc,← hlen])
   by_cases h0:len*i.size=0
   ·simp only [Instr.buildSlice,Sem.run_bind,run_underlying ht,Result.andThen_ok,hsz,h0,if_true,Sem.run_pure,Sem.run_ite]
    rw [hf _ (by simp [h0])]
    simp [newRow]
   ·simp only [Instr.buildSlice,Sem.run_bind,run_underlying ht,Result.andThen_ok,hsz,h24',if_false,h0,Sem.run_pure,Sem.run_ite,zeroValue,typeInfo,run_program,hi,hz]
    rw [hf _ (by simp)]
    simp [newRow]
  refine ⟨.slice (some ⟨w.heap.size,0,none⟩) len len,w.alloc (.cells (vs.map (·.cells.toList)).flatten.toArray e),_,⟨_,rfl,rfl⟩,?_,hw.alloc _⟩;simp only [execOp,ho,Sem.run_bind];have:(parts.map fun x=>match x with|(i,x)=>(i,ρ x))=parts.map fun (p:Nat × Operand)=>(p.1,ρ p.2):=rfl;rw [this,hrun];rfl
theorem OwnP.toCells {α:Type} {T:Rp α} {e:TypeId} {v:Value} {xs:List α} {m:Fr} {K:Nat} (hK:T.k=K) (x:OwnP T e v xs m):∃ css,All2 (T.rel Fr.emp) css xs∧OwnP (Rp.cells K) e v css m:=by
 subst hK;obtain ⟨css,h1,h2⟩:=x;have hl:=h1.length;refine ⟨css,h1,css,all2_self (fun cs hc=>?_) (fun cs hc v hv=>All2.one h1 v (List.mem_flatten.2 ⟨cs,hc,hv⟩)),by rw [hl];exact h2⟩;obtain ⟨i,hi,rfl⟩:=List.getElem_of_mem hc;exact T.len (h1.get i hi (by omega))
theorem OwnP.ofCells {α:Type} {T:Rp α} {e:TypeId} {v:Value} {xs:List α} {css:List (List Value)} {m:Fr} {K:Nat} (hK:T.k=K) (h:All2 (T.rel Fr.emp) css xs) (x:OwnP (Rp.cells K) e v css m):OwnP T e v xs m:=by
 subst hK;obtain ⟨ds,h1,h2⟩:=x;obtain ⟨rfl,_,_⟩:=all2_lens h1;exact ⟨ds,h,by rw [← h.length];exact h2⟩
theorem S.toCells {todo:List Item} {α:Type} {T:Rp α} {v:Value} {xs:List α} {K:Nat} (hK:T.k=K) (s:Sel η (OwnP T e v xs) ζ) (h:∀ css,All2 (T.rel Fr.emp) css xs→S ro P fn n R todo σ D g (OwnP (Rp.cells K) e v css::ζ)):S ro P fn n R todo σ D g η :=
 S.open (bs:=fun q:{css:List (List Value) // All2 (T.rel Fr.emp) css xs}=>[OwnP (Rp.cells K) e v q.1]) s (fun m x=>let ⟨css,a,b⟩:=x.toCells hK;⟨⟨css,a⟩,m,Fr.emp,Fr.disj_symm (Fr.emp_disj _),Fr.sub_refl _,Fr.emp_sub _,b,trivial⟩) fun q=>h q.1 q.2
theorem Addr.add_row (b q j:Nat):(⟨b,q,none⟩:Addr).add j=⟨b,q+j,none⟩:=add_lit b q j
theorem DoesE.copyRow {K lo:Nat} {css ds:List (List Value)} {q:Value} (ht:P.underlying t=some (.slice e)) (he:(P.info? e).map (·.size)=some K) (hK:0<K)
  (hx:ev σ x=some (.slice (if c=lo then a else a.map (·.add (lo*K))) (css.length - lo) (c - lo))) (hy:ev σ y=some q) (hu:Arr (Rp.cells K) g.h q ds) (hs:Sel η (OwnP (Rp.cells K) e (.slice a css.length c) css) ζ)
  (hl:lo+ds.length≤css.length) (h0:0<ds.length) :
  DoesE P (.call ⟨.builtin .copy,#[x,y],#[t,te]⟩) σ g η fun v η' =>v=.int .i64 (ds.length:Int)∧η' =OwnP (Rp.cells K) e (.slice a css.length c) (css.take lo++ds++css.drop (lo+ds.length))::ζ :=
 fun o ρ w ho hkn hw=>by
  have hw1:=hw.sel hs;obtain ⟨b,cap,cur,css',hv,h1,h2,h3,h4,ha,fz,hfz,hb⟩:=hw1.ownP_block (by omega);obtain ⟨rfl,hlen,hone⟩:=all2_lens ha
  injection hv with e1 _ e3
  subst e1 e3;have hkk:(Rp.cells K).k=K:=rfl;rw [hkk] at h3 h4 hfz;obtain ⟨dss,hda,au,cu,rfl,c1,c2,c3,c4⟩:=hu;have hd2:dss=ds:=all2_cells hda;subst hd2;rw [hkk] at c3;have hdone:∀ v∈dss.flatten,v.oneCell' =true:=All2.one hda;have hpos:0<dss.flatten.length:=by rw [c3];exact Nat.mul_pos h0 hK
  obtain ⟨ad,had,_⟩:=c4 0 hpos;subst had;have hnews:∀ jj v,dss.flatten[jj]?=some v→w.cell? (ad.add jj)=some v:=fun jj v hv=>by
   obtain ⟨hjl,rfl⟩:=List.getElem?_eq_some_iff.1 hv;obtain ⟨p,hp,hc⟩:=c4 jj hjl
   cases hp
   exact Fr.cell_mono hw.ground hc
  have hne:¬ c=lo:=by omega
  rw [if_neg hne] at hx;simp only [Option.map_some,Addr.add_row,Nat.zero_add] at hx;have hmin:Nat.min dss.length (css'.length - lo)=dss.length:=Nat.min_eq_left (by omega);have hf:=run_firstCells_some (P:=P) w K dss.length ad dss.length cu dss.flatten c3 hnews;have hmul:lo*K+dss.length*K≤c*K:=by rw [← Nat.add_mul];exact Nat.mul_le_mul_right _ (by omega)
  have hst:=run_storeCells_z P b (lo*K) e hfz dss.flatten 0 cur w hb.block (by omega) (by rw [c3];omega) hdone;simp only [Nat.add_zero] at hst;refine ⟨_,w.setRow b (cur.toList.take (lo*K)++dss.flatten++cur.toList.drop (lo*K+dss.flatten.length)).toArray,_,⟨rfl,rfl⟩,?_,?_⟩
  ·simp [execOp,ho,hkn x _ hx,hkn y _ hy,resolve,invoke,builtin,Builtin.copy_,run_underlying ht,Builtin.lenOf,run_sizeOf he,hmin,hf,hst,goInt]
  ·refine (hb.setRow (cs:=(cur.toList.take (lo*K)++dss.flatten++cur.toList.drop (lo*K+dss.flatten.length)).toArray)).imp fun _ x=>Sat.cons_imp (fun m' hm' =>?_) (fun _ z=>z) x
   have hdl:∀ cs∈dss,cs.length=K:=fun cs hc=>by
    obtain ⟨i,hi,rfl⟩:=List.getElem_of_mem hc;exact (Rp.cells K).len (hda.get i hi hi)
   have hnl:(css'.take lo++dss++css'.drop (lo+dss.length)).length=css'.length:=by simp;omega
   have hlen2:∀ cs∈css'.take lo++dss++css'.drop (lo+dss.length),cs.length=K:=fun cs hc=>by
    rcases List.mem_append.1 hc with hc|hc
    ·rcases List.mem_append.1 hc with hc|hc
     ·exact hlen cs (List.mem_of_mem_take hc)
     ·exact hdl cs hc
    ·exact hlen cs (List.mem_of_mem_drop hc)
   have hone2:∀ cs∈css'.take lo++dss++css'.drop (lo+dss.length),∀ v∈cs,v.oneCell' =true:=fun cs hc=>by
    rcases List.mem_append.1 hc with hc|hc
    ·rcases List.mem_append.1 hc with hc|hc
     ·exact hone cs (List.mem_of_mem_take hc)
     ·exact fun v hv=>hdone v (List.mem_flatten.2 ⟨cs,hc,hv⟩)
    ·exact hone cs (List.mem_of_mem_drop hc)
   refine ⟨_,all2_self hlen2 hone2,?_,.inr ⟨b,c,_,by rw [hnl],⟨fz,hm',hfz⟩,by omega,h2,?_,?_⟩⟩
   ·rw [cells_flat_len hlen2,hkk]
   ·have hcl:cur.toList.length=c*K:=by simpa using h3
    simp only [List.size_toArray,List.length_append,List.length_take,List.length_drop,hkk];rw [c3,hcl]
    omega
   ·rw [hnl,hkk,List.toList_toArray,List.flatten_append,List.flatten_append]
    have hcut:css'.length*K≤c*K:=Nat.mul_le_mul_right _ h1;have hlo:lo*K≤css'.length*K:=Nat.mul_le_mul_right _ (by omega);have hhi:lo*K+dss.length*K≤css'.length*K:=by rw [← Nat.add_mul];exact Nat.mul_le_mul_right _ hl
    have e1:cur.toList.take (lo*K)=(css'.take lo).flatten:=by
     rw [← cells_flat_take hlen,← h4,List.take_take,Nat.min_eq_left hlo]
    have e2:(cur.toList.drop (lo*K+dss.flatten.length)).take (css'.length*K - (lo*K+dss.flatten.length))=(css'.drop (lo+dss.length)).flatten:=by
     rw [← cells_flat_drop hlen,← h4,List.drop_take,c3,Nat.add_mul]
    rw [e1];have l1:((css'.take lo).flatten++dss.flatten).length=lo*K+dss.flatten.length:=by
     rw [List.length_append,cells_flat_len (fun cs hc=>hlen cs (List.mem_of_mem_take hc)),List.length_take,Nat.min_eq_left (by omega)]
    rw [List.take_append,l1,List.take_of_length_le (by rw [l1,c3];exact hhi),e2]
theorem DoesE.shiftRow {K lo:Nat} {css:List (List Value)} (ht:P.underlying t=some (.slice e)) (he:(P.info? e).map (·.size)=some K) (hlo:lo<css.length) (hroom:css.length+1≤c)
  (hx:ev σ x=some (.slice (if c=lo+1 then a else a.map (·.add ((lo+1)*K))) (css.length+1 - (lo+1)) (c - (lo+1)))) (hy:ev σ y=some (.slice (if c=lo then a else a.map (·.add (lo*K))) (css.length+1 - lo) (c - lo)))
  (hs:Sel η (OwnP (Rp.cells K) e (.slice a css.length c) css) ζ) :
  DoesE P (.call ⟨.builtin .copy,#[x,y],#[t,te]⟩) σ g η fun v η' =>v=.int .i64 ((css.length - lo:Nat):Int)∧η' =OwnP (Rp.cells K) e (.slice a (css.length+1) c) (css.take (lo+1)++css.drop lo)::ζ :=
 fun o ρ w ho hkn hw=>by
  have hw1:=hw.sel hs;obtain ⟨b,cap,cur,css',hv,h1,h2,h3,h4,ha,fz,hfz,hb⟩:=hw1.ownP_block (by omega);obtain ⟨rfl,hlen,hone⟩:=all2_lens ha
  injection hv with e1 _ e3
  subst e1 e3;have hkk:(Rp.cells K).k=K:=rfl;rw [hkk] at h3 h4 hfz;rw [if_neg (by omega:¬ c=lo+1)] at hx;rw [if_neg (by omega:¬ c=lo)] at hy;simp only [Option.map_some,Addr.add_row,Nat.zero_add] at hx hy;have hcl:cur.toList.length=c*K:=by simpa using h3
  let news:=(css'.drop lo).flatten
  have hnl:news.length=(css'.length - lo)*K:=by
   have:=cells_flat_len (k:=K) (css:=css'.drop lo) (fun cs hc=>hlen cs (List.mem_of_mem_drop hc));rw [List.length_drop] at this;exact this
  have hnews0:news=(cur.toList.take (css'.length*K)).drop (lo*K):=by rw [h4,cells_flat_drop hlen]
  have hbl:=hb.block;have hcell:∀ jj v,news[jj]?=some v→w.cell? ((⟨b,lo*K,none⟩:Addr).add jj)=some v:=fun jj v hv=>by
   rw [Addr.add_row];rw [hnews0,List.getElem?_drop,List.getElem?_take] at hv
   split at hv
   ·simp only [World.cell?,hbl]
    simpa using hv
   ·cases hv
  have hmin:Nat.min (css'.length+1 - lo) (css'.length - lo)=css'.length - lo:=Nat.min_eq_right (by omega);have hf:=run_firstCells_some (P:=P) w K (css'.length - lo) ⟨b,lo*K,none⟩ (css'.length+1 - lo) (c - lo) news hnl hcell;have hnone:∀ v∈news,v.oneCell' =true:=fun v hv=>flat_one (fun cs hc=>hone cs (List.mem_of_mem_drop hc)) v hv;have hm1:(lo+1)*K+(css'.length - lo)*K=(css'.length+1)*K:=by rw [← Nat.add_mul];congr 1;omega
  have hm2:(css'.length+1)*K≤c*K:=Nat.mul_le_mul_right K hroom;have hst:=run_storeCells_z P b ((lo+1)*K) e hfz news 0 cur w hbl (by omega) (by rw [hnl];omega) hnone;simp only [Nat.add_zero] at hst;refine ⟨_,w.setRow b (cur.toList.take ((lo+1)*K)++news++cur.toList.drop ((lo+1)*K+news.length)).toArray,_,⟨rfl,rfl⟩,?_,?_⟩
  ·simp [execOp,ho,hkn x _ hx,hkn y _ hy,resolve,invoke,builtin,Builtin.copy_,run_underlying ht,Builtin.lenOf,run_sizeOf he,hmin,hf,hst,goInt]
  ·refine (hb.setRow (cs:=(cur.toList.take ((lo+1)*K)++news++cur.toList.drop ((lo+1)*K+news.length)).toArray)).imp fun _ x=>Sat.cons_imp (fun m' hm' =>?_) (fun _ z=>z) x
   have hel:(css'.take (lo+1)++css'.drop lo).length=css'.length+1:=by simp;omega
   have hsub:∀ cs∈css'.take (lo+1)++css'.drop lo,cs∈css' :=fun cs hc=>(List.mem_append.1 hc).elim List.mem_of_mem_take List.mem_of_mem_drop;refine ⟨_,all2_self (fun cs hc=>hlen cs (hsub cs hc)) (fun cs hc=>hone cs (hsub cs hc)),?_,.inr ⟨b,c,_,by rw [hel],⟨fz,hm',hfz⟩,by omega,h2,?_,?_⟩⟩
   ·rw [cells_flat_len (fun cs hc=>hlen cs (hsub cs hc)),hkk]
   ·simp only [List.size_toArray,List.length_append,List.length_take,List.length_drop,hkk]
    rw [hnl,hcl]
    omega
   ·rw [hel,hkk,List.toList_toArray,List.flatten_append]
    have e1:cur.toList.take ((lo+1)*K)=(css'.take (lo+1)).flatten:=by
     rw [← cells_flat_take hlen,← h4,List.take_take,Nat.min_eq_left (Nat.mul_le_mul_right K (by omega))]
    have e2:(css'.length+1)*K=((css'.take (lo+1)).flatten++news).length:=by
     rw [List.length_append,hnl,cells_flat_len (fun cs hc=>hlen cs (List.mem_of_mem_take hc)),List.length_take,Nat.min_eq_left (by omega)]
     omega
    rw [e1,e2,List.take_left']
    rfl
theorem DoesE.appendZG {K by_ lo q:Nat} {zc:List Value} {css:List (List Value)} {t2:TypeId} {ki kj:IntKind} {zi:Int} (ht:P.underlying t=some (.slice e)) (ht2:P.underlying t2=some (.int ki)) (he:elemIs P e K by_ zc) (hz1:∀ v∈zc,v.oneCell' =true) (hK:0<K)
  (hx:ev σ x=some (.slice a lo c)) (hy:ev σ y=some (.int kj zi)) (hzi:zi=(q:Int)) (hs:Sel η (OwnP (Rp.cells K) e (.slice a css.length c) css) ζ) (hlo:lo≤css.length) (h0:0<css.length) (hc:css.length≤c) (hgrow:c<lo+q) (hb:(lo+q)*by_≤140737488355328) (h63:lo+q≤9223372036854775807) :
  DoesE P (.call ⟨.builtin .append,#[x,y],#[t,t2]⟩) σ g η fun v' η' =>∃ b' c',v' =.slice (some ⟨b',0,none⟩) (lo+q) c' ∧lo+q≤c' ∧η' =OwnP (Rp.cells K) e v' (css.take lo++List.replicate q zc)::OwnP (Rp.cells K) e (.slice a css.length c) css::ζ:=by
 subst hzi
 intro o ρ w ho hkn hw
 have hw1:=hw.sel hs;obtain ⟨b,cap,cur,css',hv,h1,h2,h3,h4,ha,fz,hfz,hb0⟩:=hw1.ownP_block (by omega);obtain ⟨rfl,hlen,hone⟩:=all2_lens ha
 injection hv with e1 _ e3
 subst e1 e3;have hkk:(Rp.cells K).k=K:=rfl;rw [hkk] at h3 h4 hfz;obtain ⟨i,zv,hi,hzz,hsz,hby,hzc,hzl⟩:=he;subst hby hzc;have hzs:zv.cells.size=K:=by simpa using hzl
 have hq:q*i.bytes≤140737488355328:=Nat.le_trans (Nat.mul_le_mul_right _ (by omega)) hb;have wl:IntKind.i64.wrap (q:Int)=q:=by rw [IntKind.wrap_i64];omega
 have n1:¬ ((q:Int)<0):=by omega
 have n2:¬ (281474976710656<(q:Int)*(i.bytes:Int)):=by
  have:((q*i.bytes:Nat):Int)≤140737488355328:=by omega
  rw [Int.natCast_mul] at this;omega
 have n3:¬ (lo+q≤c):=by omega
 have n4:¬ (9223372036854775807<(lo:Int)+(q:Int)):=by omega
 have n5:¬ (281474976710656<Builtin.nextslicecap (lo+q) c*i.bytes):=by
  have:=growslice_fits (need:=lo+q) (old:=c) (bytes:=i.bytes) hgrow hb
  omega
 have n6:q*i.size≠0:=Nat.ne_of_gt (Nat.mul_pos (by omega) (by omega));have hge:=grownCap_ge w (lo+q) c e;have hcm:=grownCap_le_maxLen w (lo+q) c e (by simpa [maxLen] using h63);have hcl:cur.toList.length=c*K:=by simpa using h3
 have hlk:lo*K≤css'.length*K:=Nat.mul_le_mul_right _ hlo;have htk:(css'.take lo).flatten=cur.toList.take (lo*K):=by rw [← cells_flat_take hlen,← h4,List.take_take,Nat.min_eq_left hlk]
 have hol:((css'.take lo).flatten).length=lo*i.size:=by
  rw [cells_flat_len (fun cs hc=>hlen cs (List.mem_of_mem_take hc)),List.length_take,Nat.min_eq_left hlo,hsz]
 have holds:∀ j v,((css'.take lo).flatten)[j]?=some v→w.cell? ((⟨b,0,none⟩:Addr).add j)=some v:=fun j v hv=>by
  rw [Addr.add_row,Nat.zero_add];rw [htk,List.getElem?_take] at hv
  split at hv
  ·simp only [World.cell?,hb0.block]
   simpa using hv
  ·cases hv
 have hfo:=run_firstCells_some (P:=P) w.drew i.size lo ⟨b,0,none⟩ lo c ((css'.take lo).flatten) hol (by simpa using holds);have hrun:(Builtin.append_ #[t,t2] o.type #[.slice (some ⟨b,0,none⟩) lo c,.int kj (q:Int)]).run P w=.ok (.slice (some ⟨w.heap.size,0,none⟩) (lo+q) (grownCap w (lo+q) c e)) (w.drew.alloc (.cells (((css'.take lo).flatten).toArray++Builtin.zeroCells zv.cells q++Builtin.zeroCells zv.cells (grownCap w (lo+q) c e - (lo+q))) e)):=by
  simp [Builtin.append_,run_underlying ht,run_underlying ht2,sizeOf,typeInfo,zeroValue,hi,hzz,asInt,asIntOf,wl,n1,n2,n3,n4,n5,n6,hfo,Question.forced,newRow,grownCap]
 have hzr:∀ q,(Builtin.zeroCells zv.cells q).toList=reps zv.cells.toList q:=fun q=>by
  have:=madeCells_reps zv.cells q (by omega);rw [← this];rfl
 refine ⟨_,_,_,⟨_,_,rfl,hge,rfl⟩,run_append_args ho (by rw [hkn x _ hx,hkn y _ hy];exact hrun),?_⟩;have hrf:∀ q,(List.replicate q zv.cells.toList).flatten=reps zv.cells.toList q:=fun q=>by
  induction q with
  |zero=>rfl
  |succ q ih=>rw [List.replicate_succ,List.flatten_cons,ih];rfl
 have hnl:(css'.take lo++List.replicate q zv.cells.toList).length=lo+q:=by simp;omega
 have hlen2:∀ cs∈css'.take lo++List.replicate q zv.cells.toList,cs.length=K:=fun cs hc=>by
  rcases List.mem_append.1 hc with hc|hc
  ·exact hlen cs (List.mem_of_mem_take hc)
  ·rw [List.eq_of_mem_replicate hc];exact hzl
 have hone2:∀ cs∈css'.take lo++List.replicate q zv.cells.toList,∀ v∈cs,v.oneCell' =true:=fun cs hc=>by
  rcases List.mem_append.1 hc with hc|hc
  ·exact hone cs (List.mem_of_mem_take hc)
  ·rw [List.eq_of_mem_replicate hc];exact hz1
 refine (((hw1.drewN _ (Nat.le_add_right _ _)).alloc _).own (k:=K) (m:=lo+q) (cap:=grownCap w (lo+q) c e) (cs:=(css'.take lo++List.replicate q zv.cells.toList).flatten) hge (by simpa [maxLen] using hcm) ?_ ?_).imp fun _=>Sat.cons_imp (OwnP.of (T:=Rp.cells K) (all2_self hlen2 hone2) hnl.symm rfl rfl) fun _ q=>q
 ·simp only [Array.size_append,size_zeroCells,hzs,List.size_toArray,hol,hsz,← Nat.add_mul]
  congr 1;omega
 ·rw [Array.toList_append,Array.toList_append,hzr,hzr,List.toList_toArray,List.flatten_append,hrf]
  have:((css'.take lo).flatten++reps zv.cells.toList q).length=(lo+q)*K:=by rw [List.length_append,hol,length_reps,hzl,hsz,Nat.add_mul]
  rw [← this];exact List.take_left
theorem Does.overlapsNo {f : FuncId} {fn' : Func} {tS tR K : TypeId} {ts : Array TypeId} {b1 b2 q la ca lb cb n2 c2 : Nat} {cs : List Value} {css : List (List Value)} {f0 : Operand} (hf : P.funcs[f]? = some fn') (h1 : (fn'.name == "runtime.NumGoroutine") = false) (h2 : fn'.body.isNone = true) (h3 : Extern.findNext fn' = none)
  (h4:Extern.find fn' =some (Extern.SlicesOverlaps.overlaps #[tS,tS] #[tR])) (ht:P.underlying tS=some (.slice e)) (he:(P.info? e).map (·.size)=some s) (hK:0<K)
  (h0:ev σ f0=some (.func (.func f) #[] #[])) (hx:ev σ x=some (.slice (some ⟨b1,0,none⟩) la ca)) (hy:ev σ y=some (.slice (some ⟨b2,q,none⟩) lb cb))
  (s1:Sel η (obj b1 e cs) ζ) (s2:Sel ζ (OwnP (Rp.cells K) e (.slice (some ⟨b2,0,none⟩) n2 c2) css) θ) (hn:0<css.length) :
  Does P (.call ⟨.value f0,#[x,y],ts⟩) σ g η (.bool false) η:=by
 intro o ρ w ho hk hw
 refine ⟨w,?_,hw⟩;have hw1:=hw.sel s1;have hb1:w.heap[b1]?=some (.cells cs.toArray e (0,0)):=hw1.block;have hw2:Holds w g (OwnP (Rp.cells K) e (.slice (some ⟨b2,0,none⟩) n2 c2) css::obj b1 e cs::θ):=hw1.perm ((List.Perm.cons _ s2.perm).trans (List.Perm.swap _ _ _));obtain ⟨b,cap,cur,css',hv,g1,g2,g3,g4,ha,fz,hfz,hb⟩:=hw2.ownP_block hn;have hbl:=hb.block
 injection hv with e1 _ e3
 injection e1 with e1
 injection e1 with e1
 subst e1;have hne:b1≠b2:=by
  rintro rfl;obtain ⟨_,_,_,kk,_,_,_,m1,m2,dj,_,_,o1,m3,_,_,t1,_,o2,_⟩:=hb;have a1:m1 b1=some _:=o1;have a2:m2 b1=some _:=t1 _ _ o2
  rcases dj b1 with z|z
  ·rw [z] at a1;cases a1
  ·rw [z] at a2;cases a2
 have hcur:cur.size≠0:=by
  have hkk:(Rp.cells K).k=K:=rfl;rw [g3,hkk];exact Nat.ne_of_gt (Nat.mul_pos (by omega) hK)
 have hov:=Lib.run_overlaps_apart (P:=P) w tS tR e ht s (fun w=>run_sizeOf he w) ⟨b1,0,none⟩ ⟨b2,q,none⟩ la ca lb cb hne e e cs.toArray.size cur.size (by simp [World.shape?,hb1]) (by simp [World.shape?,hbl]) hcur
  (by simp [World.frozen?,hb1]) (by simp [World.frozen?,hb1])
 have e1:=run_callFunc_extern (P:=P) hf h1 h2 h3 h4 #[.slice (some ⟨b1,0,none⟩) la ca,.slice (some ⟨b2,q,none⟩) lb cb] w;rw [hov] at e1;simp only [Result.andThen] at e1
 simp [execOp,ho,resolve,hk f0 _ h0,hk x _ hx,hk y _ hy,Deferred.ofValue,invoke,e1]
theorem obj_row {b K:Nat} {e:TypeId} {cs:List Value} {m:Fr} (hl:cs.length=K) (h1:∀ v∈cs,v.oneCell' =true) (h:Sat [obj b e cs] m):OwnP (Rp.cells K) e (.slice (some ⟨b,0,none⟩) 1 1) [cs] m:=by
 obtain ⟨m1,_,_,s1,_,o,_⟩:=h;have o1:m1 b=some (.cells cs.toArray e (0,0)):=o;have hf:[cs].flatten=cs:=by simp
 have hkk:(Rp.cells K).k=K:=rfl;refine ⟨[cs],all2_self (fun x hx=>by rw [List.mem_singleton.1 hx];exact hl) (fun x hx=>by rw [List.mem_singleton.1 hx];exact h1),by rw [hf,hl,hkk];exact (Nat.one_mul _).symm,.inr ⟨b,1,cs.toArray,rfl,⟨(0,0),s1 _ _ o1,thawed0 _⟩,Nat.le_refl _,by omega,by simp [hl,hkk],?_⟩⟩;rw [hf];exact List.take_of_length_le (by simp [hl,hkk])
theorem Arr.piece {α:Type} {T:Rp α} {h:Fr} {n p:Nat} {xs:List α} (z:Arr T h (.slice a n c) xs) (hp:p<n):Arr T h (.slice (if c=p then a else a.map (·.add (p*T.k))) (n - p) (c - p)) (xs.drop p):=by
 obtain ⟨css,ha,ad,cap,hv,h1,h2,h3,h4⟩:=z
 injection hv with e1 e2 e3
 subst e1 e2 e3;rw [if_neg (by omega:¬ c=p)];have hcs:(css.drop p).flatten=css.flatten.drop (p*T.k):=(ha.flat_drop p).symm;refine ⟨css.drop p,ha.drop p,a.map (·.add (p*T.k)),c - p,by rw [List.length_drop],by rw [List.length_drop];omega,⟨by omega,fun h=>?_⟩,?_,?_⟩
 ·cases a with
  |none=>have:=h2.2 rfl;omega
  |some _=>cases h
 ·rw [hcs,List.length_drop,h3,List.length_drop,Nat.sub_mul]
 ·intro q hq
  rw [hcs] at hq;have hq2:p*T.k+q<css.flatten.length:=by simp only [List.length_drop] at hq;omega
  obtain ⟨p',hp',hc⟩:=h4 _ hq2
  cases hp'
  refine ⟨_,rfl,?_⟩;rw [Addr.add_add];simp only [hcs,List.getElem_drop];exact hc
theorem DoesE.copyRowN {K lo n:Nat} {css ds:List (List Value)} {q:Value} (ht:P.underlying t=some (.slice e)) (he:(P.info? e).map (·.size)=some K) (hK:0<K)
  (hx:ev σ x=some (.slice (if c=lo then a else a.map (·.add (lo*K))) (n - lo) (c - lo))) (hy:ev σ y=some q) (hu:Arr (Rp.cells K) g.h q ds) (hs:Sel η (OwnP (Rp.cells K) e (.slice a n c) css) ζ)
  (hn:css.length=n) (hl:lo+ds.length≤n) (h0:0<ds.length) :
  DoesE P (.call ⟨.builtin .copy,#[x,y],#[t,te]⟩) σ g η fun v η' =>v=.int .i64 (ds.length:Int)∧η' =OwnP (Rp.cells K) e (.slice a n c) (css.take lo++ds++css.drop (lo+ds.length))::ζ:=by
 subst hn;exact DoesE.copyRow ht he hK hx hy hu hs hl h0
theorem OD.copyRow {K lo m:Nat} {css ds:List (List Value)} {q:Value} (ho:Fires ops i n σ d (.call ⟨.builtin .copy,#[x,y],#[t,te]⟩)) (hd:descOk ops [i] ls=true) (ht:P.underlying t=some (.slice e)) (he:(P.info? e).map (·.size)=some K) (hK:0<K)
  (hx:ev σ x=some (.slice (if c=lo then a else a.map (·.add (lo*K))) (m - lo) (c - lo))) (hy:ev σ y=some q) (hu:Arr (Rp.cells K) g.h q ds) (hs:Sel η (OwnP (Rp.cells K) e (.slice a m c) css) ζ) (hn:css.length=m) (hl:lo+ds.length≤m) (h0:0<ds.length)
  (h:OD P fn n R ops k D g ls ((d,.int .i64 (ds.length:Int))::σ) (OwnP (Rp.cells K) e (.slice a m c) (css.take lo++ds++css.drop (lo+ds.length))::ζ)):OD P fn n R ops k D g (i::ls) σ η :=
 ODx.perm hs.perm (OD.loudE (η:=OwnP (Rp.cells K) e (.slice a m c) css::ζ) (K:=fun v η' =>v=.int .i64 (ds.length:Int)∧η' =OwnP (Rp.cells K) e (.slice a m c) (css.take lo++ds++css.drop (lo+ds.length))::ζ) ho rfl hd
  (fun ζ' =>(DoesE.copyRowN ht he hK hx hy hu Sel.here hn hl h0).imp fun _ _ ⟨h1,h2⟩=>⟨_,⟨h1,rfl⟩,h2⟩) (by rintro _ _ ⟨rfl,rfl⟩;exact h))
theorem OD.shiftRow {K lo:Nat} {css:List (List Value)} (ho:Fires ops i n σ d (.call ⟨.builtin .copy,#[x,y],#[t,te]⟩)) (hd:descOk ops [i] ls=true) (ht:P.underlying t=some (.slice e)) (he:(P.info? e).map (·.size)=some K) (hlo:lo<css.length) (hroom:css.length+1≤c)
  (hx:ev σ x=some (.slice (if c=lo+1 then a else a.map (·.add ((lo+1)*K))) (css.length+1 - (lo+1)) (c - (lo+1)))) (hy:ev σ y=some (.slice (if c=lo then a else a.map (·.add (lo*K))) (css.length+1 - lo) (c - lo)))
  (hs:Sel η (OwnP (Rp.cells K) e (.slice a css.length c) css) ζ)
  (h:OD P fn n R ops k D g ls ((d,.int .i64 ((css.length - lo:Nat):Int))::σ) (OwnP (Rp.cells K) e (.slice a (css.length+1) c) (css.take (lo+1)++css.drop lo)::ζ)):OD P fn n R ops k D g (i::ls) σ η :=
 ODx.perm hs.perm (OD.loudE (η:=OwnP (Rp.cells K) e (.slice a css.length c) css::ζ) (K:=fun v η' =>v=.int .i64 ((css.length - lo:Nat):Int)∧η' =OwnP (Rp.cells K) e (.slice a (css.length+1) c) (css.take (lo+1)++css.drop lo)::ζ) ho rfl hd
  (fun ζ' =>(DoesE.shiftRow ht he hlo hroom hx hy Sel.here).imp fun _ _ ⟨h1,h2⟩=>⟨_,⟨h1,rfl⟩,h2⟩) (by rintro _ _ ⟨rfl,rfl⟩;exact h))
theorem ODg.litO {fl:Bool} {by_ K len:Nat} {z:List Value} {parts:Array (Nat × Operand)} {vs cs:List Value} (ho:Fires ops i n σ d (.buildSlice t len parts)) (hd:hdOk fl ops i ls=true) (ht:P.underlying t=some (.slice e)) (he:elemIs P e K by_ z)
  (hp:partsOf σ parts.toList 0=some vs) (hlen:parts.toList.length=len) (hvs:vs.all (fun v=>Nat.beq v.cells.size K)=true) (h24:len*K≤16777216) (hcs:cs=(vs.map (·.cells.toList)).flatten)
  (h:∀ b,OD P fn n R ops k D g ls ((d,.slice (some ⟨b,0,none⟩) len len)::σ) (obj b e cs::η)):ODx P fn n R ops k D g fl (i::ls) σ η :=
 ODg.loudE (K:=fun v η' =>∃ b,v=.slice (some ⟨b,0,none⟩) len len∧η' =obj b e cs::η) ho rfl hd (fun _=>(DoesE.litO ht he hp hlen hvs h24 hcs).imp fun _ _ ⟨b,h1,h2⟩=>⟨_,⟨b,h1,rfl⟩,h2⟩)
  fun _ _ ⟨b,h1,h2⟩=>by subst h1;subst h2;exact h b
theorem OD.litO {by_ K len:Nat} {z:List Value} {parts:Array (Nat × Operand)} {vs cs:List Value} (ho:Fires ops i n σ d (.buildSlice t len parts)) (hd:descOk ops [i] ls=true) (ht:P.underlying t=some (.slice e)) (he:elemIs P e K by_ z)
  (hp:partsOf σ parts.toList 0=some vs) (hlen:parts.toList.length=len) (hvs:vs.all (fun v=>Nat.beq v.cells.size K)=true) (h24:len*K≤16777216) (hcs:cs=(vs.map (·.cells.toList)).flatten)
  (h:∀ b,OD P fn n R ops k D g ls ((d,.slice (some ⟨b,0,none⟩) len len)::σ) (obj b e cs::η)):OD P fn n R ops k D g (i::ls) σ η:=ODg.litO (fl:=false) ho (by simpa [hdOk] using hd) ht he hp hlen hvs h24 hcs h
theorem ODt.litO {by_ K len:Nat} {z:List Value} {parts:Array (Nat × Operand)} {vs cs:List Value} (ho:Fires ops i n σ d (.buildSlice t len parts)) (_:true=true) (ht:P.underlying t=some (.slice e)) (he:elemIs P e K by_ z)
  (hp:partsOf σ parts.toList 0=some vs) (hlen:parts.toList.length=len) (hvs:vs.all (fun v=>Nat.beq v.cells.size K)=true) (h24:len*K≤16777216) (hcs:cs=(vs.map (·.cells.toList)).flatten)
  (h:∀ b,OD P fn n R ops k D g ls ((d,.slice (some ⟨b,0,none⟩) len len)::σ) (obj b e cs::η)):ODx P fn n R ops k D g true (i::ls) σ η:=ODg.litO (fl:=true) ho rfl ht he hp hlen hvs h24 hcs h
end
end Go.Sp
end
end
section
/- Texts of this proof, one behind the other. -/
section
/- Texts of this proof. -/
namespace Go.Sp
variable {K:Type} [DecidableEq K] {enc:K→Value}
section
variable {ro:Option Nat} {P:Program} {fn:Func} {n:Nat} {R:Ending→World→Prop} {k:List Item} {σ:List (Nat × Value)} {D:List Deferred} {g:Gr} {η ζ θ:List SProp} {ops:Array Oper} {i d:Nat} {ls:List Nat}
 {t tk te:TypeId} {x y z:Operand} {b c:Nat} {l:List (KEnt K)} {key:K} {w:World}
omit [DecidableEq K] in
theorem O.nextKD {M done todo:List (KEnt K)} {it:Nat} (ho:Fires ops i n σ d (.next x false)) (hx:ev σ x=some (.pointer (some ⟨it,0,none⟩))) (hwfM:WfK M c) (hp:M.Perm (done++todo)) (hwf:WfK l c) (hlM:∀ x∈l,x∈M) (htl:∀ x∈todo,x∈l) (s1:Sel η (IterK it b c done) ζ) (s2:Sel ζ (MapK enc b l c) θ)
  (h0:todo=[]→O ro P fn n R ops ls k ((d,.tuple #[.bool false])::σ) D g (IterK it b c done::MapK enc b l c::θ))
  (h1:∀ x t1 t2,todo=t1++x::t2→O ro P fn n R ops ls k ((d,.tuple #[.bool true,enc (x.1),x.2.1])::σ) D g (IterK it b c (done++[x])::MapK enc b l c::θ)):O ro P fn n R ops (i::ls) k σ D g η:=by
 intro a w hf hd hw
 obtain ⟨o,hi,hdst,hop,hg,hb⟩:=ho.spec;have hw1:Holds w g (IterK it b c done::MapK enc b l c::θ):=(hw.sel s1).imp fun _ h=>Sat.cons_imp (fun _ y=>y) (fun _ y=>Sat.perm s2.perm y) h;have hr:=Holds.block hw1;have hm:=MapK.block (hw1.sel (.there .here));have hnd:((done++todo).map (·.2.2)).Nodup:=(hp.map _).nodup_iff.1 hwfM.1;rw [List.map_append,List.nodup_append] at hnd;have hold:∀ x∈(kEs enc l).toList,x.born<c:=fun e he=>by
  simp only [kEs,List.mem_map] at he;obtain ⟨y,hy,rfl⟩:=he;exact hwf.2.1 y hy
 rcases run_next_at (P:=P) (ty:=o.type) hr hm hold (Nat.le_refl _) with ⟨hz,hrun⟩|⟨e,he,m,hmn,hrun⟩
 ·have htodo:todo=[]:=by
   cases todo with
   |nil=>rfl
   |cons y ys =>
    have hyl:y∈l:=htl y (by simp);have:kEnt enc y∈(leftOf (kEs enc l) (done.map (·.2.2)).toArray).toList:=mem_leftOfK.2 ⟨y,hyl,rfl,fun h=>hnd.2.2 _ h _ (by simp) rfl⟩;rw [Array.eq_empty_of_size_eq_zero hz] at this
    cases this
  have hrun' :(execOp a.eval o).run P w=.ok (.value (.tuple #[.bool false])) w:=by simp [execOp,hop,hf.knows x _ hx,hrun]
  refine O.fire hi (hg a hf) (notDefer_value hrun') hrun' ?_;rw [Oper.uponIn_value,hdst];exact h0 htodo _ _ (hf.put hb) hd hw1
 ·obtain ⟨y,hy,rfl,hns⟩:=mem_leftOfK.1 he
  have hyt:y∈todo:=by
   rcases List.mem_append.1 (hp.mem_iff.1 (hlM y hy)) with h|h
   ·exact absurd (List.mem_map.2 ⟨y,h,rfl⟩) hns
   ·exact h
  obtain ⟨t1,t2,htt⟩:=List.append_of_mem hyt;have hrun' :(execOp a.eval o).run P w=.ok (.value (.tuple #[.bool true,enc (y.1),y.2.1])) (({ w with drawn:=m }:World).putObj it (.mapIter (some b) c ((done.map (·.2.2)).toArray.push y.2.2) c)):=by
   simp [execOp,hop,hf.knows x _ hx,hrun,kEnt]
  refine O.fire hi (hg a hf) (notDefer_value hrun') hrun' ?_;rw [Oper.uponIn_value,hdst];have hw2:=(hw1.drewN m hmn).putObj (.mapIter (some b) c ((done.map (·.2.2)).toArray.push y.2.2) c);have hiter:IterK it b c (done++[y])=blk it (.mapIter (some b) c ((done.map (·.2.2)).toArray.push y.2.2) c):=by simp [IterK]
  rw [← hiter] at hw2;exact h1 y t1 t2 htt _ _ (hf.put hb) hd hw2
end
omit [DecidableEq K] in theorem nodup_key {l:List (KEnt K)} (h:(l.map (·.1)).Nodup) {x y:KEnt K} (hx:x∈l) (hy:y∈l) (e:x.1=y.1):x=y:=by
 obtain ⟨i,hi,rfl⟩:=List.getElem_of_mem hx;obtain ⟨j,hj,rfl⟩:=List.getElem_of_mem hy;have:=(List.getElem_inj (i:=i) (j:=j) (h₀:=by simpa using hi) (h₁:=by simpa using hj) h).1 (by simpa using e);subst this;rfl
structure Thin {K:Type} [DecidableEq K] (M:List (KEnt K)) (q:K→Bool) (c:Nat) (done todo l:List (KEnt K)):Prop where
 wfM:WfK M c
 hp:M.Perm (done++todo)
 wf:WfK l c
 sub:∀ x∈l,x∈M
 left:∀ x∈todo,x∈l
 out:∀ x∈l,x∈done→q x.1=false
theorem Thin.start {M:List (KEnt K)} {q:K→Bool} {c:Nat} (h:WfK M c):Thin M q c [] M M:=⟨h,List.Perm.refl _,h,fun _ h=>h,fun _ h=>h,fun _ _ h=>by cases h⟩
theorem Thin.keep {M:List (KEnt K)} {q:K→Bool} {c:Nat} {done t1 t2 l:List (KEnt K)} {x:KEnt K} (h:Thin M q c done (t1++x::t2) l) (hq:q x.1=false):Thin M q c (done++[x]) (t1++t2) l where
 wfM:=h.wfM
 hp:=h.hp.trans (by rw [List.append_assoc];exact List.Perm.append_left _ List.perm_middle)
 wf:=h.wf
 sub:=h.sub
 left:=fun y hy=>h.left y (by rcases List.mem_append.1 hy with e|e<;>simp [e])
 out:=fun y hy hd=>by
  rcases List.mem_append.1 hd with e|e
  ·exact h.out y hy e
  ·rw [List.mem_singleton.1 e];exact hq
theorem Thin.drop {M:List (KEnt K)} {q:K→Bool} {c:Nat} {done t1 t2 l:List (KEnt K)} {x:KEnt K} (h:Thin M q c done (t1++x::t2) l):Thin M q c (done++[x]) (t1++t2) (delK l x.1) where
 wfM:=h.wfM
 hp:=h.hp.trans (by rw [List.append_assoc];exact List.Perm.append_left _ List.perm_middle)
 wf:=delK_wf h.wf x.1
 sub:=fun y hy=>h.sub y ((delK_sub x.1 l).subset hy)
 left:=fun y hy=>by
  have hyl:y∈l:=h.left y (by rcases List.mem_append.1 hy with e|e<;>simp [e]);have hxM:x∈M:=h.hp.mem_iff.2 (by simp);have hne:y.1≠x.1:=fun e=>by
   have hnd:((done++(t1++x::t2)).map (·.1)).Nodup:=(h.hp.map _).nodup_iff.1 h.wfM.2.2;have:(x::(done++(t1++t2))).map (·.1) |>.Nodup:=by
    refine (List.Perm.map _ ?_).nodup_iff.1 hnd;rw [← List.append_assoc,← List.append_assoc];exact List.perm_middle
   rw [List.map_cons,List.nodup_cons] at this;exact this.1 (List.mem_map.2 ⟨y,by rcases List.mem_append.1 hy with q|q<;>simp [q],e⟩)
  have h1:=getK_mem h.wf.2.2 hyl;have h2:getK (delK l x.1) y.1=some y.2.1:=by rw [getK_del h.wf.2.2,if_neg hne,h1]
  obtain ⟨n,hn⟩:=getK_some h2;have e:=nodup_key h.wf.2.2 hyl ((delK_sub x.1 l).subset hn) rfl;rw [e];exact hn
 out:=fun y hy hd=>by
  rcases List.mem_append.1 hd with e|e
  ·exact h.out y ((delK_sub x.1 l).subset hy) e
  ·rw [List.mem_singleton.1 e] at hy
   have h2:=getK_mem (delK_wf h.wf x.1).2.2 hy;rw [getK_del h.wf.2.2,if_pos rfl] at h2
   cases h2
theorem Thin.done {M:List (KEnt K)} {q:K→Bool} {c:Nat} {done l:List (KEnt K)} (h:Thin M q c done [] l):∀ p v,getK l p=some v→getK M p=some v∧q p=false:=fun p v e=>by
 obtain ⟨n,hn⟩:=getK_some e;have hM:=h.sub _ hn;refine ⟨getK_mem h.wfM.2.2 hM,h.out _ hn ?_⟩;have:=h.hp.mem_iff.1 hM
 rwa [List.append_nil] at this
end Go.Sp
end
section
/- Texts of this proof, one behind the other. -/
section
/- Texts of this proof. -/
open Go
namespace Go.Sp
attribute [local irreducible] treeSum
abbrev TreeO.wz {d:Fr} {L0:List LeafT} (θ:TTys) (b s:Nat) (x:TreeO d L0) (L:List LeafT):List SProp :=
 [IsP x.k,obj b θ.tree [x.vL,x.vW,.int .i64 (s:Int),.map (some x.mid)],OwnP (Rp.cv d x.k LeafRp) θ.leaf x.vL L,OwnP Rp.str θ.str x.vW (L.map fun y=>wayOf y.1),MapK encS x.mid x.M x.c]
def TreeZ (θ:TTys) (d:Fr) (b s:Nat) (L L0:List LeafT):SProp:=fun m=>∃ x:TreeO d L0,Sat (x.wz θ b s L) m
theorem TreeX.z {θ:TTys} {d:Fr} {b s:Nat} {L:List LeafT} {m:Fr}:TreeX θ d b s L m→TreeZ θ d b s L L m:=fun h=>TreeX.opn h
theorem TreeZ.opn {θ:TTys} {d:Fr} {b s:Nat} {L L0:List LeafT} {m:Fr}:TreeZ θ d b s L L0 m→∃ x:TreeO d L0,Sat (x.wz θ b s L) m:=fun h=>h
def TreeO.up {d:Fr} {L0:List LeafT} (x:TreeO d L0) (k:Fr) (h:x.k.sub k):TreeO d L0:=⟨k,x.vL,x.vW,x.mid,x.M,x.c,x.wf,x.ok.mono h⟩
theorem TreeZ.with {θ:TTys} {τ:Tys} {d:Fr} {b s:Nat} {L L0:List LeafT} {e:TypeId} {v:Value} {xs:List RecT} {m:Fr} (h:Sat [TreeZ θ d b s L L0,ListP (RecG τ) e v xs] m) :
  ∃ x:{x:TreeO d L0 // ∃ q,Cov q d x.k∧Arr RecRp q v xs},Sat (x.1.wz θ b s L) m:=by
 obtain ⟨m1,m2,d1,s1,s2,⟨x,n1,r1,d2,t1,t2,o1,hs⟩,m3,_,_,t3,_,o2,_⟩:=h;have e1:n1=x.k:=o1;have d13:n1.disj m3:=fun i=>(d1 i).imp (fun q=>by
  cases c:n1 i with
  |none=>rfl
  |some o=>rw [t1 i o c] at q;cases q) (fun q=>by
  cases c:m3 i with
  |none=>rfl
  |some o=>rw [t3 i o c] at q;cases q)
 have dr:(n1.add m3).disj r1:=Fr.disj_add d2 (fun i=>(d1 i).symm.imp (fun q=>by
  cases c:m3 i with
  |none=>rfl
  |some o=>rw [t3 i o c] at q;cases q) (fun q=>by
  cases c:r1 i with
  |none=>rfl
  |some o=>rw [t2 i o c] at q;cases q))
 have hk:x.k.sub (n1.add m3):=e1 ▸ Fr.sub_add_left n1 m3;have sm:(n1.add m3).sub m:=Fr.add_sub (Fr.sub_trans t1 s1) (Fr.sub_trans t3 s2);refine ⟨⟨x.up (n1.add m3) hk,n1.add m3,Cov.own _ _,(ListP.arr o2).mono (Fr.sub_add_right d13)⟩,n1.add m3,r1,dr,sm,Fr.sub_trans t2 s1,rfl,?_⟩;obtain ⟨a1,a2,da,sa,sb,q1,b1,b2,db,sc,sd,q2,q3⟩:=hs;exact ⟨a1,a2,da,sa,sb,q1,b1,b2,db,sc,sd,q2.cv_mono hk,q3⟩
theorem leaf_cv {d k:Fr} {key:List UInt8} {v:Value} {xs:List RecT} (hk:key.length≤9223372036854775807):(∃ q,Cov q d k∧Arr RecRp q v xs)→(Rp.cv d k LeafRp).rel Fr.emp [.string (str key),v] (key,xs,())
 |⟨q,c,a⟩=>⟨q,c,LeafRp.mk hk a⟩
theorem TreeO.seen {θ:TTys} {d g:Fr} {b s:Nat} {L L0:List LeafT} {m:Fr} (x:TreeO d L0) (hd:d.sub g) (hm:g.disj m):Sat (x.wz θ b s L) m→TreeA (g.add m) b s L:=fun ⟨n1,r1,_,t1,t2,o1,hs⟩=>by
 have e1:n1=x.k:=o1;obtain ⟨m2,_,_,s2,t2',o,m3,_,_,s3,t3,xL,m4,_,_,s4,_,xW,_⟩:=hs;have g1:m.sub (g.add m):=Fr.sub_add_right hm;have h1:m2.sub m:=Fr.sub_trans s2 t2;have h2:m3.sub m:=Fr.sub_trans s3 (Fr.sub_trans t2' t2);have h3:m4.sub m:=Fr.sub_trans s4 (Fr.sub_trans t3 (Fr.sub_trans t2' t2));obtain ⟨aL,cL,hL⟩:=xL.shape;obtain ⟨aW,cW,hw⟩:=xW.shape;rw [List.length_map] at hw;rw [hL] at o xL;rw [hw] at o xW;have hkg:x.k.sub (g.add m):=e1 ▸ Fr.sub_trans t1 g1;exact ⟨aL,cL,aW,cW,x.mid,((obj_at o).mono h1).mono g1,((xL.arr.mono h2).mono g1).cv_off (Fr.sub_trans hd (Fr.sub_add_left _ _)) hkg,(xW.arr.mono h3).mono g1⟩
def TreeO.with {d:Fr} {L0:List LeafT} (x:TreeO d L0) (vL vW:Value):TreeO d L0:=⟨x.k,vL,vW,x.mid,x.M,x.c,x.wf,x.ok⟩
theorem SumsOk.thin {d k:Fr} {L:List LeafT} {y:LeafT} {M done l:List (KEnt (List UInt8))} {c:Nat} (h:SumsOk d k L M) (hr:LRise L) (ht:Thin M (fun p=>p.isPrefixOf (wayOf y.1)) c done [] l):SumsOk d k (putL L y) l:=fun p v e=>by
 obtain ⟨h1,h2⟩:=ht.done p v e;obtain ⟨q1,q2⟩:=h p v h1;refine ⟨q1,?_⟩;rw [treeSum_congr (underL_put (p:=p) hr h2)];exact q2
theorem putL_len (L:List LeafT) (y:LeafT):(putL L y).length≤L.length+1:=by
 unfold putL;have h:(L.filter fun z=>decide (z.1<y.1)).length+(L.filter fun z=>decide (y.1<z.1)).length≤L.length:=by
  rw [← List.countP_eq_length_filter,← List.countP_eq_length_filter,List.length_eq_countP_add_countP (fun z:LeafT=>decide (z.1<y.1)) (l:=L)];refine Nat.add_le_add_left (List.countP_mono_left fun z _ q=>?_) _;simp only [decide_eq_true_eq] at q ⊢;exact fun k=>List.lt_irrefl _ (List.lt_trans q (of_decide_eq_true (by simpa using k)))
 simp only [List.length_append]
 split
 ·simp only [List.length_nil];omega
 ·simp only [List.length_singleton];omega
theorem putL_small {L:List LeafT} {y:LeafT} {N:Nat} (h:∀ z∈L,z.2.1.length≤N) (hy:y.2.1.length≤N):∀ z∈putL L y,z.2.1.length≤N:=fun z hz=>by
 rcases mem_putL.1 hz with ⟨q,_⟩|⟨rfl,_⟩
 ·exact h z q
 ·exact hy
theorem all2_ins' {α:Type} {R:List Value→α→Prop} {css:List (List Value)} {xs:List α} {c:List Value} {x:α} (i:Nat) (h:All2 R css xs) (hc:R c x):All2 R (css.take i++[c]++css.drop i) (xs.take i++[x]++xs.drop i):=((h.take i).append (show All2 R [c] [x] from ⟨hc,trivial⟩)).append (h.drop i)
theorem all2_del {α:Type} {R:List Value→α→Prop} {css:List (List Value)} {xs:List α} (i:Nat) (h:All2 R css xs):All2 R (css.eraseIdx i) (xs.eraseIdx i):=by
 rw [erase_eq,erase_eq];exact (h.take i).append (h.drop (i+1))
abbrev TreeO.wc {d:Fr} {L0:List LeafT} (θ:TTys) (b s:Nat) (x:TreeO d L0) (vL vW:Value) (css wcs:List (List Value)):List SProp :=
 [IsP x.k,obj b θ.tree [vL,vW,.int .i64 (s:Int),.map (some x.mid)],OwnP (Rp.cells 2) θ.leaf vL css,OwnP (Rp.cells 1) θ.str vW wcs,MapK encS x.mid x.M x.c]
theorem TreeO.rows {θ:TTys} {d:Fr} {b s:Nat} {L L0:List LeafT} {m:Fr} (x:TreeO d L0) {vL vW:Value} {css wcs:List (List Value)} (h1:All2 ((Rp.cv d x.k LeafRp).rel Fr.emp) css L) (h2:All2 (Rp.str.rel Fr.emp) wcs (L.map fun y=>wayOf y.1)) :
  Sat (x.wc θ b s vL vW css wcs) m→TreeZ θ d b s L L0 m
 |⟨a1,a2,da,sa,sb,q1,b1,b2,db,sc,sd,q2,c1,c2,dc,se,sf,q3,e1,e2,de,sg,sh,q4,q5⟩ =>
  ⟨x.with vL vW,a1,a2,da,sa,sb,q1,b1,b2,db,sc,sd,q2,c1,c2,dc,se,sf,OwnP.ofCells rfl h1 q3,e1,e2,de,sg,sh,OwnP.ofCells rfl h2 q4,q5⟩
end Go.Sp
end
section
/- Texts of this proof. -/
open Go
namespace Go.Sp
section
variable {P:Program} {σ:List (Nat × Value)} {g:Gr} {η ζ:List SProp}
theorem run_compareStrs {xs ys:List UInt8} {w:World}:(Extern.BytealgCompare.compare #[.string (str xs),.string (str ys)]).run P w=.ok (.int .i64 (Lib.compareBytes xs ys)) w:=by
 change Sem.run P (do pure (goInt (Extern.BytealgCompare.cmp (← Extern.Bytes.bytesOf (.string (str xs))) (← Extern.Bytes.bytesOf (.string (str ys)))))) w=_
 simp only [Extern.Bytes.bytesOf,Sem.run_bind,Sem.run_pure,Result.andThen];rw [Lib.cmp_eq]
 rfl
theorem Does.cmpStrExt {f : FuncId} {fn : Func} {x y z : Operand} {ts : Array TypeId} {xs ys : List UInt8} (hf : P.funcs[f]? = some fn) (h1 : (fn.name == "runtime.NumGoroutine") = false) (h2 : fn.body.isNone = true) (h3 : Extern.findNext fn = none) (h4 : Extern.find fn = some Extern.BytealgCompare.compare)
  (hx:ev σ x=some (.func (.func f) #[] #[])) (hy:ev σ y=some (.string (str xs))) (hz:ev σ z=some (.string (str ys))):Does P (.call ⟨.value x,#[y,z],ts⟩) σ g η (.int .i64 (Lib.compareBytes xs ys)) η:=by
 intro o ρ w ho hk hw
 refine ⟨w,?_,hw⟩;have e1:=run_callFunc_extern (P:=P) hf h1 h2 h3 h4 #[.string (str xs),.string (str ys)] w;rw [run_compareStrs] at e1;simp only [Result.andThen] at e1
 simp [execOp,ho,resolve,hk x _ hx,hk y _ hy,hk z _ hz,Deferred.ofValue,invoke,e1]
theorem DoesE.copyTo {t te e T:TypeId} {x y:Operand} {b n c m:Nat} {u:Value} {cs:List Value} {xs:List UInt8} (ht:P.underlying t=some (.slice e)) (he:(P.info? e).map (·.size)=some 1) (hx:ev σ x=some (.slice (some ⟨b,0,none⟩) n c)) (hy:ev σ y=some u) (hu:Arr Rp.u8 g.h u xs)
  (hs:Sel η (obj b T cs) ζ) (hm:m=xs.length) (h1:m≤n) (h2:m≤cs.length) (h0:0<m) :
  DoesE P (.call ⟨.builtin .copy,#[x,y],#[t,te]⟩) σ g η fun v η' =>v=.int .i64 (m:Int)∧η' =obj b T (xs.map byteV++cs.drop m)::ζ :=
 fun o ρ w ho hk hw=>by
  subst hm;have hw1:=hw.sel hs;obtain ⟨css,ha,au,cu,rfl,c1,c2,c3,c4⟩:=hu;have hfl:css.flatten=xs.map byteV:=by
   clear c3 c4 hy h0 h1 h2 c1
   induction css generalizing xs with
   |nil=>cases xs with|nil=>rfl|cons _ _=>exact ha.elim
   |cons c css ih =>
    cases xs with
    |nil=>exact ha.elim
    |cons x xs =>
     obtain ⟨a1,a2⟩:=ha;have a1:c=[byteV x]:=a1;rw [List.flatten_cons,ih a2,a1];rfl
  rw [hfl] at c3 c4;have hl:(xs.map byteV).length=xs.length:=List.length_map ..;obtain ⟨ad,had,_⟩:=c4 0 (by omega);subst had;have hnews:∀ jj v,(xs.map byteV)[jj]?=some v→w.cell? (ad.add jj)=some v:=fun jj v hv=>by
   obtain ⟨hjl,rfl⟩:=List.getElem?_eq_some_iff.1 hv;obtain ⟨p,hp,hc⟩:=c4 jj hjl
   cases hp
   exact Fr.cell_mono hw.ground hc
  have hf:=run_firstCells_some (P:=P) w 1 xs.length ad xs.length cu (xs.map byteV) (by omega) hnews;have hst:=run_storeCells_at P b 0 T (xs.map byteV) 0 cs.toArray w hw1.block (by simp;omega) (by
   intro v hv
   obtain ⟨_,_,rfl⟩:=List.mem_map.1 hv;rfl)
  simp only [Nat.add_zero,Nat.zero_add,List.take_zero,List.nil_append,hl] at hst;have hmin:Nat.min xs.length n=xs.length:=Nat.min_eq_left h1;refine ⟨_,w.setRow b (xs.map byteV++cs.drop xs.length).toArray,_,⟨rfl,rfl⟩,?_,hw1.setRow⟩
  simp [execOp,ho,hk x _ hx,hk y _ hy,resolve,invoke,builtin,Builtin.copy_,run_underlying ht,Builtin.lenOf,run_sizeOf he,hmin,hf,hst,goInt]
end
theorem compare_lt {a b:List UInt8}:Lib.compareBytes a b<0↔a<b:=compareBytes_lt
theorem compare_0 {a b:List UInt8}:Lib.compareBytes a b=0↔a=b:=compareBytes_eq
end Go.Sp
end
end
end
