/- Texts of this proof, one behind the other. -/
import Derived.Test.YtojafegjlahajaaGreatDoorQSpPut
import Derived.Lib.Overlaps
import Derived.Laws.Externs
set_option linter.unusedSectionVars false
section
/- Texts of this proof. -/
namespace Go.Sp
section
variable {ro:Option Nat} {P:Program} {fn:Func} {n:Nat} {R:Ending→World→Prop} {k:List Item} {σ:List (Nat × Value)} {D:List Deferred} {g:bn} {U ζ aO:List az} {ops:Array Oper} {i d:Nat} {ls:List Nat}
 {t te e:TypeId} {x y z u:Operand} {w:World} {a:Option Addr} {m c s:Nat} {kx ky E0:IntKind}
theorem bF.ja {t e k cw:Nat} {z:List Value} {parts:Array (Nat × Operand)} {vs cs:List Value} {len:Nat} (ht:P.underlying t=some (.slice e)) (he:dI P e k cw z)
  (hp:partsOf σ parts.toList 0=some vs) (hlen:parts.toList.length=len) (hvs:vs.all (fun v=>Nat.beq v.cells.size k)=true) (iW:len*k≤16777216) (hcs:cs=(vs.map (·.cells.toList)).flatten) :
  bF P (.buildSlice t len parts) σ g U fun v ax =>∃ b,v=.slice (some ⟨b,0,none⟩) len len∧ax =obj b e cs::U :=
 fun o ρ w ho hkn hw=>by
  subst hcs;obtain ⟨i,cE,hi,hz,hs,hby,kJ,hzl⟩:=he;subst hs kJ;have hzs:cE.cells.size=i.size:=by simpa using hzl
  have eu :∀ v∈vs,v.cells.size=i.size:=fun v hv=>Nat.eq_of_beq_eq_true (List.all_eq_true.1 hvs v hv);have C7 :¬ (16777216<len*i.size):=by omega
  have hmap:(parts.map fun (p:Nat × Operand)=>(p.1,ρ p.2)).toList=parts.toList.map fun p=>(p.1,ρ p.2):=Array.toList_map;have hsz:(sizeOf e).run P w=.ok i.size w:=run_sizeOf (by simp [hi]) w;have hrun:(Instr.buildSlice t len (parts.map fun (p:Nat × Operand)=>(p.1,ρ p.2))).run P w =
    .ok (.slice (some ⟨w.heap.size,0,none⟩) len len) (w.alloc (.cells (vs.map (·.cells.toList)).flatten.toArray e)):=by
   have hf:∀ c:Array Value,c.size=len*i.size→Instr.fill (fun j=>some (j*i.size,i.size)) c (parts.map fun (p:Nat × Operand)=>(p.1,ρ p.2)).toList=some ((vs.map (·.cells.toList)).flatten).toArray:=fun c hc=>by
    rw [hmap];exact CR hkn i.size parts.toList 0 vs [] c.toList c hp eu rfl (by simp) (by simp [hc,← hlen])
   by_cases h0:len*i.size=0
   ·simp only [Instr.buildSlice,Sem.run_bind,run_underlying ht,Result.andThen_ok,hsz,h0,if_true,Sem.run_pure,Sem.run_ite]
    rw [hf _ (by simp [h0])]
    simp [newRow]
   ·simp only [Instr.buildSlice,Sem.run_bind,run_underlying ht,Result.andThen_ok,hsz,C7,if_false,h0,Sem.run_pure,Sem.run_ite,zeroValue,typeInfo,run_program,hi,hz]
    rw [hf _ (by simp)]
    simp [newRow]
  refine ⟨.slice (some ⟨w.heap.size,0,none⟩) len len,w.alloc (.cells (vs.map (·.cells.toList)).flatten.toArray e),_,⟨_,rfl,rfl⟩,?_,hw.alloc _⟩;simp only [execOp,ho,Sem.run_bind];have:(parts.map fun x=>match x with|(i,x)=>(i,ρ x))=parts.map fun (p:Nat × Operand)=>(p.1,ρ p.2):=rfl;rw [this,hrun];rfl
theorem av.toCells {α:Type} {T:ag α} {e:TypeId} {v:Value} {xs:List α} {m:Fr} {K:Nat} (hK:T.k=K) (x:av T e v xs m):∃ ak,b5 (T.rel Fr.emp) ak xs∧av (ag.cells K) e v ak m:=by
 subst hK;obtain ⟨ak,h1,h2⟩:=x;have hl:=h1.length;refine ⟨ak,h1,ak,rG (fun cs hc=>?_) (fun cs hc v hv=>b5.one h1 v (List.mem_flatten.2 ⟨cs,hc,hv⟩)),by rw [hl];exact h2⟩;obtain ⟨i,hi,rfl⟩:=List.getElem_of_mem hc;exact T.len (h1.get i hi (by omega))
theorem av.kL {α:Type} {T:ag α} {e:TypeId} {v:Value} {xs:List α} {ak:List (List Value)} {m:Fr} {K:Nat} (hK:T.k=K) (h:b5 (T.rel Fr.emp) ak xs) (x:av (ag.cells K) e v ak m):av T e v xs m:=by
 subst hK;obtain ⟨ds,h1,h2⟩:=x;obtain ⟨rfl,_,_⟩:=rF h1;exact ⟨ds,h,by rw [← h.length];exact h2⟩
theorem S.toCells {todo:List Item} {α:Type} {T:ag α} {v:Value} {xs:List α} {K:Nat} (hK:T.k=K) (s:bg U (av T e v xs) ζ) (h:∀ ak,b5 (T.rel Fr.emp) ak xs→S ro P fn n R todo σ D g (av (ag.cells K) e v ak::ζ)):S ro P fn n R todo σ D g U :=
 S.open (bs:=fun q:{ak:List (List Value) // b5 (T.rel Fr.emp) ak xs}=>[av (ag.cells K) e v q.1]) s (fun m x=>let ⟨ak,a,b⟩:=x.toCells hK;⟨⟨ak,a⟩,m,Fr.emp,Fr.e5 (Fr.ea _),Fr.bY _,Fr.c6 _,b,trivial⟩) fun q=>h q.1 q.2
theorem Addr.uX (b q j:Nat):(⟨b,q,none⟩:Addr).add j=⟨b,q+j,none⟩:=add_lit b q j
theorem bF.zg {K lo:Nat} {ak ds:List (List Value)} {q:Value} (ht:P.underlying t=some (.slice e)) (he:(P.info? e).map (·.size)=some K) (hK:0<K)
  (hx:aA σ x=some (.slice (if c=lo then a else a.map (·.add (lo*K))) (ak.length - lo) (c - lo))) (hy:aA σ y=some q) (hu:aj (ag.cells K) g.h q ds) (hs:bg U (av (ag.cells K) e (.slice a ak.length c) ak) ζ)
  (hl:lo+ds.length≤ak.length) (h0:0<ds.length) :
  bF P (.call ⟨.builtin .copy,#[x,y],#[t,te]⟩) σ g U fun v ax =>v=.int .i64 (ds.length:Int)∧ax =av (ag.cells K) e (.slice a ak.length c) (ak.take lo++ds++ak.drop (lo+ds.length))::ζ :=
 fun o ρ w ho hkn hw=>by
  have hw1:=hw.cB hs;obtain ⟨b,cap,cur,bG,hv,h1,h2,h3,h4,ha,fz,hfz,hb⟩:=hw1.oD (by omega);obtain ⟨rfl,hlen,hone⟩:=rF ha
  injection hv with e1 _ ck
  subst e1 ck;have hkk:(ag.cells K).k=K:=rfl;rw [hkk] at h3 h4 hfz;obtain ⟨dW,hda,MI,CE,rfl,c1,c2,c3,gO⟩:=hu;have hd2:dW=ds:=wC hda;subst hd2;rw [hkk] at c3;have IU:∀ v∈dW.flatten,v.oneCell' =true:=b5.one hda;have hpos:0<dW.flatten.length:=by rw [c3];exact Nat.mul_pos h0 hK
  obtain ⟨ad,had,_⟩:=gO 0 hpos;subst had;have hnews:∀ gA v,dW.flatten[gA]?=some v→w.cell? (ad.add gA)=some v:=fun gA v hv=>by
   obtain ⟨hjl,rfl⟩:=List.getElem?_eq_some_iff.1 hv;obtain ⟨p,hp,hc⟩:=gO gA hjl
   cases hp
   exact Fr.qA hw.ground hc
  have hne:¬ c=lo:=by omega
  rw [if_neg hne] at hx;simp only [Option.map_some,Addr.uX,Nat.zero_add] at hx;have hmin:Nat.min dW.length (bG.length - lo)=dW.length:=Nat.min_eq_left (by omega);have hf:=run_firstCells_some (P:=P) w K dW.length ad dW.length CE dW.flatten c3 hnews;have hmul:lo*K+dW.length*K≤c*K:=by rw [← Nat.add_mul];exact Nat.mul_le_mul_right _ (by omega)
  have hst:=sE P b (lo*K) e hfz dW.flatten 0 cur w hb.block (by omega) (by rw [c3];omega) IU;simp only [Nat.add_zero] at hst;refine ⟨_,w.setRow b (cur.toList.take (lo*K)++dW.flatten++cur.toList.drop (lo*K+dW.flatten.length)).toArray,_,⟨rfl,rfl⟩,?_,?_⟩
  ·simp [execOp,ho,hkn x _ hx,hkn y _ hy,resolve,invoke,builtin,Builtin.copy_,run_underlying ht,Builtin.lenOf,run_sizeOf he,hmin,hf,hst,goInt]
  ·refine (hb.setRow (cs:=(cur.toList.take (lo*K)++dW.flatten++cur.toList.drop (lo*K+dW.flatten.length)).toArray)).imp fun _ x=>Sat.fk (fun m' hm' =>?_) (fun _ z=>z) x
   have hdl:∀ cs∈dW,cs.length=K:=fun cs hc=>by
    obtain ⟨i,hi,rfl⟩:=List.getElem_of_mem hc;exact (ag.cells K).len (hda.get i hi hi)
   have hnl:(bG.take lo++dW++bG.drop (lo+dW.length)).length=bG.length:=by simp;omega
   have rY:∀ cs∈bG.take lo++dW++bG.drop (lo+dW.length),cs.length=K:=fun cs hc=>by
    rcases List.mem_append.1 hc with hc|hc
    ·rcases List.mem_append.1 hc with hc|hc
     ·exact hlen cs (List.mem_of_mem_take hc)
     ·exact hdl cs hc
    ·exact hlen cs (List.mem_of_mem_drop hc)
   have D5:∀ cs∈bG.take lo++dW++bG.drop (lo+dW.length),∀ v∈cs,v.oneCell' =true:=fun cs hc=>by
    rcases List.mem_append.1 hc with hc|hc
    ·rcases List.mem_append.1 hc with hc|hc
     ·exact hone cs (List.mem_of_mem_take hc)
     ·exact fun v hv=>IU v (List.mem_flatten.2 ⟨cs,hc,hv⟩)
    ·exact hone cs (List.mem_of_mem_drop hc)
   refine ⟨_,rG rY D5,?_,.inr ⟨b,c,_,by rw [hnl],⟨fz,hm',hfz⟩,by omega,h2,?_,?_⟩⟩
   ·rw [qB rY,hkk]
   ·have ec:cur.toList.length=c*K:=by simpa using h3
    simp only [List.size_toArray,List.length_append,List.length_take,List.length_drop,hkk];rw [c3,ec]
    omega
   ·rw [hnl,hkk,List.toList_toArray,List.flatten_append,List.flatten_append]
    have ZG:bG.length*K≤c*K:=Nat.mul_le_mul_right _ h1;have hlo:lo*K≤bG.length*K:=Nat.mul_le_mul_right _ (by omega);have hhi:lo*K+dW.length*K≤bG.length*K:=by rw [← Nat.add_mul];exact Nat.mul_le_mul_right _ hl
    have e1:cur.toList.take (lo*K)=(bG.take lo).flatten:=by
     rw [← zf hlen,← h4,List.take_take,Nat.min_eq_left hlo]
    have e2:(cur.toList.drop (lo*K+dW.flatten.length)).take (bG.length*K - (lo*K+dW.flatten.length))=(bG.drop (lo+dW.length)).flatten:=by
     rw [← Cp hlen,← h4,List.drop_take,c3,Nat.add_mul]
    rw [e1];have l1:((bG.take lo).flatten++dW.flatten).length=lo*K+dW.flatten.length:=by
     rw [List.length_append,qB (fun cs hc=>hlen cs (List.mem_of_mem_take hc)),List.length_take,Nat.min_eq_left (by omega)]
    rw [List.take_append,l1,List.take_of_length_le (by rw [l1,c3];exact hhi),e2]
theorem bF.Bf {K lo:Nat} {ak:List (List Value)} (ht:P.underlying t=some (.slice e)) (he:(P.info? e).map (·.size)=some K) (hlo:lo<ak.length) (hroom:ak.length+1≤c)
  (hx:aA σ x=some (.slice (if c=lo+1 then a else a.map (·.add ((lo+1)*K))) (ak.length+1 - (lo+1)) (c - (lo+1)))) (hy:aA σ y=some (.slice (if c=lo then a else a.map (·.add (lo*K))) (ak.length+1 - lo) (c - lo)))
  (hs:bg U (av (ag.cells K) e (.slice a ak.length c) ak) ζ) :
  bF P (.call ⟨.builtin .copy,#[x,y],#[t,te]⟩) σ g U fun v ax =>v=.int .i64 ((ak.length - lo:Nat):Int)∧ax =av (ag.cells K) e (.slice a (ak.length+1) c) (ak.take (lo+1)++ak.drop lo)::ζ :=
 fun o ρ w ho hkn hw=>by
  have hw1:=hw.cB hs;obtain ⟨b,cap,cur,bG,hv,h1,h2,h3,h4,ha,fz,hfz,hb⟩:=hw1.oD (by omega);obtain ⟨rfl,hlen,hone⟩:=rF ha
  injection hv with e1 _ ck
  subst e1 ck;have hkk:(ag.cells K).k=K:=rfl;rw [hkk] at h3 h4 hfz;rw [if_neg (by omega:¬ c=lo+1)] at hx;rw [if_neg (by omega:¬ c=lo)] at hy;simp only [Option.map_some,Addr.uX,Nat.zero_add] at hx hy;have ec:cur.toList.length=c*K:=by simpa using h3
  let news:=(bG.drop lo).flatten
  have hnl:news.length=(bG.length - lo)*K:=by
   have:=qB (k:=K) (ak:=bG.drop lo) (fun cs hc=>hlen cs (List.mem_of_mem_drop hc));rw [List.length_drop] at this;exact this
  have D0:news=(cur.toList.take (bG.length*K)).drop (lo*K):=by rw [h4,Cp hlen]
  have lz:=hb.block;have hcell:∀ gA v,news[gA]?=some v→w.cell? ((⟨b,lo*K,none⟩:Addr).add gA)=some v:=fun gA v hv=>by
   rw [Addr.uX];rw [D0,List.getElem?_drop,List.getElem?_take] at hv
   split at hv
   ·simp only [World.cell?,lz]
    simpa using hv
   ·cases hv
  have hmin:Nat.min (bG.length+1 - lo) (bG.length - lo)=bG.length - lo:=Nat.min_eq_right (by omega);have hf:=run_firstCells_some (P:=P) w K (bG.length - lo) ⟨b,lo*K,none⟩ (bG.length+1 - lo) (c - lo) news hnl hcell;have hnone:∀ v∈news,v.oneCell' =true:=fun v hv=>Ie (fun cs hc=>hone cs (List.mem_of_mem_drop hc)) v hv;have bh:(lo+1)*K+(bG.length - lo)*K=(bG.length+1)*K:=by rw [← Nat.add_mul];congr 1;omega
  have hm2:(bG.length+1)*K≤c*K:=Nat.mul_le_mul_right K hroom;have hst:=sE P b ((lo+1)*K) e hfz news 0 cur w lz (by omega) (by rw [hnl];omega) hnone;simp only [Nat.add_zero] at hst;refine ⟨_,w.setRow b (cur.toList.take ((lo+1)*K)++news++cur.toList.drop ((lo+1)*K+news.length)).toArray,_,⟨rfl,rfl⟩,?_,?_⟩
  ·simp [execOp,ho,hkn x _ hx,hkn y _ hy,resolve,invoke,builtin,Builtin.copy_,run_underlying ht,Builtin.lenOf,run_sizeOf he,hmin,hf,hst,goInt]
  ·refine (hb.setRow (cs:=(cur.toList.take ((lo+1)*K)++news++cur.toList.drop ((lo+1)*K+news.length)).toArray)).imp fun _ x=>Sat.fk (fun m' hm' =>?_) (fun _ z=>z) x
   have hel:(bG.take (lo+1)++bG.drop lo).length=bG.length+1:=by simp;omega
   have hsub:∀ cs∈bG.take (lo+1)++bG.drop lo,cs∈bG :=fun cs hc=>(List.mem_append.1 hc).elim List.mem_of_mem_take List.mem_of_mem_drop;refine ⟨_,rG (fun cs hc=>hlen cs (hsub cs hc)) (fun cs hc=>hone cs (hsub cs hc)),?_,.inr ⟨b,c,_,by rw [hel],⟨fz,hm',hfz⟩,by omega,h2,?_,?_⟩⟩
   ·rw [qB (fun cs hc=>hlen cs (hsub cs hc)),hkk]
   ·simp only [List.size_toArray,List.length_append,List.length_take,List.length_drop,hkk]
    rw [hnl,ec]
    omega
   ·rw [hel,hkk,List.toList_toArray,List.flatten_append]
    have e1:cur.toList.take ((lo+1)*K)=(bG.take (lo+1)).flatten:=by
     rw [← zf hlen,← h4,List.take_take,Nat.min_eq_left (Nat.mul_le_mul_right K (by omega))]
    have e2:(bG.length+1)*K=((bG.take (lo+1)).flatten++news).length:=by
     rw [List.length_append,hnl,qB (fun cs hc=>hlen cs (List.mem_of_mem_take hc)),List.length_take,Nat.min_eq_left (by omega)]
     omega
    rw [e1,e2,List.take_left']
    rfl
theorem bF.GY {K cw lo q:Nat} {jT:List Value} {ak:List (List Value)} {t2:TypeId} {xY qa:IntKind} {cq:Int} (ht:P.underlying t=some (.slice e)) (ht2:P.underlying t2=some (.int xY)) (he:dI P e K cw jT) (vF:∀ v∈jT,v.oneCell' =true) (hK:0<K)
  (hx:aA σ x=some (.slice a lo c)) (hy:aA σ y=some (.int qa cq)) (dZ:cq=(q:Int)) (hs:bg U (av (ag.cells K) e (.slice a ak.length c) ak) ζ) (hlo:lo≤ak.length) (h0:0<ak.length) (hc:ak.length≤c) (hgrow:c<lo+q) (hb:(lo+q)*cw≤140737488355328) (h63:lo+q≤9223372036854775807) :
  bF P (.call ⟨.builtin .append,#[x,y],#[t,t2]⟩) σ g U fun v' ax =>∃ b' c',v' =.slice (some ⟨b',0,none⟩) (lo+q) c' ∧lo+q≤c' ∧ax =av (ag.cells K) e v' (ak.take lo++List.replicate q jT)::av (ag.cells K) e (.slice a ak.length c) ak::ζ:=by
 subst dZ
 intro o ρ w ho hkn hw
 have hw1:=hw.cB hs;obtain ⟨b,cap,cur,bG,hv,h1,h2,h3,h4,ha,fz,hfz,hb0⟩:=hw1.oD (by omega);obtain ⟨rfl,hlen,hone⟩:=rF ha
 injection hv with e1 _ ck
 subst e1 ck;have hkk:(ag.cells K).k=K:=rfl;rw [hkk] at h3 h4 hfz;obtain ⟨i,cE,hi,r7,hsz,hby,kJ,hzl⟩:=he;subst hby kJ;have hzs:cE.cells.size=K:=by simpa using hzl
 have hq:q*i.bytes≤140737488355328:=Nat.le_trans (Nat.mul_le_mul_right _ (by omega)) hb;have wl:IntKind.i64.wrap (q:Int)=q:=by rw [IntKind.wrap_i64];omega
 have n1:¬ ((q:Int)<0):=by omega
 have n2:¬ (281474976710656<(q:Int)*(i.bytes:Int)):=by
  have:((q*i.bytes:Nat):Int)≤140737488355328:=by omega
  rw [Int.natCast_mul] at this;omega
 have n3:¬ (lo+q≤c):=by omega
 have pL:¬ (9223372036854775807<(lo:Int)+(q:Int)):=by omega
 have n5:¬ (281474976710656<Builtin.nextslicecap (lo+q) c*i.bytes):=by
  have:=growslice_fits (need:=lo+q) (old:=c) (bytes:=i.bytes) hgrow hb
  omega
 have n6:q*i.size≠0:=Nat.ne_of_gt (Nat.mul_pos (by omega) (by omega));have hge:=grownCap_ge w (lo+q) c e;have hcm:=grownCap_le_maxLen w (lo+q) c e (by simpa [maxLen] using h63);have ec:cur.toList.length=c*K:=by simpa using h3
 have hlk:lo*K≤bG.length*K:=Nat.mul_le_mul_right _ hlo;have htk:(bG.take lo).flatten=cur.toList.take (lo*K):=by rw [← zf hlen,← h4,List.take_take,Nat.min_eq_left hlk]
 have rZ:((bG.take lo).flatten).length=lo*i.size:=by
  rw [qB (fun cs hc=>hlen cs (List.mem_of_mem_take hc)),List.length_take,Nat.min_eq_left hlo,hsz]
 have holds:∀ j v,((bG.take lo).flatten)[j]?=some v→w.cell? ((⟨b,0,none⟩:Addr).add j)=some v:=fun j v hv=>by
  rw [Addr.uX,Nat.zero_add];rw [htk,List.getElem?_take] at hv
  split at hv
  ·simp only [World.cell?,hb0.block]
   simpa using hv
  ·cases hv
 have hfo:=run_firstCells_some (P:=P) w.drew i.size lo ⟨b,0,none⟩ lo c ((bG.take lo).flatten) rZ (by simpa using holds);have hrun:(Builtin.append_ #[t,t2] o.type #[.slice (some ⟨b,0,none⟩) lo c,.int qa (q:Int)]).run P w=.ok (.slice (some ⟨w.heap.size,0,none⟩) (lo+q) (grownCap w (lo+q) c e)) (w.drew.alloc (.cells (((bG.take lo).flatten).toArray++Builtin.zeroCells cE.cells q++Builtin.zeroCells cE.cells (grownCap w (lo+q) c e - (lo+q))) e)):=by
  simp [Builtin.append_,run_underlying ht,run_underlying ht2,sizeOf,typeInfo,zeroValue,hi,r7,asInt,asIntOf,wl,n1,n2,n3,pL,n5,n6,hfo,Question.forced,newRow,grownCap]
 have p9:∀ q,(Builtin.zeroCells cE.cells q).toList=fe cE.cells.toList q:=fun q=>by
  have:=x8 cE.cells q (by omega);rw [← this];rfl
 refine ⟨_,_,_,⟨_,_,rfl,hge,rfl⟩,qg ho (by rw [hkn x _ hx,hkn y _ hy];exact hrun),?_⟩;have hrf:∀ q,(List.replicate q cE.cells.toList).flatten=fe cE.cells.toList q:=fun q=>by
  induction q with
  |zero=>rfl
  |succ q ih=>rw [List.replicate_succ,List.flatten_cons,ih];rfl
 have hnl:(bG.take lo++List.replicate q cE.cells.toList).length=lo+q:=by simp;omega
 have rY:∀ cs∈bG.take lo++List.replicate q cE.cells.toList,cs.length=K:=fun cs hc=>by
  rcases List.mem_append.1 hc with hc|hc
  ·exact hlen cs (List.mem_of_mem_take hc)
  ·rw [List.eq_of_mem_replicate hc];exact hzl
 have D5:∀ cs∈bG.take lo++List.replicate q cE.cells.toList,∀ v∈cs,v.oneCell' =true:=fun cs hc=>by
  rcases List.mem_append.1 hc with hc|hc
  ·exact hone cs (List.mem_of_mem_take hc)
  ·rw [List.eq_of_mem_replicate hc];exact vF
 refine (((hw1.drewN _ (Nat.le_add_right _ _)).alloc _).own (k:=K) (m:=lo+q) (cap:=grownCap w (lo+q) c e) (cs:=(bG.take lo++List.replicate q cE.cells.toList).flatten) hge (by simpa [maxLen] using hcm) ?_ ?_).imp fun _=>Sat.fk (av.of (T:=ag.cells K) (rG rY D5) hnl.symm rfl rfl) fun _ q=>q
 ·simp only [Array.size_append,size_zeroCells,hzs,List.size_toArray,rZ,hsz,← Nat.add_mul]
  congr 1;omega
 ·rw [Array.toList_append,Array.toList_append,p9,p9,List.toList_toArray,List.flatten_append,hrf]
  have:((bG.take lo).flatten++fe cE.cells.toList q).length=(lo+q)*K:=by rw [List.length_append,rZ,sj,hzl,hsz,Nat.add_mul]
  rw [← this];exact List.take_left
theorem aG.KA {f : FuncId} {fn' : Func} {tS tR K : TypeId} {ts : Array TypeId} {b1 b2 q la ca lb cb n2 c2 : Nat} {cs : List Value} {ak : List (List Value)} {f0 : Operand} (hf : P.funcs[f]? = some fn') (h1 : (fn'.name == "runtime.NumGoroutine") = false) (h2 : fn'.body.isNone = true) (h3 : Extern.findNext fn' = none)
  (h4:Extern.find fn' =some (Extern.SlicesOverlaps.overlaps #[tS,tS] #[tR])) (ht:P.underlying tS=some (.slice e)) (he:(P.info? e).map (·.size)=some s) (hK:0<K)
  (h0:aA σ f0=some (.func (.func f) #[] #[])) (hx:aA σ x=some (.slice (some ⟨b1,0,none⟩) la ca)) (hy:aA σ y=some (.slice (some ⟨b2,q,none⟩) lb cb))
  (s1:bg U (obj b1 e cs) ζ) (s2:bg ζ (av (ag.cells K) e (.slice (some ⟨b2,0,none⟩) n2 c2) ak) aO) (hn:0<ak.length) :
  aG P (.call ⟨.value f0,#[x,y],ts⟩) σ g U (.bool false) U:=by
 intro o ρ w ho hk hw
 refine ⟨w,?_,hw⟩;have hw1:=hw.cB s1;have kV:w.heap[b1]?=some (.cells cs.toArray e (0,0)):=hw1.block;have qW:Holds w g (av (ag.cells K) e (.slice (some ⟨b2,0,none⟩) n2 c2) ak::obj b1 e cs::aO):=hw1.perm ((List.Perm.cons _ s2.perm).trans (List.Perm.swap _ _ _));obtain ⟨b,cap,cur,bG,hv,g1,g2,g3,g4,ha,fz,hfz,hb⟩:=qW.oD hn;have lz:=hb.block
 injection hv with e1 _ ck
 injection e1 with e1
 injection e1 with e1
 subst e1;have hne:b1≠b2:=by
  rintro rfl;obtain ⟨_,_,_,kk,_,_,_,m1,m2,dj,_,_,o1,m3,_,_,t1,_,o2,_⟩:=hb;have a1:m1 b1=some _:=o1;have a2:m2 b1=some _:=t1 _ _ o2
  rcases dj b1 with z|z
  ·rw [z] at a1;cases a1
  ·rw [z] at a2;cases a2
 have PM:cur.size≠0:=by
  have hkk:(ag.cells K).k=K:=rfl;rw [g3,hkk];exact Nat.ne_of_gt (Nat.mul_pos (by omega) hK)
 have Qu:=Lib.run_overlaps_apart (P:=P) w tS tR e ht s (fun w=>run_sizeOf he w) ⟨b1,0,none⟩ ⟨b2,q,none⟩ la ca lb cb hne e e cs.toArray.size cur.size (by simp [World.shape?,kV]) (by simp [World.shape?,lz]) PM
  (by simp [World.frozen?,kV]) (by simp [World.frozen?,kV])
 have e1:=run_callFunc_extern (P:=P) hf h1 h2 h3 h4 #[.slice (some ⟨b1,0,none⟩) la ca,.slice (some ⟨b2,q,none⟩) lb cb] w;rw [Qu] at e1;simp only [Result.andThen] at e1
 simp [execOp,ho,resolve,hk f0 _ h0,hk x _ hx,hk y _ hy,Deferred.ofValue,invoke,e1]
theorem vP {b K:Nat} {e:TypeId} {cs:List Value} {m:Fr} (hl:cs.length=K) (h1:∀ v∈cs,v.oneCell' =true) (h:Sat [obj b e cs] m):av (ag.cells K) e (.slice (some ⟨b,0,none⟩) 1 1) [cs] m:=by
 obtain ⟨m1,_,_,s1,_,o,_⟩:=h;have o1:m1 b=some (.cells cs.toArray e (0,0)):=o;have hf:[cs].flatten=cs:=by simp
 have hkk:(ag.cells K).k=K:=rfl;refine ⟨[cs],rG (fun x hx=>by rw [List.mem_singleton.1 hx];exact hl) (fun x hx=>by rw [List.mem_singleton.1 hx];exact h1),by rw [hf,hl,hkk];exact (Nat.one_mul _).symm,.inr ⟨b,1,cs.toArray,rfl,⟨(0,0),s1 _ _ o1,LP _⟩,Nat.le_refl _,by omega,by simp [hl,hkk],?_⟩⟩;rw [hf];exact List.take_of_length_le (by simp [hl,hkk])
theorem aj.piece {α:Type} {T:ag α} {h:Fr} {n p:Nat} {xs:List α} (z:aj T h (.slice a n c) xs) (hp:p<n):aj T h (.slice (if c=p then a else a.map (·.add (p*T.k))) (n - p) (c - p)) (xs.drop p):=by
 obtain ⟨ak,ha,ad,cap,hv,h1,h2,h3,h4⟩:=z
 injection hv with e1 e2 ck
 subst e1 e2 ck;rw [if_neg (by omega:¬ c=p)];have hcs:(ak.drop p).flatten=ak.flatten.drop (p*T.k):=(ha.zA p).symm;refine ⟨ak.drop p,ha.drop p,a.map (·.add (p*T.k)),c - p,by rw [List.length_drop],by rw [List.length_drop];omega,⟨by omega,fun h=>?_⟩,?_,?_⟩
 ·cases a with
  |none=>have:=h2.2 rfl;omega
  |some _=>cases h
 ·rw [hcs,List.length_drop,h3,List.length_drop,Nat.sub_mul]
 ·intro q hq
  rw [hcs] at hq;have tV:p*T.k+q<ak.flatten.length:=by simp only [List.length_drop] at hq;omega
  obtain ⟨p',hp',hc⟩:=h4 _ tV
  cases hp'
  refine ⟨_,rfl,?_⟩;rw [Addr.add_add];simp only [hcs,List.getElem_drop];exact hc
theorem bF.wN {K lo n:Nat} {ak ds:List (List Value)} {q:Value} (ht:P.underlying t=some (.slice e)) (he:(P.info? e).map (·.size)=some K) (hK:0<K)
  (hx:aA σ x=some (.slice (if c=lo then a else a.map (·.add (lo*K))) (n - lo) (c - lo))) (hy:aA σ y=some q) (hu:aj (ag.cells K) g.h q ds) (hs:bg U (av (ag.cells K) e (.slice a n c) ak) ζ)
  (hn:ak.length=n) (hl:lo+ds.length≤n) (h0:0<ds.length) :
  bF P (.call ⟨.builtin .copy,#[x,y],#[t,te]⟩) σ g U fun v ax =>v=.int .i64 (ds.length:Int)∧ax =av (ag.cells K) e (.slice a n c) (ak.take lo++ds++ak.drop (lo+ds.length))::ζ:=by
 subst hn;exact bF.zg ht he hK hx hy hu hs hl h0
theorem af.zg {K lo m:Nat} {ak ds:List (List Value)} {q:Value} (ho:bJ ops i n σ d (.call ⟨.builtin .copy,#[x,y],#[t,te]⟩)) (hd:eH ops [i] ls=true) (ht:P.underlying t=some (.slice e)) (he:(P.info? e).map (·.size)=some K) (hK:0<K)
  (hx:aA σ x=some (.slice (if c=lo then a else a.map (·.add (lo*K))) (m - lo) (c - lo))) (hy:aA σ y=some q) (hu:aj (ag.cells K) g.h q ds) (hs:bg U (av (ag.cells K) e (.slice a m c) ak) ζ) (hn:ak.length=m) (hl:lo+ds.length≤m) (h0:0<ds.length)
  (h:af P fn n R ops k D g ls ((d,.int .i64 (ds.length:Int))::σ) (av (ag.cells K) e (.slice a m c) (ak.take lo++ds++ak.drop (lo+ds.length))::ζ)):af P fn n R ops k D g (i::ls) σ U :=
 aJ.perm hs.perm (af.f_ (U:=av (ag.cells K) e (.slice a m c) ak::ζ) (K:=fun v ax =>v=.int .i64 (ds.length:Int)∧ax =av (ag.cells K) e (.slice a m c) (ak.take lo++ds++ak.drop (lo+ds.length))::ζ) ho rfl hd
  (fun uN =>(bF.wN ht he hK hx hy hu bg.here hn hl h0).imp fun _ _ ⟨h1,h2⟩=>⟨_,⟨h1,rfl⟩,h2⟩) (by rintro _ _ ⟨rfl,rfl⟩;exact h))
theorem af.Bf {K lo:Nat} {ak:List (List Value)} (ho:bJ ops i n σ d (.call ⟨.builtin .copy,#[x,y],#[t,te]⟩)) (hd:eH ops [i] ls=true) (ht:P.underlying t=some (.slice e)) (he:(P.info? e).map (·.size)=some K) (hlo:lo<ak.length) (hroom:ak.length+1≤c)
  (hx:aA σ x=some (.slice (if c=lo+1 then a else a.map (·.add ((lo+1)*K))) (ak.length+1 - (lo+1)) (c - (lo+1)))) (hy:aA σ y=some (.slice (if c=lo then a else a.map (·.add (lo*K))) (ak.length+1 - lo) (c - lo)))
  (hs:bg U (av (ag.cells K) e (.slice a ak.length c) ak) ζ)
  (h:af P fn n R ops k D g ls ((d,.int .i64 ((ak.length - lo:Nat):Int))::σ) (av (ag.cells K) e (.slice a (ak.length+1) c) (ak.take (lo+1)++ak.drop lo)::ζ)):af P fn n R ops k D g (i::ls) σ U :=
 aJ.perm hs.perm (af.f_ (U:=av (ag.cells K) e (.slice a ak.length c) ak::ζ) (K:=fun v ax =>v=.int .i64 ((ak.length - lo:Nat):Int)∧ax =av (ag.cells K) e (.slice a (ak.length+1) c) (ak.take (lo+1)++ak.drop lo)::ζ) ho rfl hd
  (fun uN =>(bF.Bf ht he hlo hroom hx hy bg.here).imp fun _ _ ⟨h1,h2⟩=>⟨_,⟨h1,rfl⟩,h2⟩) (by rintro _ _ ⟨rfl,rfl⟩;exact h))
theorem cO.ja {fl:Bool} {cw K len:Nat} {z:List Value} {parts:Array (Nat × Operand)} {vs cs:List Value} (ho:bJ ops i n σ d (.buildSlice t len parts)) (hd:ei fl ops i ls=true) (ht:P.underlying t=some (.slice e)) (he:dI P e K cw z)
  (hp:partsOf σ parts.toList 0=some vs) (hlen:parts.toList.length=len) (hvs:vs.all (fun v=>Nat.beq v.cells.size K)=true) (iW:len*K≤16777216) (hcs:cs=(vs.map (·.cells.toList)).flatten)
  (h:∀ b,af P fn n R ops k D g ls ((d,.slice (some ⟨b,0,none⟩) len len)::σ) (obj b e cs::U)):aJ P fn n R ops k D g fl (i::ls) σ U :=
 cO.f_ (K:=fun v ax =>∃ b,v=.slice (some ⟨b,0,none⟩) len len∧ax =obj b e cs::U) ho rfl hd (fun _=>(bF.ja ht he hp hlen hvs iW hcs).imp fun _ _ ⟨b,h1,h2⟩=>⟨_,⟨b,h1,rfl⟩,h2⟩)
  fun _ _ ⟨b,h1,h2⟩=>by subst h1;subst h2;exact h b
theorem af.ja {cw K len:Nat} {z:List Value} {parts:Array (Nat × Operand)} {vs cs:List Value} (ho:bJ ops i n σ d (.buildSlice t len parts)) (hd:eH ops [i] ls=true) (ht:P.underlying t=some (.slice e)) (he:dI P e K cw z)
  (hp:partsOf σ parts.toList 0=some vs) (hlen:parts.toList.length=len) (hvs:vs.all (fun v=>Nat.beq v.cells.size K)=true) (iW:len*K≤16777216) (hcs:cs=(vs.map (·.cells.toList)).flatten)
  (h:∀ b,af P fn n R ops k D g ls ((d,.slice (some ⟨b,0,none⟩) len len)::σ) (obj b e cs::U)):af P fn n R ops k D g (i::ls) σ U:=cO.ja (fl:=false) ho (by simpa [ei] using hd) ht he hp hlen hvs iW hcs h
theorem bT.ja {cw K len:Nat} {z:List Value} {parts:Array (Nat × Operand)} {vs cs:List Value} (ho:bJ ops i n σ d (.buildSlice t len parts)) (_:true=true) (ht:P.underlying t=some (.slice e)) (he:dI P e K cw z)
  (hp:partsOf σ parts.toList 0=some vs) (hlen:parts.toList.length=len) (hvs:vs.all (fun v=>Nat.beq v.cells.size K)=true) (iW:len*K≤16777216) (hcs:cs=(vs.map (·.cells.toList)).flatten)
  (h:∀ b,af P fn n R ops k D g ls ((d,.slice (some ⟨b,0,none⟩) len len)::σ) (obj b e cs::U)):aJ P fn n R ops k D g true (i::ls) σ U:=cO.ja (fl:=true) ho rfl ht he hp hlen hvs iW hcs h
end
end Go.Sp
end
section
/- Texts of this proof, one behind the other. -/
section
/- Texts of this proof. -/
namespace Go.Sp
variable {K:Type} [DecidableEq K] {enc:K→Value}
section
variable {ro:Option Nat} {P:Program} {fn:Func} {n:Nat} {R:Ending→World→Prop} {k:List Item} {σ:List (Nat × Value)} {D:List Deferred} {g:bn} {U ζ aO:List az} {ops:Array Oper} {i d:Nat} {ls:List Nat}
 {t tk te:TypeId} {x y z:Operand} {b c:Nat} {l:List (cr K)} {key:K} {w:World}
omit [DecidableEq K] in
theorem O.TX {M done todo:List (cr K)} {it:Nat} (ho:bJ ops i n σ d (.next x false)) (hx:aA σ x=some (.pointer (some ⟨it,0,none⟩))) (Rs:gE M c) (hp:M.Perm (done++todo)) (hwf:gE l c) (Qa:∀ x∈l,x∈M) (jx:∀ x∈todo,x∈l) (s1:bg U (jr it b c done) ζ) (s2:bg ζ (cu enc b l c) aO)
  (h0:todo=[]→O ro P fn n R ops ls k ((d,.tuple #[.bool false])::σ) D g (jr it b c done::cu enc b l c::aO))
  (h1:∀ x t1 t2,todo=t1++x::t2→O ro P fn n R ops ls k ((d,.tuple #[.bool true,enc (x.1),x.2.1])::σ) D g (jr it b c (done++[x])::cu enc b l c::aO)):O ro P fn n R ops (i::ls) k σ D g U:=by
 intro a w hf hd hw
 obtain ⟨o,hi,eB,hop,hg,hb⟩:=ho.spec;have hw1:Holds w g (jr it b c done::cu enc b l c::aO):=(hw.cB s1).imp fun _ h=>Sat.fk (fun _ y=>y) (fun _ y=>Sat.perm s2.perm y) h;have hr:=Holds.block hw1;have hm:=cu.block (hw1.cB (.there .here));have dy:((done++todo).map (·.2.2)).Nodup:=(hp.map _).nodup_iff.1 Rs.1;rw [List.map_append,List.nodup_append] at dy;have hold:∀ x∈(fc enc l).toList,x.born<c:=fun e he=>by
  simp only [fc,List.mem_map] at he;obtain ⟨y,hy,rfl⟩:=he;exact hwf.2.1 y hy
 rcases run_next_at (P:=P) (ty:=o.type) hr hm hold (Nat.le_refl _) with ⟨hz,hrun⟩|⟨e,he,m,hmn,hrun⟩
 ·have EM:todo=[]:=by
   cases todo with
   |nil=>rfl
   |cons y ys =>
    have mO:y∈l:=jx y (by simp);have:gX enc y∈(leftOf (fc enc l) (done.map (·.2.2)).toArray).toList:=AA.2 ⟨y,mO,rfl,fun h=>dy.2.2 _ h _ (by simp) rfl⟩;rw [Array.eq_empty_of_size_eq_zero hz] at this
    cases this
  have pG :(execOp a.eval o).run P w=.ok (.value (.tuple #[.bool false])) w:=by simp [execOp,hop,hf.j_ x _ hx,hrun]
  refine O.mK hi (hg a hf) (vN pG) pG ?_;rw [Oper.uponIn_value,eB];exact h0 EM _ _ (hf.put hb) hd hw1
 ·obtain ⟨y,hy,rfl,qR⟩:=AA.1 he
  have ET:y∈todo:=by
   rcases List.mem_append.1 (hp.mem_iff.1 (Qa y hy)) with h|h
   ·exact absurd (List.mem_map.2 ⟨y,h,rfl⟩) qR
   ·exact h
  obtain ⟨t1,t2,EN⟩:=List.append_of_mem ET;have pG :(execOp a.eval o).run P w=.ok (.value (.tuple #[.bool true,enc (y.1),y.2.1])) (({ w with drawn:=m }:World).putObj it (.mapIter (some b) c ((done.map (·.2.2)).toArray.push y.2.2) c)):=by
   simp [execOp,hop,hf.j_ x _ hx,hrun,gX]
  refine O.mK hi (hg a hf) (vN pG) pG ?_;rw [Oper.uponIn_value,eB];have qW:=(hw1.drewN m hmn).putObj (.mapIter (some b) c ((done.map (·.2.2)).toArray.push y.2.2) c);have DQ:jr it b c (done++[y])=blk it (.mapIter (some b) c ((done.map (·.2.2)).toArray.push y.2.2) c):=by simp [jr]
  rw [← DQ] at qW;exact h1 y t1 t2 EN _ _ (hf.put hb) hd qW
theorem aG.JS (ht:P.underlying t=some (.map tk te)) (hx:aA σ x=some (.map (some b))) (hs:bg U (cu enc b l c) ζ):aG P (.call ⟨.builtin .len,#[x],#[t]⟩) σ g U (.int .i64 (l.length:Int)) U:=fun o ρ w ho hk hw=>⟨w,by
 have hb:=cu.block (hw.cB hs)
 simp [execOp,ho,hk x _ hx,resolve,invoke,builtin,Builtin.len_,run_underlying ht,MapKept.run_getObj_map hb,fc,goInt],hw⟩
end
theorem T7 {l:List (cr K)} (h:(l.map (·.1)).Nodup) {x y:cr K} (hx:x∈l) (hy:y∈l) (e:x.1=y.1):x=y:=by
 obtain ⟨i,hi,rfl⟩:=List.getElem_of_mem hx;obtain ⟨j,hj,rfl⟩:=List.getElem_of_mem hy;have:=(List.getElem_inj (i:=i) (j:=j) (h₀:=by simpa using hi) (h₁:=by simpa using hj) h).1 (by simpa using e);subst this;rfl
structure nk {K:Type} [DecidableEq K] (M:List (cr K)) (q:K→Bool) (c:Nat) (done todo l:List (cr K)):Prop where
 uF:gE M c
 hp:M.Perm (done++todo)
 wf:gE l c
 sub:∀ x∈l,x∈M
 left:∀ x∈todo,x∈l
 out:∀ x∈l,x∈done→q x.1=false
theorem nk.start {M:List (cr K)} {q:K→Bool} {c:Nat} (h:gE M c):nk M q c [] M M:=⟨h,List.Perm.refl _,h,fun _ h=>h,fun _ h=>h,fun _ _ h=>by cases h⟩
theorem nk.keep {M:List (cr K)} {q:K→Bool} {c:Nat} {done t1 t2 l:List (cr K)} {x:cr K} (h:nk M q c done (t1++x::t2) l) (hq:q x.1=false):nk M q c (done++[x]) (t1++t2) l where
 uF:=h.uF
 hp:=h.hp.trans (by rw [List.append_assoc];exact List.Perm.append_left _ List.perm_middle)
 wf:=h.wf
 sub:=h.sub
 left:=fun y hy=>h.left y (by rcases List.mem_append.1 hy with e|e<;>simp [e])
 out:=fun y hy hd=>by
  rcases List.mem_append.1 hd with e|e
  ·exact h.out y hy e
  ·rw [List.mem_singleton.1 e];exact hq
theorem nk.drop {M:List (cr K)} {q:K→Bool} {c:Nat} {done t1 t2 l:List (cr K)} {x:cr K} (h:nk M q c done (t1++x::t2) l):nk M q c (done++[x]) (t1++t2) (gQ l x.1) where
 uF:=h.uF
 hp:=h.hp.trans (by rw [List.append_assoc];exact List.Perm.append_left _ List.perm_middle)
 wf:=CF h.wf x.1
 sub:=fun y hy=>h.sub y ((tc x.1 l).subset hy)
 left:=fun y hy=>by
  have mO:y∈l:=h.left y (by rcases List.mem_append.1 hy with e|e<;>simp [e]);have aag:x∈M:=h.hp.mem_iff.2 (by simp);have hne:y.1≠x.1:=fun e=>by
   have dy:((done++(t1++x::t2)).map (·.1)).Nodup:=(h.hp.map _).nodup_iff.1 h.uF.2.2;have:(x::(done++(t1++t2))).map (·.1) |>.Nodup:=by
    refine (List.Perm.map _ ?_).nodup_iff.1 dy;rw [← List.append_assoc,← List.append_assoc];exact List.perm_middle
   rw [List.map_cons,List.nodup_cons] at this;exact this.1 (List.mem_map.2 ⟨y,by rcases List.mem_append.1 hy with q|q<;>simp [q],e⟩)
  have h1:=vm h.wf.2.2 mO;have h2:cL (gQ l x.1) y.1=some y.2.1:=by rw [C2 h.wf.2.2,if_neg hne,h1]
  obtain ⟨n,hn⟩:=C3 h2;have e:=T7 h.wf.2.2 mO ((tc x.1 l).subset hn) rfl;rw [e];exact hn
 out:=fun y hy hd=>by
  rcases List.mem_append.1 hd with e|e
  ·exact h.out y ((tc x.1 l).subset hy) e
  ·rw [List.mem_singleton.1 e] at hy
   have h2:=vm (CF h.wf x.1).2.2 hy;rw [C2 h.wf.2.2,if_pos rfl] at h2
   cases h2
theorem nk.done {M:List (cr K)} {q:K→Bool} {c:Nat} {done l:List (cr K)} (h:nk M q c done [] l):∀ p v,cL l p=some v→cL M p=some v∧q p=false:=fun p v e=>by
 obtain ⟨n,hn⟩:=C3 e;have vp:=h.sub _ hn;refine ⟨vm h.uF.2.2 vp,h.out _ hn ?_⟩;have:=h.hp.mem_iff.1 vp
 rwa [List.append_nil] at this
end Go.Sp
end
section
/- Texts of this proof, one behind the other. -/
section
/- Texts of this proof. -/
open Go
namespace Go.Sp
attribute [local irreducible] bw
abbrev bU.pU {d:Fr} {dN:List aD} (aO:e3) (b s:Nat) (x:bU d dN) (L:List aD):List az :=
 [jq x.k,obj b aO.tree [x.dm,x.dn,.int .i64 (s:Int),.map (some x.mid)],av (ag.fZ d x.k bP) aO.leaf x.dm L,av ag.str aO.str x.dn (L.map fun y=>bq y.1),cu encS x.mid x.M x.c]
def fh (aO:e3) (d:Fr) (b s:Nat) (L dN:List aD):az:=fun m=>∃ x:bU d dN,Sat (x.pU aO b s L) m
theorem aY.z {aO:e3} {d:Fr} {b s:Nat} {L:List aD} {m:Fr}:aY aO d b s L m→fh aO d b s L L m:=fun h=>aY.jc h
theorem fh.jc {aO:e3} {d:Fr} {b s:Nat} {L dN:List aD} {m:Fr}:fh aO d b s L dN m→∃ x:bU d dN,Sat (x.pU aO b s L) m:=fun h=>h
def bU.up {d:Fr} {dN:List aD} (x:bU d dN) (k:Fr) (h:x.k.sub k):bU d dN:=⟨k,x.dm,x.dn,x.mid,x.M,x.c,x.wf,x.ok.mono h⟩
theorem fh.with {aO:e3} {dF:rD} {d:Fr} {b s:Nat} {L dN:List aD} {e:TypeId} {v:Value} {xs:List aP} {m:Fr} (h:Sat [fh aO d b s L dN,cD (dr dF) e v xs] m) :
  ∃ x:{x:bU d dN // ∃ q,jU q d x.k∧aj cv q v xs},Sat (x.1.pU aO b s L) m:=by
 obtain ⟨m1,m2,d1,s1,s2,⟨x,n1,r1,d2,t1,t2,o1,hs⟩,m3,_,_,t3,_,o2,_⟩:=h;have e1:n1=x.k:=o1;have d13:n1.cU m3:=fun i=>(d1 i).imp (fun q=>by
  cases c:n1 i with
  |none=>rfl
  |some o=>rw [t1 i o c] at q;cases q) (fun q=>by
  cases c:m3 i with
  |none=>rfl
  |some o=>rw [t3 i o c] at q;cases q)
 have CK:(n1.add m3).cU r1:=Fr.p4 d2 (fun i=>(d1 i).symm.imp (fun q=>by
  cases c:m3 i with
  |none=>rfl
  |some o=>rw [t3 i o c] at q;cases q) (fun q=>by
  cases c:r1 i with
  |none=>rfl
  |some o=>rw [t2 i o c] at q;cases q))
 have hk:x.k.sub (n1.add m3):=e1 ▸ Fr.dh n1 m3;have sm:(n1.add m3).sub m:=Fr.ia (Fr.aI t1 s1) (Fr.aI t3 s2);refine ⟨⟨x.up (n1.add m3) hk,n1.add m3,jU.own _ _,(cD.arr o2).mono (Fr.dB d13)⟩,n1.add m3,r1,CK,sm,Fr.aI t2 s1,rfl,?_⟩;obtain ⟨a1,a2,da,sa,sb,q1,b1,b2,db,sc,sd,q2,cM⟩:=hs;exact ⟨a1,a2,da,sa,sb,q1,b1,b2,db,sc,sd,q2.zm hk,cM⟩
theorem To {d k:Fr} {key:List UInt8} {v:Value} {xs:List aP} (hk:key.length≤9223372036854775807):(∃ q,jU q d k∧aj cv q v xs)→(ag.fZ d k bP).rel Fr.emp [.string (str key),v] (key,xs,())
 |⟨q,c,a⟩=>⟨q,c,bP.mk hk a⟩
theorem bU.seen {aO:e3} {d g:Fr} {b s:Nat} {L dN:List aD} {m:Fr} (x:bU d dN) (hd:d.sub g) (hm:g.cU m):Sat (x.pU aO b s L) m→kr (g.add m) b s L:=fun ⟨n1,r1,_,t1,t2,o1,hs⟩=>by
 have e1:n1=x.k:=o1;obtain ⟨m2,_,_,s2,LL,o,m3,_,_,s3,t3,sO,m4,_,_,pP,_,wg,_⟩:=hs;have g1:m.sub (g.add m):=Fr.dB hm;have h1:m2.sub m:=Fr.aI s2 t2;have h2:m3.sub m:=Fr.aI s3 (Fr.aI LL t2);have h3:m4.sub m:=Fr.aI pP (Fr.aI t3 (Fr.aI LL t2));obtain ⟨cS,cT,hL⟩:=sO.shape;obtain ⟨cF,cG,hw⟩:=wg.shape;rw [List.length_map] at hw;rw [hL] at o sO;rw [hw] at o wg;have P8:x.k.sub (g.add m):=e1 ▸ Fr.aI t1 g1;exact ⟨cS,cT,cF,cG,x.mid,((ga o).mono h1).mono g1,((sO.arr.mono h2).mono g1).zn (Fr.aI hd (Fr.dh _ _)) P8,(wg.arr.mono h3).mono g1⟩
def bU.with {d:Fr} {dN:List aD} (x:bU d dN) (dm dn:Value):bU d dN:=⟨x.k,dm,dn,x.mid,x.M,x.c,x.wf,x.ok⟩
theorem iL.thin {d k:Fr} {L:List aD} {y:aD} {M done l:List (cr (List UInt8))} {c:Nat} (h:iL d k L M) (hr:eE L) (ht:nk M (fun p=>p.isPrefixOf (bq y.1)) c done [] l):iL d k (gK L y) l:=fun p v e=>by
 obtain ⟨h1,h2⟩:=ht.done p v e;obtain ⟨q1,q2⟩:=h p v h1;refine ⟨q1,?_⟩;rw [Xw (X9 (p:=p) hr h2)];exact q2
theorem U1 (L:List aD) (y:aD):(gK L y).length≤L.length+1:=by
 unfold gK;have h:(L.filter fun z=>decide (z.1<y.1)).length+(L.filter fun z=>decide (y.1<z.1)).length≤L.length:=by
  rw [← List.countP_eq_length_filter,← List.countP_eq_length_filter,List.length_eq_countP_add_countP (fun z:aD=>decide (z.1<y.1)) (l:=L)];refine Nat.add_le_add_left (List.countP_mono_left fun z _ q=>?_) _;simp only [decide_eq_true_eq] at q ⊢;exact fun k=>List.lt_irrefl _ (List.lt_trans q (of_decide_eq_true (by simpa using k)))
 simp only [List.length_append]
 split
 ·simp only [List.length_nil];omega
 ·simp only [List.length_singleton];omega
theorem U2 {L:List aD} {y:aD} {N:Nat} (h:∀ z∈L,z.2.1.length≤N) (hy:y.2.1.length≤N):∀ z∈gK L y,z.2.1.length≤N:=fun z hz=>by
 rcases E9.1 hz with ⟨q,_⟩|⟨rfl,_⟩
 ·exact h z q
 ·exact hy
theorem ic {α:Type} {R:List Value→α→Prop} {ak:List (List Value)} {xs:List α} {c:List Value} {x:α} (i:Nat) (h:b5 R ak xs) (hc:R c x):b5 R (ak.take i++[c]++ak.drop i) (xs.take i++[x]++xs.drop i):=((h.take i).append (show b5 R [c] [x] from ⟨hc,trivial⟩)).append (h.drop i)
theorem uY {α:Type} {R:List Value→α→Prop} {ak:List (List Value)} {xs:List α} (i:Nat) (h:b5 R ak xs):b5 R (ak.eraseIdx i) (xs.eraseIdx i):=by
 rw [erase_eq,erase_eq];exact (h.take i).append (h.drop (i+1))
abbrev bU.wc {d:Fr} {dN:List aD} (aO:e3) (b s:Nat) (x:bU d dN) (dm dn:Value) (ak cR:List (List Value)):List az :=
 [jq x.k,obj b aO.tree [dm,dn,.int .i64 (s:Int),.map (some x.mid)],av (ag.cells 2) aO.leaf dm ak,av (ag.cells 1) aO.str dn cR,cu encS x.mid x.M x.c]
theorem bU.rows {aO:e3} {d:Fr} {b s:Nat} {L dN:List aD} {m:Fr} (x:bU d dN) {dm dn:Value} {ak cR:List (List Value)} (h1:b5 ((ag.fZ d x.k bP).rel Fr.emp) ak L) (h2:b5 (ag.str.rel Fr.emp) cR (L.map fun y=>bq y.1)) :
  Sat (x.wc aO b s dm dn ak cR) m→fh aO d b s L dN m
 |⟨a1,a2,da,sa,sb,q1,b1,b2,db,sc,sd,q2,c1,c2,NZ,se,sf,cM,e1,e2,N0,WW,sh,nT,ur⟩ =>
  ⟨x.with dm dn,a1,a2,da,sa,sb,q1,b1,b2,db,sc,sd,q2,c1,c2,NZ,se,sf,av.kL rfl h1 cM,e1,e2,N0,WW,sh,av.kL rfl h2 nT,ur⟩
end Go.Sp
end
section
/- Texts of this proof. -/
open Go
namespace Go.Sp
section
variable {P:Program} {σ:List (Nat × Value)} {g:bn} {U ζ:List az}
theorem Wg {xs ys:List UInt8} {w:World}:(Extern.BytealgCompare.compare #[.string (str xs),.string (str ys)]).run P w=.ok (.int .i64 (Lib.compareBytes xs ys)) w:=by
 change Sem.run P (do pure (goInt (Extern.BytealgCompare.cmp (← Extern.Bytes.bytesOf (.string (str xs))) (← Extern.Bytes.bytesOf (.string (str ys)))))) w=_
 simp only [Extern.Bytes.bytesOf,Sem.run_bind,Sem.run_pure,Result.andThen];rw [Lib.cmp_eq]
 rfl
theorem aG.Nt {f : FuncId} {fn : Func} {x y z : Operand} {ts : Array TypeId} {xs ys : List UInt8} (hf : P.funcs[f]? = some fn) (h1 : (fn.name == "runtime.NumGoroutine") = false) (h2 : fn.body.isNone = true) (h3 : Extern.findNext fn = none) (h4 : Extern.find fn = some Extern.BytealgCompare.compare)
  (hx:aA σ x=some (.func (.func f) #[] #[])) (hy:aA σ y=some (.string (str xs))) (hz:aA σ z=some (.string (str ys))):aG P (.call ⟨.value x,#[y,z],ts⟩) σ g U (.int .i64 (Lib.compareBytes xs ys)) U:=by
 intro o ρ w ho hk hw
 refine ⟨w,?_,hw⟩;have e1:=run_callFunc_extern (P:=P) hf h1 h2 h3 h4 #[.string (str xs),.string (str ys)] w;rw [Wg] at e1;simp only [Result.andThen] at e1
 simp [execOp,ho,resolve,hk x _ hx,hk y _ hy,hk z _ hz,Deferred.ofValue,invoke,e1]
theorem bF.NI {t te e T:TypeId} {x y:Operand} {b n c m:Nat} {u:Value} {cs:List Value} {xs:List UInt8} (ht:P.underlying t=some (.slice e)) (he:(P.info? e).map (·.size)=some 1) (hx:aA σ x=some (.slice (some ⟨b,0,none⟩) n c)) (hy:aA σ y=some u) (hu:aj ag.u8 g.h u xs)
  (hs:bg U (obj b T cs) ζ) (hm:m=xs.length) (h1:m≤n) (h2:m≤cs.length) (h0:0<m) :
  bF P (.call ⟨.builtin .copy,#[x,y],#[t,te]⟩) σ g U fun v ax =>v=.int .i64 (m:Int)∧ax =obj b T (xs.map bK++cs.drop m)::ζ :=
 fun o ρ w ho hk hw=>by
  subst hm;have hw1:=hw.cB hs;obtain ⟨ak,ha,MI,CE,rfl,c1,c2,c3,gO⟩:=hu;have hfl:ak.flatten=xs.map bK:=by
   clear c3 gO hy h0 h1 h2 c1
   induction ak generalizing xs with
   |nil=>cases xs with|nil=>rfl|cons _ _=>exact ha.elim
   |cons c ak ih =>
    cases xs with
    |nil=>exact ha.elim
    |cons x xs =>
     obtain ⟨a1,a2⟩:=ha;have a1:c=[bK x]:=a1;rw [List.flatten_cons,ih a2,a1];rfl
  rw [hfl] at c3 gO;have hl:(xs.map bK).length=xs.length:=List.length_map ..;obtain ⟨ad,had,_⟩:=gO 0 (by omega);subst had;have hnews:∀ gA v,(xs.map bK)[gA]?=some v→w.cell? (ad.add gA)=some v:=fun gA v hv=>by
   obtain ⟨hjl,rfl⟩:=List.getElem?_eq_some_iff.1 hv;obtain ⟨p,hp,hc⟩:=gO gA hjl
   cases hp
   exact Fr.qA hw.ground hc
  have hf:=run_firstCells_some (P:=P) w 1 xs.length ad xs.length CE (xs.map bK) (by omega) hnews;have hst:=run_storeCells_at P b 0 T (xs.map bK) 0 cs.toArray w hw1.block (by simp;omega) (by
   intro v hv
   obtain ⟨_,_,rfl⟩:=List.mem_map.1 hv;rfl)
  simp only [Nat.add_zero,Nat.zero_add,List.take_zero,List.nil_append,hl] at hst;have hmin:Nat.min xs.length n=xs.length:=Nat.min_eq_left h1;refine ⟨_,w.setRow b (xs.map bK++cs.drop xs.length).toArray,_,⟨rfl,rfl⟩,?_,hw1.setRow⟩
  simp [execOp,ho,hk x _ hx,hk y _ hy,resolve,invoke,builtin,Builtin.copy_,run_underlying ht,Builtin.lenOf,run_sizeOf he,hmin,hf,hst,goInt]
end
theorem HJ {a b:List UInt8}:Lib.compareBytes a b<0↔a<b:=Cx
theorem Nz {a b:List UInt8}:Lib.compareBytes a b=0↔a=b:=HI
end Go.Sp
end
end
end
