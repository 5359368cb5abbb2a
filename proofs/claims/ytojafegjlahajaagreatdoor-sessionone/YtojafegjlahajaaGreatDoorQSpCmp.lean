/- Texts of this proof, one behind the other. -/
import Derived.Test.YtojafegjlahajaaGreatDoorQSpPut
import Derived.Lib.Overlaps
import Derived.Laws.Externs
set_option linter.unusedSectionVars false
section
/- Texts of this proof. -/
namespace Go.Sp
section
variable {ro:Option Nat} {P:Program} {fn:Func} {n:Nat} {R:Ending→World→Prop} {k:List Item} {σ:List (Nat × Value)} {D:List Deferred} {g:bh} {U ζ aN:List az} {ops:Array Oper} {i d:Nat} {ls:List Nat}
 {t te e:TypeId} {x y z u:Operand} {w:World} {a:Option Addr} {m c s:Nat} {kx ky DT:IntKind}
theorem bE.iQ {t e k ck:Nat} {z:List Value} {parts:Array (Nat × Operand)} {vs cs:List Value} {len:Nat} (ht:P.underlying t=some (.slice e)) (he:dy P e k ck z)
  (hp:partsOf σ parts.toList 0=some vs) (hlen:parts.toList.length=len) (hvs:vs.all (fun v=>Nat.beq v.cells.size k)=true) (jX:len*k≤16777216) (hcs:cs=(vs.map (·.cells.toList)).flatten) :
  bE P (.buildSlice t len parts) σ g U fun v ax =>∃ b,v=.slice (some ⟨b,0,none⟩) len len∧ax =obj b e cs::U :=
 fun o ρ w ho hkn hw=>by
  subst hcs;obtain ⟨i,cz,hi,hz,hs,hby,kv,hzl⟩:=he;subst hs kv;have hzs:cz.cells.size=i.size:=by simpa using hzl
  have ee :∀ v∈vs,v.cells.size=i.size:=fun v hv=>Nat.eq_of_beq_eq_true (List.all_eq_true.1 hvs v hv);have Ck :¬ (16777216<len*i.size):=by omega
  have hmap:(parts.map fun (p:Nat × Operand)=>(p.1,ρ p.2)).toList=parts.toList.map fun p=>(p.1,ρ p.2):=Array.toList_map;have hsz:(sizeOf e).run P w=.ok i.size w:=run_sizeOf (by simp [hi]) w;have hrun:(Instr.buildSlice t len (parts.map fun (p:Nat × Operand)=>(p.1,ρ p.2))).run P w =
    .ok (.slice (some ⟨w.heap.size,0,none⟩) len len) (w.alloc (.cells (vs.map (·.cells.toList)).flatten.toArray e)):=by
   have hf:∀ c:Array Value,c.size=len*i.size→Instr.fill (fun j=>some (j*i.size,i.size)) c (parts.map fun (p:Nat × Operand)=>(p.1,ρ p.2)).toList=some ((vs.map (·.cells.toList)).flatten).toArray:=fun c hc=>by
    rw [hmap];exact B8 hkn i.size parts.toList 0 vs [] c.toList c hp ee rfl (by simp) (by simp [hc,← hlen])
   by_cases h0:len*i.size=0
   ·simp only [Instr.buildSlice,Sem.run_bind,run_underlying ht,Result.andThen_ok,hsz,h0,if_true,Sem.run_pure,Sem.run_ite]
    rw [hf _ (by simp [h0])]
    simp [newRow]
   ·simp only [Instr.buildSlice,Sem.run_bind,run_underlying ht,Result.andThen_ok,hsz,Ck,if_false,h0,Sem.run_pure,Sem.run_ite,zeroValue,typeInfo,run_program,hi,hz]
    rw [hf _ (by simp)]
    simp [newRow]
  refine ⟨.slice (some ⟨w.heap.size,0,none⟩) len len,w.alloc (.cells (vs.map (·.cells.toList)).flatten.toArray e),_,⟨_,rfl,rfl⟩,?_,hw.alloc _⟩;simp only [execOp,ho,Sem.run_bind];have:(parts.map fun x=>match x with|(i,x)=>(i,ρ x))=parts.map fun (p:Nat × Operand)=>(p.1,ρ p.2):=rfl;rw [this,hrun];rfl
theorem av.toCells {α:Type} {T:ag α} {e:TypeId} {v:Value} {xs:List α} {m:Fr} {K:Nat} (hK:T.k=K) (x:av T e v xs m):∃ ak,bY (T.rel Fr.emp) ak xs∧av (ag.cells K) e v ak m:=by
 subst hK;obtain ⟨ak,h1,h2⟩:=x;have hl:=h1.length;refine ⟨ak,h1,ak,q8 (fun cs hc=>?_) (fun cs hc v hv=>bY.one h1 v (List.mem_flatten.2 ⟨cs,hc,hv⟩)),by rw [hl];exact h2⟩;obtain ⟨i,hi,rfl⟩:=List.getElem_of_mem hc;exact T.len (h1.get i hi (by omega))
theorem av.j4 {α:Type} {T:ag α} {e:TypeId} {v:Value} {xs:List α} {ak:List (List Value)} {m:Fr} {K:Nat} (hK:T.k=K) (h:bY (T.rel Fr.emp) ak xs) (x:av (ag.cells K) e v ak m):av T e v xs m:=by
 subst hK;obtain ⟨ds,h1,h2⟩:=x;obtain ⟨rfl,_,_⟩:=q7 h1;exact ⟨ds,h,by rw [← h.length];exact h2⟩
theorem S.toCells {todo:List Item} {α:Type} {T:ag α} {v:Value} {xs:List α} {K:Nat} (hK:T.k=K) (s:bf U (av T e v xs) ζ) (h:∀ ak,bY (T.rel Fr.emp) ak xs→S ro P fn n R todo σ D g (av (ag.cells K) e v ak::ζ)):S ro P fn n R todo σ D g U :=
 S.open (bs:=fun q:{ak:List (List Value) // bY (T.rel Fr.emp) ak xs}=>[av (ag.cells K) e v q.1]) s (fun m x=>let ⟨ak,a,b⟩:=x.toCells hK;⟨⟨ak,a⟩,m,Fr.emp,Fr.eX (Fr.dW _),Fr.bW _,Fr.c4 _,b,trivial⟩) fun q=>h q.1 q.2
theorem Addr.ur (b q j:Nat):(⟨b,q,none⟩:Addr).add j=⟨b,q+j,none⟩:=add_lit b q j
theorem bE.yB {K lo:Nat} {ak ds:List (List Value)} {q:Value} (ht:P.underlying t=some (.slice e)) (he:(P.info? e).map (·.size)=some K) (hK:0<K)
  (hx:aA σ x=some (.slice (if c=lo then a else a.map (·.add (lo*K))) (ak.length - lo) (c - lo))) (hy:aA σ y=some q) (hu:aj (ag.cells K) g.h q ds) (hs:bf U (av (ag.cells K) e (.slice a ak.length c) ak) ζ)
  (hl:lo+ds.length≤ak.length) (h0:0<ds.length) :
  bE P (.call ⟨.builtin .copy,#[x,y],#[t,te]⟩) σ g U fun v ax =>v=.int .i64 (ds.length:Int)∧ax =av (ag.cells K) e (.slice a ak.length c) (ak.take lo++ds++ak.drop (lo+ds.length))::ζ :=
 fun o ρ w ho hkn hw=>by
  have hw1:=hw.cu hs;obtain ⟨b,cap,cur,bF,hv,h1,h2,h3,h4,ha,fz,hfz,hb⟩:=hw1.oe (by omega);obtain ⟨rfl,hlen,hone⟩:=q7 ha
  injection hv with e1 _ b6
  subst e1 b6;have hkk:(ag.cells K).k=K:=rfl;rw [hkk] at h3 h4 hfz;obtain ⟨dP,hda,Lp,BV,rfl,c1,c2,c3,gL⟩:=hu;have hd2:dP=ds:=vQ hda;subst hd2;rw [hkk] at c3;have HE:∀ v∈dP.flatten,v.oneCell' =true:=bY.one hda;have hpos:0<dP.flatten.length:=by rw [c3];exact Nat.mul_pos h0 hK
  obtain ⟨ad,had,_⟩:=gL 0 hpos;subst had;have hnews:∀ iP v,dP.flatten[iP]?=some v→w.cell? (ad.add iP)=some v:=fun iP v hv=>by
   obtain ⟨hjl,rfl⟩:=List.getElem?_eq_some_iff.1 hv;obtain ⟨p,hp,hc⟩:=gL iP hjl
   cases hp
   exact Fr.qf hw.ground hc
  have hne:¬ c=lo:=by omega
  rw [if_neg hne] at hx;simp only [Option.map_some,Addr.ur,Nat.zero_add] at hx;have hmin:Nat.min dP.length (bF.length - lo)=dP.length:=Nat.min_eq_left (by omega);have hf:=run_firstCells_some (P:=P) w K dP.length ad dP.length BV dP.flatten c3 hnews;have hmul:lo*K+dP.length*K≤c*K:=by rw [← Nat.add_mul];exact Nat.mul_le_mul_right _ (by omega)
  have hst:=r7 P b (lo*K) e hfz dP.flatten 0 cur w hb.block (by omega) (by rw [c3];omega) HE;simp only [Nat.add_zero] at hst;refine ⟨_,w.setRow b (cur.toList.take (lo*K)++dP.flatten++cur.toList.drop (lo*K+dP.flatten.length)).toArray,_,⟨rfl,rfl⟩,?_,?_⟩
  ·simp [execOp,ho,hkn x _ hx,hkn y _ hy,resolve,invoke,builtin,Builtin.copy_,run_underlying ht,Builtin.lenOf,run_sizeOf he,hmin,hf,hst,goInt]
  ·refine (hb.setRow (cs:=(cur.toList.take (lo*K)++dP.flatten++cur.toList.drop (lo*K+dP.flatten.length)).toArray)).imp fun _ x=>Sat.fe (fun m' hm' =>?_) (fun _ z=>z) x
   have hdl:∀ cs∈dP,cs.length=K:=fun cs hc=>by
    obtain ⟨i,hi,rfl⟩:=List.getElem_of_mem hc;exact (ag.cells K).len (hda.get i hi hi)
   have hnl:(bF.take lo++dP++bF.drop (lo+dP.length)).length=bF.length:=by simp;omega
   have wT:∀ cs∈bF.take lo++dP++bF.drop (lo+dP.length),cs.length=K:=fun cs hc=>by
    rcases List.mem_append.1 hc with hc|hc
    ·rcases List.mem_append.1 hc with hc|hc
     ·exact hlen cs (List.mem_of_mem_take hc)
     ·exact hdl cs hc
    ·exact hlen cs (List.mem_of_mem_drop hc)
   have C':∀ cs∈bF.take lo++dP++bF.drop (lo+dP.length),∀ v∈cs,v.oneCell' =true:=fun cs hc=>by
    rcases List.mem_append.1 hc with hc|hc
    ·rcases List.mem_append.1 hc with hc|hc
     ·exact hone cs (List.mem_of_mem_take hc)
     ·exact fun v hv=>HE v (List.mem_flatten.2 ⟨cs,hc,hv⟩)
    ·exact hone cs (List.mem_of_mem_drop hc)
   refine ⟨_,q8 wT C',?_,.inr ⟨b,c,_,by rw [hnl],⟨fz,hm',hfz⟩,by omega,h2,?_,?_⟩⟩
   ·rw [qg wT,hkk]
   ·have dY:cur.toList.length=c*K:=by simpa using h3
    simp only [List.size_toArray,List.length_append,List.length_take,List.length_drop,hkk];rw [c3,dY]
    omega
   ·rw [hnl,hkk,List.toList_toArray,List.flatten_append,List.flatten_append]
    have W8:bF.length*K≤c*K:=Nat.mul_le_mul_right _ h1;have hlo:lo*K≤bF.length*K:=Nat.mul_le_mul_right _ (by omega);have hhi:lo*K+dP.length*K≤bF.length*K:=by rw [← Nat.add_mul];exact Nat.mul_le_mul_right _ hl
    have e1:cur.toList.take (lo*K)=(bF.take lo).flatten:=by
     rw [← yA hlen,← h4,List.take_take,Nat.min_eq_left hlo]
    have e2:(cur.toList.drop (lo*K+dP.flatten.length)).take (bF.length*K - (lo*K+dP.flatten.length))=(bF.drop (lo+dP.length)).flatten:=by
     rw [← BG hlen,← h4,List.drop_take,c3,Nat.add_mul]
    rw [e1];have l1:((bF.take lo).flatten++dP.flatten).length=lo*K+dP.flatten.length:=by
     rw [List.length_append,qg (fun cs hc=>hlen cs (List.mem_of_mem_take hc)),List.length_take,Nat.min_eq_left (by omega)]
    rw [List.take_append,l1,List.take_of_length_le (by rw [l1,c3];exact hhi),e2]
theorem bE.Ay {K lo:Nat} {ak:List (List Value)} (ht:P.underlying t=some (.slice e)) (he:(P.info? e).map (·.size)=some K) (hlo:lo<ak.length) (hroom:ak.length+1≤c)
  (hx:aA σ x=some (.slice (if c=lo+1 then a else a.map (·.add ((lo+1)*K))) (ak.length+1 - (lo+1)) (c - (lo+1)))) (hy:aA σ y=some (.slice (if c=lo then a else a.map (·.add (lo*K))) (ak.length+1 - lo) (c - lo)))
  (hs:bf U (av (ag.cells K) e (.slice a ak.length c) ak) ζ) :
  bE P (.call ⟨.builtin .copy,#[x,y],#[t,te]⟩) σ g U fun v ax =>v=.int .i64 ((ak.length - lo:Nat):Int)∧ax =av (ag.cells K) e (.slice a (ak.length+1) c) (ak.take (lo+1)++ak.drop lo)::ζ :=
 fun o ρ w ho hkn hw=>by
  have hw1:=hw.cu hs;obtain ⟨b,cap,cur,bF,hv,h1,h2,h3,h4,ha,fz,hfz,hb⟩:=hw1.oe (by omega);obtain ⟨rfl,hlen,hone⟩:=q7 ha
  injection hv with e1 _ b6
  subst e1 b6;have hkk:(ag.cells K).k=K:=rfl;rw [hkk] at h3 h4 hfz;rw [if_neg (by omega:¬ c=lo+1)] at hx;rw [if_neg (by omega:¬ c=lo)] at hy;simp only [Option.map_some,Addr.ur,Nat.zero_add] at hx hy;have dY:cur.toList.length=c*K:=by simpa using h3
  let news:=(bF.drop lo).flatten
  have hnl:news.length=(bF.length - lo)*K:=by
   have:=qg (k:=K) (ak:=bF.drop lo) (fun cs hc=>hlen cs (List.mem_of_mem_drop hc));rw [List.length_drop] at this;exact this
  have C9:news=(cur.toList.take (bF.length*K)).drop (lo*K):=by rw [h4,BG hlen]
  have kY:=hb.block;have hcell:∀ iP v,news[iP]?=some v→w.cell? ((⟨b,lo*K,none⟩:Addr).add iP)=some v:=fun iP v hv=>by
   rw [Addr.ur];rw [C9,List.getElem?_drop,List.getElem?_take] at hv
   split at hv
   ·simp only [World.cell?,kY]
    simpa using hv
   ·cases hv
  have hmin:Nat.min (bF.length+1 - lo) (bF.length - lo)=bF.length - lo:=Nat.min_eq_right (by omega);have hf:=run_firstCells_some (P:=P) w K (bF.length - lo) ⟨b,lo*K,none⟩ (bF.length+1 - lo) (c - lo) news hnl hcell;have hnone:∀ v∈news,v.oneCell' =true:=fun v hv=>G0 (fun cs hc=>hone cs (List.mem_of_mem_drop hc)) v hv;have bl:(lo+1)*K+(bF.length - lo)*K=(bF.length+1)*K:=by rw [← Nat.add_mul];congr 1;omega
  have hm2:(bF.length+1)*K≤c*K:=Nat.mul_le_mul_right K hroom;have hst:=r7 P b ((lo+1)*K) e hfz news 0 cur w kY (by omega) (by rw [hnl];omega) hnone;simp only [Nat.add_zero] at hst;refine ⟨_,w.setRow b (cur.toList.take ((lo+1)*K)++news++cur.toList.drop ((lo+1)*K+news.length)).toArray,_,⟨rfl,rfl⟩,?_,?_⟩
  ·simp [execOp,ho,hkn x _ hx,hkn y _ hy,resolve,invoke,builtin,Builtin.copy_,run_underlying ht,Builtin.lenOf,run_sizeOf he,hmin,hf,hst,goInt]
  ·refine (hb.setRow (cs:=(cur.toList.take ((lo+1)*K)++news++cur.toList.drop ((lo+1)*K+news.length)).toArray)).imp fun _ x=>Sat.fe (fun m' hm' =>?_) (fun _ z=>z) x
   have hel:(bF.take (lo+1)++bF.drop lo).length=bF.length+1:=by simp;omega
   have hsub:∀ cs∈bF.take (lo+1)++bF.drop lo,cs∈bF :=fun cs hc=>(List.mem_append.1 hc).elim List.mem_of_mem_take List.mem_of_mem_drop;refine ⟨_,q8 (fun cs hc=>hlen cs (hsub cs hc)) (fun cs hc=>hone cs (hsub cs hc)),?_,.inr ⟨b,c,_,by rw [hel],⟨fz,hm',hfz⟩,by omega,h2,?_,?_⟩⟩
   ·rw [qg (fun cs hc=>hlen cs (hsub cs hc)),hkk]
   ·simp only [List.size_toArray,List.length_append,List.length_take,List.length_drop,hkk]
    rw [hnl,dY]
    omega
   ·rw [hel,hkk,List.toList_toArray,List.flatten_append]
    have e1:cur.toList.take ((lo+1)*K)=(bF.take (lo+1)).flatten:=by
     rw [← yA hlen,← h4,List.take_take,Nat.min_eq_left (Nat.mul_le_mul_right K (by omega))]
    have e2:(bF.length+1)*K=((bF.take (lo+1)).flatten++news).length:=by
     rw [List.length_append,hnl,qg (fun cs hc=>hlen cs (List.mem_of_mem_take hc)),List.length_take,Nat.min_eq_left (by omega)]
     omega
    rw [e1,e2,List.take_left']
    rfl
theorem bE.FQ {K ck lo q:Nat} {jN:List Value} {ak:List (List Value)} {t2:TypeId} {xq pQ:IntKind} {cA:Int} (ht:P.underlying t=some (.slice e)) (ht2:P.underlying t2=some (.int xq)) (he:dy P e K ck jN) (u0:∀ v∈jN,v.oneCell' =true) (hK:0<K)
  (hx:aA σ x=some (.slice a lo c)) (hy:aA σ y=some (.int pQ cA)) (ev:cA=(q:Int)) (hs:bf U (av (ag.cells K) e (.slice a ak.length c) ak) ζ) (hlo:lo≤ak.length) (h0:0<ak.length) (hc:ak.length≤c) (hgrow:c<lo+q) (hb:(lo+q)*ck≤140737488355328) (h63:lo+q≤9223372036854775807) :
  bE P (.call ⟨.builtin .append,#[x,y],#[t,t2]⟩) σ g U fun v' ax =>∃ b' c',v' =.slice (some ⟨b',0,none⟩) (lo+q) c' ∧lo+q≤c' ∧ax =av (ag.cells K) e v' (ak.take lo++List.replicate q jN)::av (ag.cells K) e (.slice a ak.length c) ak::ζ:=by
 subst ev
 intro o ρ w ho hkn hw
 have hw1:=hw.cu hs;obtain ⟨b,cap,cur,bF,hv,h1,h2,h3,h4,ha,fz,hfz,hb0⟩:=hw1.oe (by omega);obtain ⟨rfl,hlen,hone⟩:=q7 ha
 injection hv with e1 _ b6
 subst e1 b6;have hkk:(ag.cells K).k=K:=rfl;rw [hkk] at h3 h4 hfz;obtain ⟨i,cz,hi,rO,hsz,hby,kv,hzl⟩:=he;subst hby kv;have hzs:cz.cells.size=K:=by simpa using hzl
 have hq:q*i.bytes≤140737488355328:=Nat.le_trans (Nat.mul_le_mul_right _ (by omega)) hb;have wl:IntKind.i64.wrap (q:Int)=q:=by rw [IntKind.wrap_i64];omega
 have n1:¬ ((q:Int)<0):=by omega
 have n2:¬ (281474976710656<(q:Int)*(i.bytes:Int)):=by
  have:((q*i.bytes:Nat):Int)≤140737488355328:=by omega
  rw [Int.natCast_mul] at this;omega
 have n3:¬ (lo+q≤c):=by omega
 have o6:¬ (9223372036854775807<(lo:Int)+(q:Int)):=by omega
 have n5:¬ (281474976710656<Builtin.nextslicecap (lo+q) c*i.bytes):=by
  have:=growslice_fits (need:=lo+q) (old:=c) (bytes:=i.bytes) hgrow hb
  omega
 have n6:q*i.size≠0:=Nat.ne_of_gt (Nat.mul_pos (by omega) (by omega));have hge:=grownCap_ge w (lo+q) c e;have hcm:=grownCap_le_maxLen w (lo+q) c e (by simpa [maxLen] using h63);have dY:cur.toList.length=c*K:=by simpa using h3
 have hlk:lo*K≤bF.length*K:=Nat.mul_le_mul_right _ hlo;have htk:(bF.take lo).flatten=cur.toList.take (lo*K):=by rw [← yA hlen,← h4,List.take_take,Nat.min_eq_left hlk]
 have s9:((bF.take lo).flatten).length=lo*i.size:=by
  rw [qg (fun cs hc=>hlen cs (List.mem_of_mem_take hc)),List.length_take,Nat.min_eq_left hlo,hsz]
 have holds:∀ j v,((bF.take lo).flatten)[j]?=some v→w.cell? ((⟨b,0,none⟩:Addr).add j)=some v:=fun j v hv=>by
  rw [Addr.ur,Nat.zero_add];rw [htk,List.getElem?_take] at hv
  split at hv
  ·simp only [World.cell?,hb0.block]
   simpa using hv
  ·cases hv
 have hfo:=run_firstCells_some (P:=P) w.drew i.size lo ⟨b,0,none⟩ lo c ((bF.take lo).flatten) s9 (by simpa using holds);have hrun:(Builtin.append_ #[t,t2] o.type #[.slice (some ⟨b,0,none⟩) lo c,.int pQ (q:Int)]).run P w=.ok (.slice (some ⟨w.heap.size,0,none⟩) (lo+q) (grownCap w (lo+q) c e)) (w.drew.alloc (.cells (((bF.take lo).flatten).toArray++Builtin.zeroCells cz.cells q++Builtin.zeroCells cz.cells (grownCap w (lo+q) c e - (lo+q))) e)):=by
  simp [Builtin.append_,run_underlying ht,run_underlying ht2,sizeOf,typeInfo,zeroValue,hi,rO,asInt,asIntOf,wl,n1,n2,n3,o6,n5,n6,hfo,Question.forced,newRow,grownCap]
 have pN:∀ q,(Builtin.zeroCells cz.cells q).toList=e9 cz.cells.toList q:=fun q=>by
  have:=xC cz.cells q (by omega);rw [← this];rfl
 refine ⟨_,_,_,⟨_,_,rfl,hge,rfl⟩,pU ho (by rw [hkn x _ hx,hkn y _ hy];exact hrun),?_⟩;have hrf:∀ q,(List.replicate q cz.cells.toList).flatten=e9 cz.cells.toList q:=fun q=>by
  induction q with
  |zero=>rfl
  |succ q ih=>rw [List.replicate_succ,List.flatten_cons,ih];rfl
 have hnl:(bF.take lo++List.replicate q cz.cells.toList).length=lo+q:=by simp;omega
 have wT:∀ cs∈bF.take lo++List.replicate q cz.cells.toList,cs.length=K:=fun cs hc=>by
  rcases List.mem_append.1 hc with hc|hc
  ·exact hlen cs (List.mem_of_mem_take hc)
  ·rw [List.eq_of_mem_replicate hc];exact hzl
 have C':∀ cs∈bF.take lo++List.replicate q cz.cells.toList,∀ v∈cs,v.oneCell' =true:=fun cs hc=>by
  rcases List.mem_append.1 hc with hc|hc
  ·exact hone cs (List.mem_of_mem_take hc)
  ·rw [List.eq_of_mem_replicate hc];exact u0
 refine (((hw1.drewN _ (Nat.le_add_right _ _)).alloc _).own (k:=K) (m:=lo+q) (cap:=grownCap w (lo+q) c e) (cs:=(bF.take lo++List.replicate q cz.cells.toList).flatten) hge (by simpa [maxLen] using hcm) ?_ ?_).imp fun _=>Sat.fe (av.of (T:=ag.cells K) (q8 wT C') hnl.symm rfl rfl) fun _ q=>q
 ·simp only [Array.size_append,size_zeroCells,hzs,List.size_toArray,s9,hsz,← Nat.add_mul]
  congr 1;omega
 ·rw [Array.toList_append,Array.toList_append,pN,pN,List.toList_toArray,List.flatten_append,hrf]
  have:((bF.take lo).flatten++e9 cz.cells.toList q).length=(lo+q)*K:=by rw [List.length_append,s9,rT,hzl,hsz,Nat.add_mul]
  rw [← this];exact List.take_left
theorem aD.Jq {f : FuncId} {fn' : Func} {tS tR K : TypeId} {ts : Array TypeId} {b1 b2 q la ca lb cb n2 c2 : Nat} {cs : List Value} {ak : List (List Value)} {f0 : Operand} (hf : P.funcs[f]? = some fn') (h1 : (fn'.name == "runtime.NumGoroutine") = false) (h2 : fn'.body.isNone = true) (h3 : Extern.findNext fn' = none)
  (h4:Extern.find fn' =some (Extern.SlicesOverlaps.overlaps #[tS,tS] #[tR])) (ht:P.underlying tS=some (.slice e)) (he:(P.info? e).map (·.size)=some s) (hK:0<K)
  (h0:aA σ f0=some (.func (.func f) #[] #[])) (hx:aA σ x=some (.slice (some ⟨b1,0,none⟩) la ca)) (hy:aA σ y=some (.slice (some ⟨b2,q,none⟩) lb cb))
  (s1:bf U (obj b1 e cs) ζ) (s2:bf ζ (av (ag.cells K) e (.slice (some ⟨b2,0,none⟩) n2 c2) ak) aN) (hn:0<ak.length) :
  aD P (.call ⟨.value f0,#[x,y],ts⟩) σ g U (.bool false) U:=by
 intro o ρ w ho hk hw
 refine ⟨w,?_,hw⟩;have hw1:=hw.cu s1;have kL:w.heap[b1]?=some (.cells cs.toArray e (0,0)):=hw1.block;have qB:Holds w g (av (ag.cells K) e (.slice (some ⟨b2,0,none⟩) n2 c2) ak::obj b1 e cs::aN):=hw1.perm ((List.Perm.cons _ s2.perm).trans (List.Perm.swap _ _ _));obtain ⟨b,cap,cur,bF,hv,g1,g2,g3,g4,ha,fz,hfz,hb⟩:=qB.oe hn;have kY:=hb.block
 injection hv with e1 _ b6
 injection e1 with e1
 injection e1 with e1
 subst e1;have hne:b1≠b2:=by
  rintro rfl;obtain ⟨_,_,_,kk,_,_,_,m1,m2,dj,_,_,o1,m3,_,_,t1,_,o2,_⟩:=hb;have a1:m1 b1=some _:=o1;have a2:m2 b1=some _:=t1 _ _ o2
  rcases dj b1 with z|z
  ·rw [z] at a1;cases a1
  ·rw [z] at a2;cases a2
 have N8:cur.size≠0:=by
  have hkk:(ag.cells K).k=K:=rfl;rw [g3,hkk];exact Nat.ne_of_gt (Nat.mul_pos (by omega) hK)
 have OH:=Lib.run_overlaps_apart (P:=P) w tS tR e ht s (fun w=>run_sizeOf he w) ⟨b1,0,none⟩ ⟨b2,q,none⟩ la ca lb cb hne e e cs.toArray.size cur.size (by simp [World.shape?,kL]) (by simp [World.shape?,kY]) N8
  (by simp [World.frozen?,kL]) (by simp [World.frozen?,kL])
 have e1:=run_callFunc_extern (P:=P) hf h1 h2 h3 h4 #[.slice (some ⟨b1,0,none⟩) la ca,.slice (some ⟨b2,q,none⟩) lb cb] w;rw [OH] at e1;simp only [Result.andThen] at e1
 simp [execOp,ho,resolve,hk f0 _ h0,hk x _ hx,hk y _ hy,Deferred.ofValue,invoke,e1]
theorem vf {b K:Nat} {e:TypeId} {cs:List Value} {m:Fr} (hl:cs.length=K) (h1:∀ v∈cs,v.oneCell' =true) (h:Sat [obj b e cs] m):av (ag.cells K) e (.slice (some ⟨b,0,none⟩) 1 1) [cs] m:=by
 obtain ⟨m1,_,_,s1,_,o,_⟩:=h;have o1:m1 b=some (.cells cs.toArray e (0,0)):=o;have hf:[cs].flatten=cs:=by simp
 have hkk:(ag.cells K).k=K:=rfl;refine ⟨[cs],q8 (fun x hx=>by rw [List.mem_singleton.1 hx];exact hl) (fun x hx=>by rw [List.mem_singleton.1 hx];exact h1),by rw [hf,hl,hkk];exact (Nat.one_mul _).symm,.inr ⟨b,1,cs.toArray,rfl,⟨(0,0),s1 _ _ o1,Kz _⟩,Nat.le_refl _,by omega,by simp [hl,hkk],?_⟩⟩;rw [hf];exact List.take_of_length_le (by simp [hl,hkk])
theorem aj.piece {α:Type} {T:ag α} {h:Fr} {n p:Nat} {xs:List α} (z:aj T h (.slice a n c) xs) (hp:p<n):aj T h (.slice (if c=p then a else a.map (·.add (p*T.k))) (n - p) (c - p)) (xs.drop p):=by
 obtain ⟨ak,ha,ad,cap,hv,h1,h2,h3,h4⟩:=z
 injection hv with e1 e2 b6
 subst e1 e2 b6;rw [if_neg (by omega:¬ c=p)];have hcs:(ak.drop p).flatten=ak.flatten.drop (p*T.k):=(ha.yS p).symm;refine ⟨ak.drop p,ha.drop p,a.map (·.add (p*T.k)),c - p,by rw [List.length_drop],by rw [List.length_drop];omega,⟨by omega,fun h=>?_⟩,?_,?_⟩
 ·cases a with
  |none=>have:=h2.2 rfl;omega
  |some _=>cases h
 ·rw [hcs,List.length_drop,h3,List.length_drop,Nat.sub_mul]
 ·intro q hq
  rw [hcs] at hq;have tf:p*T.k+q<ak.flatten.length:=by simp only [List.length_drop] at hq;omega
  obtain ⟨p',hp',hc⟩:=h4 _ tf
  cases hp'
  refine ⟨_,rfl,?_⟩;rw [Addr.add_add];simp only [hcs,List.getElem_drop];exact hc
theorem bE.v7 {K lo n:Nat} {ak ds:List (List Value)} {q:Value} (ht:P.underlying t=some (.slice e)) (he:(P.info? e).map (·.size)=some K) (hK:0<K)
  (hx:aA σ x=some (.slice (if c=lo then a else a.map (·.add (lo*K))) (n - lo) (c - lo))) (hy:aA σ y=some q) (hu:aj (ag.cells K) g.h q ds) (hs:bf U (av (ag.cells K) e (.slice a n c) ak) ζ)
  (hn:ak.length=n) (hl:lo+ds.length≤n) (h0:0<ds.length) :
  bE P (.call ⟨.builtin .copy,#[x,y],#[t,te]⟩) σ g U fun v ax =>v=.int .i64 (ds.length:Int)∧ax =av (ag.cells K) e (.slice a n c) (ak.take lo++ds++ak.drop (lo+ds.length))::ζ:=by
 subst hn;exact bE.yB ht he hK hx hy hu hs hl h0
theorem af.yB {K lo m:Nat} {ak ds:List (List Value)} {q:Value} (ho:bJ ops i n σ d (.call ⟨.builtin .copy,#[x,y],#[t,te]⟩)) (hd:eu ops [i] ls=true) (ht:P.underlying t=some (.slice e)) (he:(P.info? e).map (·.size)=some K) (hK:0<K)
  (hx:aA σ x=some (.slice (if c=lo then a else a.map (·.add (lo*K))) (m - lo) (c - lo))) (hy:aA σ y=some q) (hu:aj (ag.cells K) g.h q ds) (hs:bf U (av (ag.cells K) e (.slice a m c) ak) ζ) (hn:ak.length=m) (hl:lo+ds.length≤m) (h0:0<ds.length)
  (h:af P fn n R ops k D g ls ((d,.int .i64 (ds.length:Int))::σ) (av (ag.cells K) e (.slice a m c) (ak.take lo++ds++ak.drop (lo+ds.length))::ζ)):af P fn n R ops k D g (i::ls) σ U :=
 aK.perm hs.perm (af.fU (U:=av (ag.cells K) e (.slice a m c) ak::ζ) (K:=fun v ax =>v=.int .i64 (ds.length:Int)∧ax =av (ag.cells K) e (.slice a m c) (ak.take lo++ds++ak.drop (lo+ds.length))::ζ) ho rfl hd
  (fun ua =>(bE.v7 ht he hK hx hy hu bf.here hn hl h0).imp fun _ _ ⟨h1,h2⟩=>⟨_,⟨h1,rfl⟩,h2⟩) (by rintro _ _ ⟨rfl,rfl⟩;exact h))
theorem af.Ay {K lo:Nat} {ak:List (List Value)} (ho:bJ ops i n σ d (.call ⟨.builtin .copy,#[x,y],#[t,te]⟩)) (hd:eu ops [i] ls=true) (ht:P.underlying t=some (.slice e)) (he:(P.info? e).map (·.size)=some K) (hlo:lo<ak.length) (hroom:ak.length+1≤c)
  (hx:aA σ x=some (.slice (if c=lo+1 then a else a.map (·.add ((lo+1)*K))) (ak.length+1 - (lo+1)) (c - (lo+1)))) (hy:aA σ y=some (.slice (if c=lo then a else a.map (·.add (lo*K))) (ak.length+1 - lo) (c - lo)))
  (hs:bf U (av (ag.cells K) e (.slice a ak.length c) ak) ζ)
  (h:af P fn n R ops k D g ls ((d,.int .i64 ((ak.length - lo:Nat):Int))::σ) (av (ag.cells K) e (.slice a (ak.length+1) c) (ak.take (lo+1)++ak.drop lo)::ζ)):af P fn n R ops k D g (i::ls) σ U :=
 aK.perm hs.perm (af.fU (U:=av (ag.cells K) e (.slice a ak.length c) ak::ζ) (K:=fun v ax =>v=.int .i64 ((ak.length - lo:Nat):Int)∧ax =av (ag.cells K) e (.slice a (ak.length+1) c) (ak.take (lo+1)++ak.drop lo)::ζ) ho rfl hd
  (fun ua =>(bE.Ay ht he hlo hroom hx hy bf.here).imp fun _ _ ⟨h1,h2⟩=>⟨_,⟨h1,rfl⟩,h2⟩) (by rintro _ _ ⟨rfl,rfl⟩;exact h))
theorem cL.iQ {fl:Bool} {ck K len:Nat} {z:List Value} {parts:Array (Nat × Operand)} {vs cs:List Value} (ho:bJ ops i n σ d (.buildSlice t len parts)) (hd:d_ fl ops i ls=true) (ht:P.underlying t=some (.slice e)) (he:dy P e K ck z)
  (hp:partsOf σ parts.toList 0=some vs) (hlen:parts.toList.length=len) (hvs:vs.all (fun v=>Nat.beq v.cells.size K)=true) (jX:len*K≤16777216) (hcs:cs=(vs.map (·.cells.toList)).flatten)
  (h:∀ b,af P fn n R ops k D g ls ((d,.slice (some ⟨b,0,none⟩) len len)::σ) (obj b e cs::U)):aK P fn n R ops k D g fl (i::ls) σ U :=
 cL.fU (K:=fun v ax =>∃ b,v=.slice (some ⟨b,0,none⟩) len len∧ax =obj b e cs::U) ho rfl hd (fun _=>(bE.iQ ht he hp hlen hvs jX hcs).imp fun _ _ ⟨b,h1,h2⟩=>⟨_,⟨b,h1,rfl⟩,h2⟩)
  fun _ _ ⟨b,h1,h2⟩=>by subst h1;subst h2;exact h b
theorem af.iQ {ck K len:Nat} {z:List Value} {parts:Array (Nat × Operand)} {vs cs:List Value} (ho:bJ ops i n σ d (.buildSlice t len parts)) (hd:eu ops [i] ls=true) (ht:P.underlying t=some (.slice e)) (he:dy P e K ck z)
  (hp:partsOf σ parts.toList 0=some vs) (hlen:parts.toList.length=len) (hvs:vs.all (fun v=>Nat.beq v.cells.size K)=true) (jX:len*K≤16777216) (hcs:cs=(vs.map (·.cells.toList)).flatten)
  (h:∀ b,af P fn n R ops k D g ls ((d,.slice (some ⟨b,0,none⟩) len len)::σ) (obj b e cs::U)):af P fn n R ops k D g (i::ls) σ U:=cL.iQ (fl:=false) ho (by simpa [d_] using hd) ht he hp hlen hvs jX hcs h
theorem bO.iQ {ck K len:Nat} {z:List Value} {parts:Array (Nat × Operand)} {vs cs:List Value} (ho:bJ ops i n σ d (.buildSlice t len parts)) (_:true=true) (ht:P.underlying t=some (.slice e)) (he:dy P e K ck z)
  (hp:partsOf σ parts.toList 0=some vs) (hlen:parts.toList.length=len) (hvs:vs.all (fun v=>Nat.beq v.cells.size K)=true) (jX:len*K≤16777216) (hcs:cs=(vs.map (·.cells.toList)).flatten)
  (h:∀ b,af P fn n R ops k D g ls ((d,.slice (some ⟨b,0,none⟩) len len)::σ) (obj b e cs::U)):aK P fn n R ops k D g true (i::ls) σ U:=cL.iQ (fl:=true) ho rfl ht he hp hlen hvs jX hcs h
end
end Go.Sp
end
section
/- Texts of this proof, one behind the other. -/
section
/- Texts of this proof. -/
namespace Go.Sp
variable {K:Type} [DecidableEq K] {enc:K→Value}
section
variable {ro:Option Nat} {P:Program} {fn:Func} {n:Nat} {R:Ending→World→Prop} {k:List Item} {σ:List (Nat × Value)} {D:List Deferred} {g:bh} {U ζ aN:List az} {ops:Array Oper} {i d:Nat} {ls:List Nat}
 {t tk te:TypeId} {x y z:Operand} {b c:Nat} {l:List (b8 K)} {key:K} {w:World}
omit [DecidableEq K] in
theorem O.RX {M done todo:List (b8 K)} {it:Nat} (ho:bJ ops i n σ d (.next x false)) (hx:aA σ x=some (.pointer (some ⟨it,0,none⟩))) (Pu:gB M c) (hp:M.Perm (done++todo)) (hwf:gB l c) (Oq:∀ x∈l,x∈M) (jl:∀ x∈todo,x∈l) (s1:bf U (jd it b c done) ζ) (s2:bf ζ (cc enc b l c) aN)
  (h0:todo=[]→O ro P fn n R ops ls k ((d,.tuple #[.bool false])::σ) D g (jd it b c done::cc enc b l c::aN))
  (h1:∀ x t1 t2,todo=t1++x::t2→O ro P fn n R ops ls k ((d,.tuple #[.bool true,enc (x.1),x.2.1])::σ) D g (jd it b c (done++[x])::cc enc b l c::aN)):O ro P fn n R ops (i::ls) k σ D g U:=by
 intro a w hf hd hw
 obtain ⟨o,hi,ek,hop,hg,hb⟩:=ho.spec;have hw1:Holds w g (jd it b c done::cc enc b l c::aN):=(hw.cu s1).imp fun _ h=>Sat.fe (fun _ y=>y) (fun _ y=>Sat.perm s2.perm y) h;have hr:=Holds.block hw1;have hm:=cc.block (hw1.cu (.there .here));have di:((done++todo).map (·.2.2)).Nodup:=(hp.map _).nodup_iff.1 Pu.1;rw [List.map_append,List.nodup_append] at di;have hold:∀ x∈(e8 enc l).toList,x.born<c:=fun e he=>by
  simp only [e8,List.mem_map] at he;obtain ⟨y,hy,rfl⟩:=he;exact hwf.2.1 y hy
 rcases run_next_at (P:=P) (ty:=o.type) hr hm hold (Nat.le_refl _) with ⟨hz,hrun⟩|⟨e,he,m,hmn,hrun⟩
 ·have DH:todo=[]:=by
   cases todo with
   |nil=>rfl
   |cons y ys =>
    have qD:y∈l:=jl y (by simp);have:gT enc y∈(leftOf (e8 enc l) (done.map (·.2.2)).toArray).toList:=zN.2 ⟨y,qD,rfl,fun h=>di.2.2 _ h _ (by simp) rfl⟩;rw [Array.eq_empty_of_size_eq_zero hz] at this
    cases this
  have oW :(execOp a.eval o).run P w=.ok (.value (.tuple #[.bool false])) w:=by simp [execOp,hop,hf.j3 x _ hx,hrun]
  refine O.mi hi (hg a hf) (vc oW) oW ?_;rw [Oper.uponIn_value,ek];exact h0 DH _ _ (hf.put hb) hd hw1
 ·obtain ⟨y,hy,rfl,qv⟩:=zN.1 he
  have DN:y∈todo:=by
   rcases List.mem_append.1 (hp.mem_iff.1 (Oq y hy)) with h|h
   ·exact absurd (List.mem_map.2 ⟨y,h,rfl⟩) qv
   ·exact h
  obtain ⟨t1,t2,DI⟩:=List.append_of_mem DN;have oW :(execOp a.eval o).run P w=.ok (.value (.tuple #[.bool true,enc (y.1),y.2.1])) (({ w with drawn:=m }:World).putObj it (.mapIter (some b) c ((done.map (·.2.2)).toArray.push y.2.2) c)):=by
   simp [execOp,hop,hf.j3 x _ hx,hrun,gT]
  refine O.mi hi (hg a hf) (vc oW) oW ?_;rw [Oper.uponIn_value,ek];have qB:=(hw1.drewN m hmn).putObj (.mapIter (some b) c ((done.map (·.2.2)).toArray.push y.2.2) c);have C0:jd it b c (done++[y])=blk it (.mapIter (some b) c ((done.map (·.2.2)).toArray.push y.2.2) c):=by simp [jd]
  rw [← C0] at qB;exact h1 y t1 t2 DI _ _ (hf.put hb) hd qB
theorem aD.IP (ht:P.underlying t=some (.map tk te)) (hx:aA σ x=some (.map (some b))) (hs:bf U (cc enc b l c) ζ):aD P (.call ⟨.builtin .len,#[x],#[t]⟩) σ g U (.int .i64 (l.length:Int)) U:=fun o ρ w ho hk hw=>⟨w,by
 have hb:=cc.block (hw.cu hs)
 simp [execOp,ho,hk x _ hx,resolve,invoke,builtin,Builtin.len_,run_underlying ht,MapKept.run_getObj_map hb,e8,goInt],hw⟩
end
theorem R6 {l:List (b8 K)} (h:(l.map (·.1)).Nodup) {x y:b8 K} (hx:x∈l) (hy:y∈l) (e:x.1=y.1):x=y:=by
 obtain ⟨i,hi,rfl⟩:=List.getElem_of_mem hx;obtain ⟨j,hj,rfl⟩:=List.getElem_of_mem hy;have:=(List.getElem_inj (i:=i) (j:=j) (h₀:=by simpa using hi) (h₁:=by simpa using hj) h).1 (by simpa using e);subst this;rfl
structure mS {K:Type} [DecidableEq K] (M:List (b8 K)) (q:K→Bool) (c:Nat) (done todo l:List (b8 K)):Prop where
 tZ:gB M c
 hp:M.Perm (done++todo)
 wf:gB l c
 sub:∀ x∈l,x∈M
 left:∀ x∈todo,x∈l
 out:∀ x∈l,x∈done→q x.1=false
theorem mS.start {M:List (b8 K)} {q:K→Bool} {c:Nat} (h:gB M c):mS M q c [] M M:=⟨h,List.Perm.refl _,h,fun _ h=>h,fun _ h=>h,fun _ _ h=>by cases h⟩
theorem mS.keep {M:List (b8 K)} {q:K→Bool} {c:Nat} {done t1 t2 l:List (b8 K)} {x:b8 K} (h:mS M q c done (t1++x::t2) l) (hq:q x.1=false):mS M q c (done++[x]) (t1++t2) l where
 tZ:=h.tZ
 hp:=h.hp.trans (by rw [List.append_assoc];exact List.Perm.append_left _ List.perm_middle)
 wf:=h.wf
 sub:=h.sub
 left:=fun y hy=>h.left y (by rcases List.mem_append.1 hy with e|e<;>simp [e])
 out:=fun y hy hd=>by
  rcases List.mem_append.1 hd with e|e
  ·exact h.out y hy e
  ·rw [List.mem_singleton.1 e];exact hq
theorem mS.drop {M:List (b8 K)} {q:K→Bool} {c:Nat} {done t1 t2 l:List (b8 K)} {x:b8 K} (h:mS M q c done (t1++x::t2) l):mS M q c (done++[x]) (t1++t2) (gM l x.1) where
 tZ:=h.tZ
 hp:=h.hp.trans (by rw [List.append_assoc];exact List.Perm.append_left _ List.perm_middle)
 wf:=BW h.wf x.1
 sub:=fun y hy=>h.sub y ((sG x.1 l).subset hy)
 left:=fun y hy=>by
  have qD:y∈l:=h.left y (by rcases List.mem_append.1 hy with e|e<;>simp [e]);have XF:x∈M:=h.hp.mem_iff.2 (by simp);have hne:y.1≠x.1:=fun e=>by
   have di:((done++(t1++x::t2)).map (·.1)).Nodup:=(h.hp.map _).nodup_iff.1 h.tZ.2.2;have:(x::(done++(t1++t2))).map (·.1) |>.Nodup:=by
    refine (List.Perm.map _ ?_).nodup_iff.1 di;rw [← List.append_assoc,← List.append_assoc];exact List.perm_middle
   rw [List.map_cons,List.nodup_cons] at this;exact this.1 (List.mem_map.2 ⟨y,by rcases List.mem_append.1 hy with q|q<;>simp [q],e⟩)
  have h1:=uJ h.wf.2.2 qD;have h2:cG (gM l x.1) y.1=some y.2.1:=by rw [Cg h.wf.2.2,if_neg hne,h1]
  obtain ⟨n,hn⟩:=Ch h2;have e:=R6 h.wf.2.2 qD ((sG x.1 l).subset hn) rfl;rw [e];exact hn
 out:=fun y hy hd=>by
  rcases List.mem_append.1 hd with e|e
  ·exact h.out y ((sG x.1 l).subset hy) e
  ·rw [List.mem_singleton.1 e] at hy
   have h2:=uJ (BW h.wf x.1).2.2 hy;rw [Cg h.wf.2.2,if_pos rfl] at h2
   cases h2
theorem mS.done {M:List (b8 K)} {q:K→Bool} {c:Nat} {done l:List (b8 K)} (h:mS M q c done [] l):∀ p v,cG l p=some v→cG M p=some v∧q p=false:=fun p v e=>by
 obtain ⟨n,hn⟩:=Ch e;have uM:=h.sub _ hn;refine ⟨uJ h.tZ.2.2 uM,h.out _ hn ?_⟩;have:=h.hp.mem_iff.1 uM
 rwa [List.append_nil] at this
end Go.Sp
end
section
/- Texts of this proof, one behind the other. -/
section
/- Texts of this proof. -/
open Go
namespace Go.Sp
attribute [local irreducible] bA
abbrev bP.pn {d:Fr} {dI:List aH} (aN:eV) (b s:Nat) (x:bP d dI) (L:List aH):List az :=
 [jt x.k,obj b aN.tree [x.c8,x.c9,.int .i64 (s:Int),.map (some x.mid)],av (ag.fP d x.k cq) aN.leaf x.c8 L,av ag.str aN.str x.c9 (L.map fun y=>bT y.1),cc encS x.mid x.M x.c]
def fc (aN:eV) (d:Fr) (b s:Nat) (L dI:List aH):az:=fun m=>∃ x:bP d dI,Sat (x.pn aN b s L) m
theorem bp.z {aN:eV} {d:Fr} {b s:Nat} {L:List aH} {m:Fr}:bp aN d b s L m→fc aN d b s L L m:=fun h=>bp.gy h
theorem fc.gy {aN:eV} {d:Fr} {b s:Nat} {L dI:List aH} {m:Fr}:fc aN d b s L dI m→∃ x:bP d dI,Sat (x.pn aN b s L) m:=fun h=>h
def bP.up {d:Fr} {dI:List aH} (x:bP d dI) (k:Fr) (h:x.k.sub k):bP d dI:=⟨k,x.c8,x.c9,x.mid,x.M,x.c,x.wf,x.ok.mono h⟩
theorem fc.with {aN:eV} {dx:q5} {d:Fr} {b s:Nat} {L dI:List aH} {e:TypeId} {v:Value} {xs:List aQ} {m:Fr} (h:Sat [fc aN d b s L dI,c_ (eH dx) e v xs] m) :
  ∃ x:{x:bP d dI // ∃ q,jP q d x.k∧aj dc q v xs},Sat (x.1.pn aN b s L) m:=by
 obtain ⟨m1,m2,d1,s1,s2,⟨x,n1,r1,d2,t1,t2,o1,hs⟩,m3,_,_,t3,_,o2,_⟩:=h;have e1:n1=x.k:=o1;have d13:n1.cI m3:=fun i=>(d1 i).imp (fun q=>by
  cases c:n1 i with
  |none=>rfl
  |some o=>rw [t1 i o c] at q;cases q) (fun q=>by
  cases c:m3 i with
  |none=>rfl
  |some o=>rw [t3 i o c] at q;cases q)
 have B1:(n1.add m3).cI r1:=Fr.pJ d2 (fun i=>(d1 i).symm.imp (fun q=>by
  cases c:m3 i with
  |none=>rfl
  |some o=>rw [t3 i o c] at q;cases q) (fun q=>by
  cases c:r1 i with
  |none=>rfl
  |some o=>rw [t2 i o c] at q;cases q))
 have hk:x.k.sub (n1.add m3):=e1 ▸ Fr.cw n1 m3;have sm:(n1.add m3).sub m:=Fr.hG (Fr.aI t1 s1) (Fr.aI t3 s2);refine ⟨⟨x.up (n1.add m3) hk,n1.add m3,jP.own _ _,(c_.arr o2).mono (Fr.dA d13)⟩,n1.add m3,r1,B1,sm,Fr.aI t2 s1,rfl,?_⟩;obtain ⟨a1,a2,da,sa,sb,q1,b1,b2,db,sc,sd,q2,cH⟩:=hs;exact ⟨a1,a2,da,sa,sb,q1,b1,b2,db,sc,sd,q2.yI hk,cH⟩
theorem Ro {d k:Fr} {key:List UInt8} {v:Value} {xs:List aQ} (hk:key.length≤9223372036854775807):(∃ q,jP q d k∧aj dc q v xs)→(ag.fP d k cq).rel Fr.emp [.string (str key),v] (key,xs,())
 |⟨q,c,a⟩=>⟨q,c,cq.mk hk a⟩
theorem bP.seen {aN:eV} {d g:Fr} {b s:Nat} {L dI:List aH} {m:Fr} (x:bP d dI) (hd:d.sub g) (hm:g.cI m):Sat (x.pn aN b s L) m→kf (g.add m) b s L:=fun ⟨n1,r1,_,t1,t2,o1,hs⟩=>by
 have e1:n1=x.k:=o1;obtain ⟨m2,_,_,s2,Kv,o,m3,_,_,s3,t3,sr,m4,_,_,oh,_,vu,_⟩:=hs;have g1:m.sub (g.add m):=Fr.dA hm;have h1:m2.sub m:=Fr.aI s2 t2;have h2:m3.sub m:=Fr.aI s3 (Fr.aI Kv t2);have h3:m4.sub m:=Fr.aI oh (Fr.aI t3 (Fr.aI Kv t2));obtain ⟨cO,cQ,hL⟩:=sr.shape;obtain ⟨cB,cC,hw⟩:=vu.shape;rw [List.length_map] at hw;rw [hL] at o sr;rw [hw] at o vu;have Om:x.k.sub (g.add m):=e1 ▸ Fr.aI t1 g1;exact ⟨cO,cQ,cB,cC,x.mid,((fK o).mono h1).mono g1,((sr.arr.mono h2).mono g1).yJ (Fr.aI hd (Fr.cw _ _)) Om,(vu.arr.mono h3).mono g1⟩
def bP.with {d:Fr} {dI:List aH} (x:bP d dI) (c8 c9:Value):bP d dI:=⟨x.k,c8,c9,x.mid,x.M,x.c,x.wf,x.ok⟩
theorem iy.thin {d k:Fr} {L:List aH} {y:aH} {M done l:List (b8 (List UInt8))} {c:Nat} (h:iy d k L M) (hr:eT L) (ht:mS M (fun p=>p.isPrefixOf (bT y.1)) c done [] l):iy d k (gF L y) l:=fun p v e=>by
 obtain ⟨h1,h2⟩:=ht.done p v e;obtain ⟨q1,q2⟩:=h p v h1;refine ⟨q1,?_⟩;rw [U7 (VF (p:=p) hr h2)];exact q2
theorem SX (L:List aH) (y:aH):(gF L y).length≤L.length+1:=by
 unfold gF;have h:(L.filter fun z=>decide (z.1<y.1)).length+(L.filter fun z=>decide (y.1<z.1)).length≤L.length:=by
  rw [← List.countP_eq_length_filter,← List.countP_eq_length_filter,List.length_eq_countP_add_countP (fun z:aH=>decide (z.1<y.1)) (l:=L)];refine Nat.add_le_add_left (List.countP_mono_left fun z _ q=>?_) _;simp only [decide_eq_true_eq] at q ⊢;exact fun k=>List.lt_irrefl _ (List.lt_trans q (of_decide_eq_true (by simpa using k)))
 simp only [List.length_append]
 split
 ·simp only [List.length_nil];omega
 ·simp only [List.length_singleton];omega
theorem SY {L:List aH} {y:aH} {N:Nat} (h:∀ z∈L,z.2.1.length≤N) (hy:y.2.1.length≤N):∀ z∈gF L y,z.2.1.length≤N:=fun z hz=>by
 rcases D4.1 hz with ⟨q,_⟩|⟨rfl,_⟩
 ·exact h z q
 ·exact hy
theorem hM {α:Type} {R:List Value→α→Prop} {ak:List (List Value)} {xs:List α} {c:List Value} {x:α} (i:Nat) (h:bY R ak xs) (hc:R c x):bY R (ak.take i++[c]++ak.drop i) (xs.take i++[x]++xs.drop i):=((h.take i).append (show bY R [c] [x] from ⟨hc,trivial⟩)).append (h.drop i)
theorem uu {α:Type} {R:List Value→α→Prop} {ak:List (List Value)} {xs:List α} (i:Nat) (h:bY R ak xs):bY R (ak.eraseIdx i) (xs.eraseIdx i):=by
 rw [erase_eq,erase_eq];exact (h.take i).append (h.drop (i+1))
abbrev bP.wc {d:Fr} {dI:List aH} (aN:eV) (b s:Nat) (x:bP d dI) (c8 c9:Value) (ak cM:List (List Value)):List az :=
 [jt x.k,obj b aN.tree [c8,c9,.int .i64 (s:Int),.map (some x.mid)],av (ag.cells 2) aN.leaf c8 ak,av (ag.cells 1) aN.str c9 cM,cc encS x.mid x.M x.c]
theorem bP.rows {aN:eV} {d:Fr} {b s:Nat} {L dI:List aH} {m:Fr} (x:bP d dI) {c8 c9:Value} {ak cM:List (List Value)} (h1:bY ((ag.fP d x.k cq).rel Fr.emp) ak L) (h2:bY (ag.str.rel Fr.emp) cM (L.map fun y=>bT y.1)) :
  Sat (x.wc aN b s c8 c9 ak cM) m→fc aN d b s L dI m
 |⟨a1,a2,da,sa,sb,q1,b1,b2,db,sc,sd,q2,c1,c2,MD,se,sf,cH,e1,e2,ME,Uv,sh,nC,tJ⟩ =>
  ⟨x.with c8 c9,a1,a2,da,sa,sb,q1,b1,b2,db,sc,sd,q2,c1,c2,MD,se,sf,av.j4 rfl h1 cH,e1,e2,ME,Uv,sh,av.j4 rfl h2 nC,tJ⟩
end Go.Sp
end
section
/- Texts of this proof. -/
open Go
namespace Go.Sp
section
variable {P:Program} {σ:List (Nat × Value)} {g:bh} {U ζ:List az}
theorem TU {xs ys:List UInt8} {w:World}:(Extern.BytealgCompare.compare #[.string (str xs),.string (str ys)]).run P w=.ok (.int .i64 (Lib.compareBytes xs ys)) w:=by
 change Sem.run P (do pure (goInt (Extern.BytealgCompare.cmp (← Extern.Bytes.bytesOf (.string (str xs))) (← Extern.Bytes.bytesOf (.string (str ys)))))) w=_
 simp only [Extern.Bytes.bytesOf,Sem.run_bind,Sem.run_pure,Result.andThen];rw [Lib.cmp_eq]
 rfl
theorem aD.Mc {f : FuncId} {fn : Func} {x y z : Operand} {ts : Array TypeId} {xs ys : List UInt8} (hf : P.funcs[f]? = some fn) (h1 : (fn.name == "runtime.NumGoroutine") = false) (h2 : fn.body.isNone = true) (h3 : Extern.findNext fn = none) (h4 : Extern.find fn = some Extern.BytealgCompare.compare)
  (hx:aA σ x=some (.func (.func f) #[] #[])) (hy:aA σ y=some (.string (str xs))) (hz:aA σ z=some (.string (str ys))):aD P (.call ⟨.value x,#[y,z],ts⟩) σ g U (.int .i64 (Lib.compareBytes xs ys)) U:=by
 intro o ρ w ho hk hw
 refine ⟨w,?_,hw⟩;have e1:=run_callFunc_extern (P:=P) hf h1 h2 h3 h4 #[.string (str xs),.string (str ys)] w;rw [TU] at e1;simp only [Result.andThen] at e1
 simp [execOp,ho,resolve,hk x _ hx,hk y _ hy,hk z _ hz,Deferred.ofValue,invoke,e1]
theorem bE.Mq {t te e T:TypeId} {x y:Operand} {b n c m:Nat} {u:Value} {cs:List Value} {xs:List UInt8} (ht:P.underlying t=some (.slice e)) (he:(P.info? e).map (·.size)=some 1) (hx:aA σ x=some (.slice (some ⟨b,0,none⟩) n c)) (hy:aA σ y=some u) (hu:aj ag.u8 g.h u xs)
  (hs:bf U (obj b T cs) ζ) (hm:m=xs.length) (h1:m≤n) (h2:m≤cs.length) (h0:0<m) :
  bE P (.call ⟨.builtin .copy,#[x,y],#[t,te]⟩) σ g U fun v ax =>v=.int .i64 (m:Int)∧ax =obj b T (xs.map bH++cs.drop m)::ζ :=
 fun o ρ w ho hk hw=>by
  subst hm;have hw1:=hw.cu hs;obtain ⟨ak,ha,Lp,BV,rfl,c1,c2,c3,gL⟩:=hu;have hfl:ak.flatten=xs.map bH:=by
   clear c3 gL hy h0 h1 h2 c1
   induction ak generalizing xs with
   |nil=>cases xs with|nil=>rfl|cons _ _=>exact ha.elim
   |cons c ak ih =>
    cases xs with
    |nil=>exact ha.elim
    |cons x xs =>
     obtain ⟨a1,a2⟩:=ha;have a1:c=[bH x]:=a1;rw [List.flatten_cons,ih a2,a1];rfl
  rw [hfl] at c3 gL;have hl:(xs.map bH).length=xs.length:=List.length_map ..;obtain ⟨ad,had,_⟩:=gL 0 (by omega);subst had;have hnews:∀ iP v,(xs.map bH)[iP]?=some v→w.cell? (ad.add iP)=some v:=fun iP v hv=>by
   obtain ⟨hjl,rfl⟩:=List.getElem?_eq_some_iff.1 hv;obtain ⟨p,hp,hc⟩:=gL iP hjl
   cases hp
   exact Fr.qf hw.ground hc
  have hf:=run_firstCells_some (P:=P) w 1 xs.length ad xs.length BV (xs.map bH) (by omega) hnews;have hst:=run_storeCells_at P b 0 T (xs.map bH) 0 cs.toArray w hw1.block (by simp;omega) (by
   intro v hv
   obtain ⟨_,_,rfl⟩:=List.mem_map.1 hv;rfl)
  simp only [Nat.add_zero,Nat.zero_add,List.take_zero,List.nil_append,hl] at hst;have hmin:Nat.min xs.length n=xs.length:=Nat.min_eq_left h1;refine ⟨_,w.setRow b (xs.map bH++cs.drop xs.length).toArray,_,⟨rfl,rfl⟩,?_,hw1.setRow⟩
  simp [execOp,ho,hk x _ hx,hk y _ hy,resolve,invoke,builtin,Builtin.copy_,run_underlying ht,Builtin.lenOf,run_sizeOf he,hmin,hf,hst,goInt]
end
theorem GC {a b:List UInt8}:Lib.compareBytes a b<0↔a<b:=BO
theorem Mi {a b:List UInt8}:Lib.compareBytes a b=0↔a=b:=GB
end Go.Sp
end
end
end
