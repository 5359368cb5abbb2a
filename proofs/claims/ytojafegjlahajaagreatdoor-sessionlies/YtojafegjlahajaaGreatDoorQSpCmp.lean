/- Texts of this proof, one behind the other. -/
import Derived.Test.YtojafegjlahajaaGreatDoorQSpPut
import Derived.Lib.Overlaps
import Derived.Laws.Externs
set_option linter.unusedSectionVars false
section
/- Texts of this proof. -/
namespace Go.Sp
section
variable {ro:Option Nat} {P:Program} {fn:Func} {n:Nat} {R:Ending→World→Prop} {k:List Item} {σ:List (Nat × Value)} {D:List Deferred} {g:bk} {U ζ aO:List az} {ops:Array Oper} {i d:Nat} {ls:List Nat}
 {t te e:TypeId} {x y z u:Operand} {w:World} {a:Option Addr} {m c s:Nat} {kx ky EA:IntKind}
theorem bC.jb {t e k cn:Nat} {z:List Value} {parts:Array (Nat × Operand)} {vs cs:List Value} {len:Nat} (ht:P.underlying t=some (.slice e)) (he:dG P e k cn z)
  (hp:partsOf σ parts.toList 0=some vs) (hlen:parts.toList.length=len) (hvs:vs.all (fun v=>Nat.beq v.cells.size k)=true) (gy:len*k≤16777216) (hcs:cs=(vs.map (·.cells.toList)).flatten) :
  bC P (.buildSlice t len parts) σ g U fun v ax =>∃ b,v=.slice (some ⟨b,0,none⟩) len len∧ax =obj b e cs::U :=
 fun o ρ w ho hkn hw=>by
  subst hcs;obtain ⟨i,cw,hi,hz,hs,hby,kM,hzl⟩:=he;subst hs kM;have hzs:cw.cells.size=i.size:=by simpa using hzl
  have ep :∀ v∈vs,v.cells.size=i.size:=fun v hv=>Nat.eq_of_beq_eq_true (List.all_eq_true.1 hvs v hv);have CO :¬ (16777216<len*i.size):=by omega
  have hmap:(parts.map fun (p:Nat × Operand)=>(p.1,ρ p.2)).toList=parts.toList.map fun p=>(p.1,ρ p.2):=Array.toList_map;have hsz:(sizeOf e).run P w=.ok i.size w:=run_sizeOf (by simp [hi]) w;have hrun:(Instr.buildSlice t len (parts.map fun (p:Nat × Operand)=>(p.1,ρ p.2))).run P w =
    .ok (.slice (some ⟨w.heap.size,0,none⟩) len len) (w.alloc (.cells (vs.map (·.cells.toList)).flatten.toArray e)):=by
   have hf:∀ c:Array Value,c.size=len*i.size→Instr.fill (fun j=>some (j*i.size,i.size)) c (parts.map fun (p:Nat × Operand)=>(p.1,ρ p.2)).toList=some ((vs.map (·.cells.toList)).flatten).toArray:=fun c hc=>by
    rw [hmap];exact Cy hkn i.size parts.toList 0 vs [] c.toList c hp ep rfl (by simp) (by simp [hc,← hlen])
   by_cases h0:len*i.size=0
   ·simp only [Instr.buildSlice,Sem.run_bind,run_underlying ht,Result.andThen_ok,hsz,h0,if_true,Sem.run_pure,Sem.run_ite]
    rw [hf _ (by simp [h0])]
    simp [newRow]
   ·simp only [Instr.buildSlice,Sem.run_bind,run_underlying ht,Result.andThen_ok,hsz,CO,if_false,h0,Sem.run_pure,Sem.run_ite,zeroValue,typeInfo,run_program,hi,hz]
    rw [hf _ (by simp)]
    simp [newRow]
  refine ⟨.slice (some ⟨w.heap.size,0,none⟩) len len,w.alloc (.cells (vs.map (·.cells.toList)).flatten.toArray e),_,⟨_,rfl,rfl⟩,?_,hw.alloc _⟩;simp only [execOp,ho,Sem.run_bind];have:(parts.map fun x=>match x with|(i,x)=>(i,ρ x))=parts.map fun (p:Nat × Operand)=>(p.1,ρ p.2):=rfl;rw [this,hrun];rfl
theorem av.toCells {α:Type} {T:ag α} {e:TypeId} {v:Value} {xs:List α} {m:Fr} {K:Nat} (hK:T.k=K) (x:av T e v xs m):∃ ak,bV (T.rel Fr.emp) ak xs∧av (ag.cells K) e v ak m:=by
 subst hK;obtain ⟨ak,h1,h2⟩:=x;have hl:=h1.length;refine ⟨ak,h1,ak,rD (fun cs hc=>?_) (fun cs hc v hv=>bV.one h1 v (List.mem_flatten.2 ⟨cs,hc,hv⟩)),by rw [hl];exact h2⟩;obtain ⟨i,hi,rfl⟩:=List.getElem_of_mem hc;exact T.len (h1.get i hi (by omega))
theorem av.kO {α:Type} {T:ag α} {e:TypeId} {v:Value} {xs:List α} {ak:List (List Value)} {m:Fr} {K:Nat} (hK:T.k=K) (h:bV (T.rel Fr.emp) ak xs) (x:av (ag.cells K) e v ak m):av T e v xs m:=by
 subst hK;obtain ⟨ds,h1,h2⟩:=x;obtain ⟨rfl,_,_⟩:=rC h1;exact ⟨ds,h,by rw [← h.length];exact h2⟩
theorem S.toCells {todo:List Item} {α:Type} {T:ag α} {v:Value} {xs:List α} {K:Nat} (hK:T.k=K) (s:a_ U (av T e v xs) ζ) (h:∀ ak,bV (T.rel Fr.emp) ak xs→S ro P fn n R todo σ D g (av (ag.cells K) e v ak::ζ)):S ro P fn n R todo σ D g U :=
 S.open (bs:=fun q:{ak:List (List Value) // bV (T.rel Fr.emp) ak xs}=>[av (ag.cells K) e v q.1]) s (fun m x=>let ⟨ak,a,b⟩:=x.toCells hK;⟨⟨ak,a⟩,m,Fr.emp,Fr.eZ (Fr.dZ _),Fr.bU _,Fr.cV _,b,trivial⟩) fun q=>h q.1 q.2
theorem Addr.uT (b q j:Nat):(⟨b,q,none⟩:Addr).add j=⟨b,q+j,none⟩:=add_lit b q j
theorem bC.y7 {K lo:Nat} {ak ds:List (List Value)} {q:Value} (ht:P.underlying t=some (.slice e)) (he:(P.info? e).map (·.size)=some K) (hK:0<K)
  (hx:aA σ x=some (.slice (if c=lo then a else a.map (·.add (lo*K))) (ak.length - lo) (c - lo))) (hy:aA σ y=some q) (hu:aj (ag.cells K) g.h q ds) (hs:a_ U (av (ag.cells K) e (.slice a ak.length c) ak) ζ)
  (hl:lo+ds.length≤ak.length) (h0:0<ds.length) :
  bC P (.call ⟨.builtin .copy,#[x,y],#[t,te]⟩) σ g U fun v ax =>v=.int .i64 (ds.length:Int)∧ax =av (ag.cells K) e (.slice a ak.length c) (ak.take lo++ds++ak.drop (lo+ds.length))::ζ :=
 fun o ρ w ho hkn hw=>by
  have hw1:=hw.cr hs;obtain ⟨b,cap,cur,bE,hv,h1,h2,h3,h4,ha,fz,hfz,hb⟩:=hw1.oA (by omega);obtain ⟨rfl,hlen,hone⟩:=rC ha
  injection hv with e1 _ bY
  subst e1 bY;have hkk:(ag.cells K).k=K:=rfl;rw [hkk] at h3 h4 hfz;obtain ⟨dR,hda,Mj,Cl,rfl,c1,c2,c3,gV⟩:=hu;have hd2:dR=ds:=wD hda;subst hd2;rw [hkk] at c3;have Ir:∀ v∈dR.flatten,v.oneCell' =true:=bV.one hda;have hpos:0<dR.flatten.length:=by rw [c3];exact Nat.mul_pos h0 hK
  obtain ⟨ad,had,_⟩:=gV 0 hpos;subst had;have hnews:∀ ja v,dR.flatten[ja]?=some v→w.cell? (ad.add ja)=some v:=fun ja v hv=>by
   obtain ⟨hjl,rfl⟩:=List.getElem?_eq_some_iff.1 hv;obtain ⟨p,hp,hc⟩:=gV ja hjl
   cases hp
   exact Fr.qB hw.ground hc
  have hne:¬ c=lo:=by omega
  rw [if_neg hne] at hx;simp only [Option.map_some,Addr.uT,Nat.zero_add] at hx;have hmin:Nat.min dR.length (bE.length - lo)=dR.length:=Nat.min_eq_left (by omega);have hf:=run_firstCells_some (P:=P) w K dR.length ad dR.length Cl dR.flatten c3 hnews;have hmul:lo*K+dR.length*K≤c*K:=by rw [← Nat.add_mul];exact Nat.mul_le_mul_right _ (by omega)
  have hst:=sx P b (lo*K) e hfz dR.flatten 0 cur w hb.block (by omega) (by rw [c3];omega) Ir;simp only [Nat.add_zero] at hst;refine ⟨_,w.setRow b (cur.toList.take (lo*K)++dR.flatten++cur.toList.drop (lo*K+dR.flatten.length)).toArray,_,⟨rfl,rfl⟩,?_,?_⟩
  ·simp [execOp,ho,hkn x _ hx,hkn y _ hy,resolve,invoke,builtin,Builtin.copy_,run_underlying ht,Builtin.lenOf,run_sizeOf he,hmin,hf,hst,goInt]
  ·refine (hb.setRow (cs:=(cur.toList.take (lo*K)++dR.flatten++cur.toList.drop (lo*K+dR.flatten.length)).toArray)).imp fun _ x=>Sat.fk (fun m' hm' =>?_) (fun _ z=>z) x
   have hdl:∀ cs∈dR,cs.length=K:=fun cs hc=>by
    obtain ⟨i,hi,rfl⟩:=List.getElem_of_mem hc;exact (ag.cells K).len (hda.get i hi hi)
   have hnl:(bE.take lo++dR++bE.drop (lo+dR.length)).length=bE.length:=by simp;omega
   have xA:∀ cs∈bE.take lo++dR++bE.drop (lo+dR.length),cs.length=K:=fun cs hc=>by
    rcases List.mem_append.1 hc with hc|hc
    ·rcases List.mem_append.1 hc with hc|hc
     ·exact hlen cs (List.mem_of_mem_take hc)
     ·exact hdl cs hc
    ·exact hlen cs (List.mem_of_mem_drop hc)
   have DN:∀ cs∈bE.take lo++dR++bE.drop (lo+dR.length),∀ v∈cs,v.oneCell' =true:=fun cs hc=>by
    rcases List.mem_append.1 hc with hc|hc
    ·rcases List.mem_append.1 hc with hc|hc
     ·exact hone cs (List.mem_of_mem_take hc)
     ·exact fun v hv=>Ir v (List.mem_flatten.2 ⟨cs,hc,hv⟩)
    ·exact hone cs (List.mem_of_mem_drop hc)
   refine ⟨_,rD xA DN,?_,.inr ⟨b,c,_,by rw [hnl],⟨fz,hm',hfz⟩,by omega,h2,?_,?_⟩⟩
   ·rw [qC xA,hkk]
   ·have eb:cur.toList.length=c*K:=by simpa using h3
    simp only [List.size_toArray,List.length_append,List.length_take,List.length_drop,hkk];rw [c3,eb]
    omega
   ·rw [hnl,hkk,List.toList_toArray,List.flatten_append,List.flatten_append]
    have YW:bE.length*K≤c*K:=Nat.mul_le_mul_right _ h1;have hlo:lo*K≤bE.length*K:=Nat.mul_le_mul_right _ (by omega);have hhi:lo*K+dR.length*K≤bE.length*K:=by rw [← Nat.add_mul];exact Nat.mul_le_mul_right _ hl
    have e1:cur.toList.take (lo*K)=(bE.take lo).flatten:=by
     rw [← y6 hlen,← h4,List.take_take,Nat.min_eq_left hlo]
    have e2:(cur.toList.drop (lo*K+dR.flatten.length)).take (bE.length*K - (lo*K+dR.flatten.length))=(bE.drop (lo+dR.length)).flatten:=by
     rw [← B7 hlen,← h4,List.drop_take,c3,Nat.add_mul]
    rw [e1];have l1:((bE.take lo).flatten++dR.flatten).length=lo*K+dR.flatten.length:=by
     rw [List.length_append,qC (fun cs hc=>hlen cs (List.mem_of_mem_take hc)),List.length_take,Nat.min_eq_left (by omega)]
    rw [List.take_append,l1,List.take_of_length_le (by rw [l1,c3];exact hhi),e2]
theorem bC.A8 {K lo:Nat} {ak:List (List Value)} (ht:P.underlying t=some (.slice e)) (he:(P.info? e).map (·.size)=some K) (hlo:lo<ak.length) (hroom:ak.length+1≤c)
  (hx:aA σ x=some (.slice (if c=lo+1 then a else a.map (·.add ((lo+1)*K))) (ak.length+1 - (lo+1)) (c - (lo+1)))) (hy:aA σ y=some (.slice (if c=lo then a else a.map (·.add (lo*K))) (ak.length+1 - lo) (c - lo)))
  (hs:a_ U (av (ag.cells K) e (.slice a ak.length c) ak) ζ) :
  bC P (.call ⟨.builtin .copy,#[x,y],#[t,te]⟩) σ g U fun v ax =>v=.int .i64 ((ak.length - lo:Nat):Int)∧ax =av (ag.cells K) e (.slice a (ak.length+1) c) (ak.take (lo+1)++ak.drop lo)::ζ :=
 fun o ρ w ho hkn hw=>by
  have hw1:=hw.cr hs;obtain ⟨b,cap,cur,bE,hv,h1,h2,h3,h4,ha,fz,hfz,hb⟩:=hw1.oA (by omega);obtain ⟨rfl,hlen,hone⟩:=rC ha
  injection hv with e1 _ bY
  subst e1 bY;have hkk:(ag.cells K).k=K:=rfl;rw [hkk] at h3 h4 hfz;rw [if_neg (by omega:¬ c=lo+1)] at hx;rw [if_neg (by omega:¬ c=lo)] at hy;simp only [Option.map_some,Addr.uT,Nat.zero_add] at hx hy;have eb:cur.toList.length=c*K:=by simpa using h3
  let news:=(bE.drop lo).flatten
  have hnl:news.length=(bE.length - lo)*K:=by
   have:=qC (k:=K) (ak:=bE.drop lo) (fun cs hc=>hlen cs (List.mem_of_mem_drop hc));rw [List.length_drop] at this;exact this
  have DH:news=(cur.toList.take (bE.length*K)).drop (lo*K):=by rw [h4,B7 hlen]
  have lB:=hb.block;have hcell:∀ ja v,news[ja]?=some v→w.cell? ((⟨b,lo*K,none⟩:Addr).add ja)=some v:=fun ja v hv=>by
   rw [Addr.uT];rw [DH,List.getElem?_drop,List.getElem?_take] at hv
   split at hv
   ·simp only [World.cell?,lB]
    simpa using hv
   ·cases hv
  have hmin:Nat.min (bE.length+1 - lo) (bE.length - lo)=bE.length - lo:=Nat.min_eq_right (by omega);have hf:=run_firstCells_some (P:=P) w K (bE.length - lo) ⟨b,lo*K,none⟩ (bE.length+1 - lo) (c - lo) news hnl hcell;have hnone:∀ v∈news,v.oneCell' =true:=fun v hv=>HJ (fun cs hc=>hone cs (List.mem_of_mem_drop hc)) v hv;have aX:(lo+1)*K+(bE.length - lo)*K=(bE.length+1)*K:=by rw [← Nat.add_mul];congr 1;omega
  have hm2:(bE.length+1)*K≤c*K:=Nat.mul_le_mul_right K hroom;have hst:=sx P b ((lo+1)*K) e hfz news 0 cur w lB (by omega) (by rw [hnl];omega) hnone;simp only [Nat.add_zero] at hst;refine ⟨_,w.setRow b (cur.toList.take ((lo+1)*K)++news++cur.toList.drop ((lo+1)*K+news.length)).toArray,_,⟨rfl,rfl⟩,?_,?_⟩
  ·simp [execOp,ho,hkn x _ hx,hkn y _ hy,resolve,invoke,builtin,Builtin.copy_,run_underlying ht,Builtin.lenOf,run_sizeOf he,hmin,hf,hst,goInt]
  ·refine (hb.setRow (cs:=(cur.toList.take ((lo+1)*K)++news++cur.toList.drop ((lo+1)*K+news.length)).toArray)).imp fun _ x=>Sat.fk (fun m' hm' =>?_) (fun _ z=>z) x
   have hel:(bE.take (lo+1)++bE.drop lo).length=bE.length+1:=by simp;omega
   have hsub:∀ cs∈bE.take (lo+1)++bE.drop lo,cs∈bE :=fun cs hc=>(List.mem_append.1 hc).elim List.mem_of_mem_take List.mem_of_mem_drop;refine ⟨_,rD (fun cs hc=>hlen cs (hsub cs hc)) (fun cs hc=>hone cs (hsub cs hc)),?_,.inr ⟨b,c,_,by rw [hel],⟨fz,hm',hfz⟩,by omega,h2,?_,?_⟩⟩
   ·rw [qC (fun cs hc=>hlen cs (hsub cs hc)),hkk]
   ·simp only [List.size_toArray,List.length_append,List.length_take,List.length_drop,hkk]
    rw [hnl,eb]
    omega
   ·rw [hel,hkk,List.toList_toArray,List.flatten_append]
    have e1:cur.toList.take ((lo+1)*K)=(bE.take (lo+1)).flatten:=by
     rw [← y6 hlen,← h4,List.take_take,Nat.min_eq_left (Nat.mul_le_mul_right K (by omega))]
    have e2:(bE.length+1)*K=((bE.take (lo+1)).flatten++news).length:=by
     rw [List.length_append,hnl,qC (fun cs hc=>hlen cs (List.mem_of_mem_take hc)),List.length_take,Nat.min_eq_left (by omega)]
     omega
    rw [e1,e2,List.take_left']
    rfl
theorem bC.Gz {K cn lo q:Nat} {j0:List Value} {ak:List (List Value)} {t2:TypeId} {xW qb:IntKind} {b_:Int} (ht:P.underlying t=some (.slice e)) (ht2:P.underlying t2=some (.int xW)) (he:dG P e K cn j0) (vC:∀ v∈j0,v.oneCell' =true) (hK:0<K)
  (hx:aA σ x=some (.slice a lo c)) (hy:aA σ y=some (.int qb b_)) (dV:b_=(q:Int)) (hs:a_ U (av (ag.cells K) e (.slice a ak.length c) ak) ζ) (hlo:lo≤ak.length) (h0:0<ak.length) (hc:ak.length≤c) (hgrow:c<lo+q) (hb:(lo+q)*cn≤140737488355328) (h63:lo+q≤9223372036854775807) :
  bC P (.call ⟨.builtin .append,#[x,y],#[t,t2]⟩) σ g U fun v' ax =>∃ b' c',v' =.slice (some ⟨b',0,none⟩) (lo+q) c' ∧lo+q≤c' ∧ax =av (ag.cells K) e v' (ak.take lo++List.replicate q j0)::av (ag.cells K) e (.slice a ak.length c) ak::ζ:=by
 subst dV
 intro o ρ w ho hkn hw
 have hw1:=hw.cr hs;obtain ⟨b,cap,cur,bE,hv,h1,h2,h3,h4,ha,fz,hfz,hb0⟩:=hw1.oA (by omega);obtain ⟨rfl,hlen,hone⟩:=rC ha
 injection hv with e1 _ bY
 subst e1 bY;have hkk:(ag.cells K).k=K:=rfl;rw [hkk] at h3 h4 hfz;obtain ⟨i,cw,hi,r0,hsz,hby,kM,hzl⟩:=he;subst hby kM;have hzs:cw.cells.size=K:=by simpa using hzl
 have hq:q*i.bytes≤140737488355328:=Nat.le_trans (Nat.mul_le_mul_right _ (by omega)) hb;have wl:IntKind.i64.wrap (q:Int)=q:=by rw [IntKind.wrap_i64];omega
 have n1:¬ ((q:Int)<0):=by omega
 have n2:¬ (281474976710656<(q:Int)*(i.bytes:Int)):=by
  have:((q*i.bytes:Nat):Int)≤140737488355328:=by omega
  rw [Int.natCast_mul] at this;omega
 have n3:¬ (lo+q≤c):=by omega
 have pL:¬ (9223372036854775807<(lo:Int)+(q:Int)):=by omega
 have n5:¬ (281474976710656<Builtin.nextslicecap (lo+q) c*i.bytes):=by
  have:=growslice_fits (need:=lo+q) (old:=c) (bytes:=i.bytes) hgrow hb
  omega
 have n6:q*i.size≠0:=Nat.ne_of_gt (Nat.mul_pos (by omega) (by omega));have hge:=grownCap_ge w (lo+q) c e;have hcm:=grownCap_le_maxLen w (lo+q) c e (by simpa [maxLen] using h63);have eb:cur.toList.length=c*K:=by simpa using h3
 have hlk:lo*K≤bE.length*K:=Nat.mul_le_mul_right _ hlo;have htk:(bE.take lo).flatten=cur.toList.take (lo*K):=by rw [← y6 hlen,← h4,List.take_take,Nat.min_eq_left hlk]
 have tI:((bE.take lo).flatten).length=lo*i.size:=by
  rw [qC (fun cs hc=>hlen cs (List.mem_of_mem_take hc)),List.length_take,Nat.min_eq_left hlo,hsz]
 have holds:∀ j v,((bE.take lo).flatten)[j]?=some v→w.cell? ((⟨b,0,none⟩:Addr).add j)=some v:=fun j v hv=>by
  rw [Addr.uT,Nat.zero_add];rw [htk,List.getElem?_take] at hv
  split at hv
  ·simp only [World.cell?,hb0.block]
   simpa using hv
  ·cases hv
 have hfo:=run_firstCells_some (P:=P) w.drew i.size lo ⟨b,0,none⟩ lo c ((bE.take lo).flatten) tI (by simpa using holds);have hrun:(Builtin.append_ #[t,t2] o.type #[.slice (some ⟨b,0,none⟩) lo c,.int qb (q:Int)]).run P w=.ok (.slice (some ⟨w.heap.size,0,none⟩) (lo+q) (grownCap w (lo+q) c e)) (w.drew.alloc (.cells (((bE.take lo).flatten).toArray++Builtin.zeroCells cw.cells q++Builtin.zeroCells cw.cells (grownCap w (lo+q) c e - (lo+q))) e)):=by
  simp [Builtin.append_,run_underlying ht,run_underlying ht2,sizeOf,typeInfo,zeroValue,hi,r0,asInt,asIntOf,wl,n1,n2,n3,pL,n5,n6,hfo,Question.forced,newRow,grownCap]
 have p9:∀ q,(Builtin.zeroCells cw.cells q).toList=fe cw.cells.toList q:=fun q=>by
  have:=x7 cw.cells q (by omega);rw [← this];rfl
 refine ⟨_,_,_,⟨_,_,rfl,hge,rfl⟩,qh ho (by rw [hkn x _ hx,hkn y _ hy];exact hrun),?_⟩;have hrf:∀ q,(List.replicate q cw.cells.toList).flatten=fe cw.cells.toList q:=fun q=>by
  induction q with
  |zero=>rfl
  |succ q ih=>rw [List.replicate_succ,List.flatten_cons,ih];rfl
 have hnl:(bE.take lo++List.replicate q cw.cells.toList).length=lo+q:=by simp;omega
 have xA:∀ cs∈bE.take lo++List.replicate q cw.cells.toList,cs.length=K:=fun cs hc=>by
  rcases List.mem_append.1 hc with hc|hc
  ·exact hlen cs (List.mem_of_mem_take hc)
  ·rw [List.eq_of_mem_replicate hc];exact hzl
 have DN:∀ cs∈bE.take lo++List.replicate q cw.cells.toList,∀ v∈cs,v.oneCell' =true:=fun cs hc=>by
  rcases List.mem_append.1 hc with hc|hc
  ·exact hone cs (List.mem_of_mem_take hc)
  ·rw [List.eq_of_mem_replicate hc];exact vC
 refine (((hw1.drewN _ (Nat.le_add_right _ _)).alloc _).own (k:=K) (m:=lo+q) (cap:=grownCap w (lo+q) c e) (cs:=(bE.take lo++List.replicate q cw.cells.toList).flatten) hge (by simpa [maxLen] using hcm) ?_ ?_).imp fun _=>Sat.fk (av.of (T:=ag.cells K) (rD xA DN) hnl.symm rfl rfl) fun _ q=>q
 ·simp only [Array.size_append,size_zeroCells,hzs,List.size_toArray,tI,hsz,← Nat.add_mul]
  congr 1;omega
 ·rw [Array.toList_append,Array.toList_append,p9,p9,List.toList_toArray,List.flatten_append,hrf]
  have:((bE.take lo).flatten++fe cw.cells.toList q).length=(lo+q)*K:=by rw [List.length_append,tI,r8,hzl,hsz,Nat.add_mul]
  rw [← this];exact List.take_left
theorem aF.J9 {f : FuncId} {fn' : Func} {tS tR K : TypeId} {ts : Array TypeId} {b1 b2 q la ca lb cb n2 c2 : Nat} {cs : List Value} {ak : List (List Value)} {f0 : Operand} (hf : P.funcs[f]? = some fn') (h1 : (fn'.name == "runtime.NumGoroutine") = false) (h2 : fn'.body.isNone = true) (h3 : Extern.findNext fn' = none)
  (h4:Extern.find fn' =some (Extern.SlicesOverlaps.overlaps #[tS,tS] #[tR])) (ht:P.underlying tS=some (.slice e)) (he:(P.info? e).map (·.size)=some s) (hK:0<K)
  (h0:aA σ f0=some (.func (.func f) #[] #[])) (hx:aA σ x=some (.slice (some ⟨b1,0,none⟩) la ca)) (hy:aA σ y=some (.slice (some ⟨b2,q,none⟩) lb cb))
  (s1:a_ U (obj b1 e cs) ζ) (s2:a_ ζ (av (ag.cells K) e (.slice (some ⟨b2,0,none⟩) n2 c2) ak) aO) (hn:0<ak.length) :
  aF P (.call ⟨.value f0,#[x,y],ts⟩) σ g U (.bool false) U:=by
 intro o ρ w ho hk hw
 refine ⟨w,?_,hw⟩;have hw1:=hw.cr s1;have kW:w.heap[b1]?=some (.cells cs.toArray e (0,0)):=hw1.block;have qV:Holds w g (av (ag.cells K) e (.slice (some ⟨b2,0,none⟩) n2 c2) ak::obj b1 e cs::aO):=hw1.perm ((List.Perm.cons _ s2.perm).trans (List.Perm.swap _ _ _));obtain ⟨b,cap,cur,bE,hv,g1,g2,g3,g4,ha,fz,hfz,hb⟩:=qV.oA hn;have lB:=hb.block
 injection hv with e1 _ bY
 injection e1 with e1
 injection e1 with e1
 subst e1;have hne:b1≠b2:=by
  rintro rfl;obtain ⟨_,_,_,kk,_,_,_,m1,m2,dj,_,_,o1,m3,_,_,t1,_,o2,_⟩:=hb;have a1:m1 b1=some _:=o1;have a2:m2 b1=some _:=t1 _ _ o2
  rcases dj b1 with z|z
  ·rw [z] at a1;cases a1
  ·rw [z] at a2;cases a2
 have Ph:cur.size≠0:=by
  have hkk:(ag.cells K).k=K:=rfl;rw [g3,hkk];exact Nat.ne_of_gt (Nat.mul_pos (by omega) hK)
 have P5:=Lib.run_overlaps_apart (P:=P) w tS tR e ht s (fun w=>run_sizeOf he w) ⟨b1,0,none⟩ ⟨b2,q,none⟩ la ca lb cb hne e e cs.toArray.size cur.size (by simp [World.shape?,kW]) (by simp [World.shape?,lB]) Ph
  (by simp [World.frozen?,kW]) (by simp [World.frozen?,kW])
 have e1:=run_callFunc_extern (P:=P) hf h1 h2 h3 h4 #[.slice (some ⟨b1,0,none⟩) la ca,.slice (some ⟨b2,q,none⟩) lb cb] w;rw [P5] at e1;simp only [Result.andThen] at e1
 simp [execOp,ho,resolve,hk f0 _ h0,hk x _ hx,hk y _ hy,Deferred.ofValue,invoke,e1]
theorem vO {b K:Nat} {e:TypeId} {cs:List Value} {m:Fr} (hl:cs.length=K) (h1:∀ v∈cs,v.oneCell' =true) (h:Sat [obj b e cs] m):av (ag.cells K) e (.slice (some ⟨b,0,none⟩) 1 1) [cs] m:=by
 obtain ⟨m1,_,_,s1,_,o,_⟩:=h;have o1:m1 b=some (.cells cs.toArray e (0,0)):=o;have hf:[cs].flatten=cs:=by simp
 have hkk:(ag.cells K).k=K:=rfl;refine ⟨[cs],rD (fun x hx=>by rw [List.mem_singleton.1 hx];exact hl) (fun x hx=>by rw [List.mem_singleton.1 hx];exact h1),by rw [hf,hl,hkk];exact (Nat.one_mul _).symm,.inr ⟨b,1,cs.toArray,rfl,⟨(0,0),s1 _ _ o1,Lh _⟩,Nat.le_refl _,by omega,by simp [hl,hkk],?_⟩⟩;rw [hf];exact List.take_of_length_le (by simp [hl,hkk])
theorem aj.piece {α:Type} {T:ag α} {h:Fr} {n p:Nat} {xs:List α} (z:aj T h (.slice a n c) xs) (hp:p<n):aj T h (.slice (if c=p then a else a.map (·.add (p*T.k))) (n - p) (c - p)) (xs.drop p):=by
 obtain ⟨ak,ha,ad,cap,hv,h1,h2,h3,h4⟩:=z
 injection hv with e1 e2 bY
 subst e1 e2 bY;rw [if_neg (by omega:¬ c=p)];have hcs:(ak.drop p).flatten=ak.flatten.drop (p*T.k):=(ha.zq p).symm;refine ⟨ak.drop p,ha.drop p,a.map (·.add (p*T.k)),c - p,by rw [List.length_drop],by rw [List.length_drop];omega,⟨by omega,fun h=>?_⟩,?_,?_⟩
 ·cases a with
  |none=>have:=h2.2 rfl;omega
  |some _=>cases h
 ·rw [hcs,List.length_drop,h3,List.length_drop,Nat.sub_mul]
 ·intro q hq
  rw [hcs] at hq;have tM:p*T.k+q<ak.flatten.length:=by simp only [List.length_drop] at hq;omega
  obtain ⟨p',hp',hc⟩:=h4 _ tM
  cases hp'
  refine ⟨_,rfl,?_⟩;rw [Addr.add_add];simp only [hcs,List.getElem_drop];exact hc
theorem bC.wP {K lo n:Nat} {ak ds:List (List Value)} {q:Value} (ht:P.underlying t=some (.slice e)) (he:(P.info? e).map (·.size)=some K) (hK:0<K)
  (hx:aA σ x=some (.slice (if c=lo then a else a.map (·.add (lo*K))) (n - lo) (c - lo))) (hy:aA σ y=some q) (hu:aj (ag.cells K) g.h q ds) (hs:a_ U (av (ag.cells K) e (.slice a n c) ak) ζ)
  (hn:ak.length=n) (hl:lo+ds.length≤n) (h0:0<ds.length) :
  bC P (.call ⟨.builtin .copy,#[x,y],#[t,te]⟩) σ g U fun v ax =>v=.int .i64 (ds.length:Int)∧ax =av (ag.cells K) e (.slice a n c) (ak.take lo++ds++ak.drop (lo+ds.length))::ζ:=by
 subst hn;exact bC.y7 ht he hK hx hy hu hs hl h0
theorem af.y7 {K lo m:Nat} {ak ds:List (List Value)} {q:Value} (ho:bG ops i n σ d (.call ⟨.builtin .copy,#[x,y],#[t,te]⟩)) (hd:eF ops [i] ls=true) (ht:P.underlying t=some (.slice e)) (he:(P.info? e).map (·.size)=some K) (hK:0<K)
  (hx:aA σ x=some (.slice (if c=lo then a else a.map (·.add (lo*K))) (m - lo) (c - lo))) (hy:aA σ y=some q) (hu:aj (ag.cells K) g.h q ds) (hs:a_ U (av (ag.cells K) e (.slice a m c) ak) ζ) (hn:ak.length=m) (hl:lo+ds.length≤m) (h0:0<ds.length)
  (h:af P fn n R ops k D g ls ((d,.int .i64 (ds.length:Int))::σ) (av (ag.cells K) e (.slice a m c) (ak.take lo++ds++ak.drop (lo+ds.length))::ζ)):af P fn n R ops k D g (i::ls) σ U :=
 aI.perm hs.perm (af.gd (U:=av (ag.cells K) e (.slice a m c) ak::ζ) (K:=fun v ax =>v=.int .i64 (ds.length:Int)∧ax =av (ag.cells K) e (.slice a m c) (ak.take lo++ds++ak.drop (lo+ds.length))::ζ) ho rfl hd
  (fun uG =>(bC.wP ht he hK hx hy hu a_.here hn hl h0).imp fun _ _ ⟨h1,h2⟩=>⟨_,⟨h1,rfl⟩,h2⟩) (by rintro _ _ ⟨rfl,rfl⟩;exact h))
theorem af.A8 {K lo:Nat} {ak:List (List Value)} (ho:bG ops i n σ d (.call ⟨.builtin .copy,#[x,y],#[t,te]⟩)) (hd:eF ops [i] ls=true) (ht:P.underlying t=some (.slice e)) (he:(P.info? e).map (·.size)=some K) (hlo:lo<ak.length) (hroom:ak.length+1≤c)
  (hx:aA σ x=some (.slice (if c=lo+1 then a else a.map (·.add ((lo+1)*K))) (ak.length+1 - (lo+1)) (c - (lo+1)))) (hy:aA σ y=some (.slice (if c=lo then a else a.map (·.add (lo*K))) (ak.length+1 - lo) (c - lo)))
  (hs:a_ U (av (ag.cells K) e (.slice a ak.length c) ak) ζ)
  (h:af P fn n R ops k D g ls ((d,.int .i64 ((ak.length - lo:Nat):Int))::σ) (av (ag.cells K) e (.slice a (ak.length+1) c) (ak.take (lo+1)++ak.drop lo)::ζ)):af P fn n R ops k D g (i::ls) σ U :=
 aI.perm hs.perm (af.gd (U:=av (ag.cells K) e (.slice a ak.length c) ak::ζ) (K:=fun v ax =>v=.int .i64 ((ak.length - lo:Nat):Int)∧ax =av (ag.cells K) e (.slice a (ak.length+1) c) (ak.take (lo+1)++ak.drop lo)::ζ) ho rfl hd
  (fun uG =>(bC.A8 ht he hlo hroom hx hy a_.here).imp fun _ _ ⟨h1,h2⟩=>⟨_,⟨h1,rfl⟩,h2⟩) (by rintro _ _ ⟨rfl,rfl⟩;exact h))
theorem cK.jb {fl:Bool} {cn K len:Nat} {z:List Value} {parts:Array (Nat × Operand)} {vs cs:List Value} (ho:bG ops i n σ d (.buildSlice t len parts)) (hd:ed fl ops i ls=true) (ht:P.underlying t=some (.slice e)) (he:dG P e K cn z)
  (hp:partsOf σ parts.toList 0=some vs) (hlen:parts.toList.length=len) (hvs:vs.all (fun v=>Nat.beq v.cells.size K)=true) (gy:len*K≤16777216) (hcs:cs=(vs.map (·.cells.toList)).flatten)
  (h:∀ b,af P fn n R ops k D g ls ((d,.slice (some ⟨b,0,none⟩) len len)::σ) (obj b e cs::U)):aI P fn n R ops k D g fl (i::ls) σ U :=
 cK.gd (K:=fun v ax =>∃ b,v=.slice (some ⟨b,0,none⟩) len len∧ax =obj b e cs::U) ho rfl hd (fun _=>(bC.jb ht he hp hlen hvs gy hcs).imp fun _ _ ⟨b,h1,h2⟩=>⟨_,⟨b,h1,rfl⟩,h2⟩)
  fun _ _ ⟨b,h1,h2⟩=>by subst h1;subst h2;exact h b
theorem af.jb {cn K len:Nat} {z:List Value} {parts:Array (Nat × Operand)} {vs cs:List Value} (ho:bG ops i n σ d (.buildSlice t len parts)) (hd:eF ops [i] ls=true) (ht:P.underlying t=some (.slice e)) (he:dG P e K cn z)
  (hp:partsOf σ parts.toList 0=some vs) (hlen:parts.toList.length=len) (hvs:vs.all (fun v=>Nat.beq v.cells.size K)=true) (gy:len*K≤16777216) (hcs:cs=(vs.map (·.cells.toList)).flatten)
  (h:∀ b,af P fn n R ops k D g ls ((d,.slice (some ⟨b,0,none⟩) len len)::σ) (obj b e cs::U)):af P fn n R ops k D g (i::ls) σ U:=cK.jb (fl:=false) ho (by simpa [ed] using hd) ht he hp hlen hvs gy hcs h
theorem bO.jb {cn K len:Nat} {z:List Value} {parts:Array (Nat × Operand)} {vs cs:List Value} (ho:bG ops i n σ d (.buildSlice t len parts)) (_:true=true) (ht:P.underlying t=some (.slice e)) (he:dG P e K cn z)
  (hp:partsOf σ parts.toList 0=some vs) (hlen:parts.toList.length=len) (hvs:vs.all (fun v=>Nat.beq v.cells.size K)=true) (gy:len*K≤16777216) (hcs:cs=(vs.map (·.cells.toList)).flatten)
  (h:∀ b,af P fn n R ops k D g ls ((d,.slice (some ⟨b,0,none⟩) len len)::σ) (obj b e cs::U)):aI P fn n R ops k D g true (i::ls) σ U:=cK.jb (fl:=true) ho rfl ht he hp hlen hvs gy hcs h
end
end Go.Sp
end
section
/- Texts of this proof, one behind the other. -/
section
/- Texts of this proof. -/
namespace Go.Sp
variable {K:Type} [DecidableEq K] {enc:K→Value}
section
variable {ro:Option Nat} {P:Program} {fn:Func} {n:Nat} {R:Ending→World→Prop} {k:List Item} {σ:List (Nat × Value)} {D:List Deferred} {g:bk} {U ζ aO:List az} {ops:Array Oper} {i d:Nat} {ls:List Nat}
 {t tk te:TypeId} {x y z:Operand} {b c:Nat} {l:List (cg K)} {key:K} {w:World}
omit [DecidableEq K] in
theorem O.Tq {M done todo:List (cg K)} {it:Nat} (ho:bG ops i n σ d (.next x false)) (hx:aA σ x=some (.pointer (some ⟨it,0,none⟩))) (QW:gL M c) (hp:M.Perm (done++todo)) (hwf:gL l c) (PE:∀ x∈l,x∈M) (jF:∀ x∈todo,x∈l) (s1:a_ U (jy it b c done) ζ) (s2:a_ ζ (ck enc b l c) aO)
  (h0:todo=[]→O ro P fn n R ops ls k ((d,.tuple #[.bool false])::σ) D g (jy it b c done::ck enc b l c::aO))
  (h1:∀ x t1 t2,todo=t1++x::t2→O ro P fn n R ops ls k ((d,.tuple #[.bool true,enc (x.1),x.2.1])::σ) D g (jy it b c (done++[x])::ck enc b l c::aO)):O ro P fn n R ops (i::ls) k σ D g U:=by
 intro a w hf hd hw
 obtain ⟨o,hi,eB,hop,hg,hb⟩:=ho.spec;have hw1:Holds w g (jy it b c done::ck enc b l c::aO):=(hw.cr s1).imp fun _ h=>Sat.fk (fun _ y=>y) (fun _ y=>Sat.perm s2.perm y) h;have hr:=Holds.block hw1;have hm:=ck.block (hw1.cr (.there .here));have dy:((done++todo).map (·.2.2)).Nodup:=(hp.map _).nodup_iff.1 QW.1;rw [List.map_append,List.nodup_append] at dy;have hold:∀ x∈(fc enc l).toList,x.born<c:=fun e he=>by
  simp only [fc,List.mem_map] at he;obtain ⟨y,hy,rfl⟩:=he;exact hwf.2.1 y hy
 rcases run_next_at (P:=P) (ty:=o.type) hr hm hold (Nat.le_refl _) with ⟨hz,hrun⟩|⟨e,he,m,hmn,hrun⟩
 ·have En:todo=[]:=by
   cases todo with
   |nil=>rfl
   |cons y ys =>
    have oq:y∈l:=jF y (by simp);have:h_ enc y∈(leftOf (fc enc l) (done.map (·.2.2)).toArray).toList:=An.2 ⟨y,oq,rfl,fun h=>dy.2.2 _ h _ (by simp) rfl⟩;rw [Array.eq_empty_of_size_eq_zero hz] at this
    cases this
  have pH :(execOp a.eval o).run P w=.ok (.value (.tuple #[.bool false])) w:=by simp [execOp,hop,hf.kn x _ hx,hrun]
  refine O.mJ hi (hg a hf) (vM pH) pH ?_;rw [Oper.uponIn_value,eB];exact h0 En _ _ (hf.put hb) hd hw1
 ·obtain ⟨y,hy,rfl,qP⟩:=An.1 he
  have Eu:y∈todo:=by
   rcases List.mem_append.1 (hp.mem_iff.1 (PE y hy)) with h|h
   ·exact absurd (List.mem_map.2 ⟨y,h,rfl⟩) qP
   ·exact h
  obtain ⟨t1,t2,Eo⟩:=List.append_of_mem Eu;have pH :(execOp a.eval o).run P w=.ok (.value (.tuple #[.bool true,enc (y.1),y.2.1])) (({ w with drawn:=m }:World).putObj it (.mapIter (some b) c ((done.map (·.2.2)).toArray.push y.2.2) c)):=by
   simp [execOp,hop,hf.kn x _ hx,hrun,h_]
  refine O.mJ hi (hg a hf) (vM pH) pH ?_;rw [Oper.uponIn_value,eB];have qV:=(hw1.drewN m hmn).putObj (.mapIter (some b) c ((done.map (·.2.2)).toArray.push y.2.2) c);have Dz:jy it b c (done++[y])=blk it (.mapIter (some b) c ((done.map (·.2.2)).toArray.push y.2.2) c):=by simp [jy]
  rw [← Dz] at qV;exact h1 y t1 t2 Eo _ _ (hf.put hb) hd qV
theorem aF.SY (ht:P.underlying t=some (.map tk te)) (hx:aA σ x=some (.map (some b))) (hs:a_ U (ck enc b l c) ζ):aF P (.call ⟨.builtin .len,#[x],#[t]⟩) σ g U (.int .i64 (l.length:Int)) U:=fun o ρ w ho hk hw=>⟨w,by
 have hb:=ck.block (hw.cr hs)
 simp [execOp,ho,hk x _ hx,resolve,invoke,builtin,Builtin.len_,run_underlying ht,MapKept.run_getObj_map hb,fc,goInt],hw⟩
end
theorem Tx {l:List (cg K)} (h:(l.map (·.1)).Nodup) {x y:cg K} (hx:x∈l) (hy:y∈l) (e:x.1=y.1):x=y:=by
 obtain ⟨i,hi,rfl⟩:=List.getElem_of_mem hx;obtain ⟨j,hj,rfl⟩:=List.getElem_of_mem hy;have:=(List.getElem_inj (i:=i) (j:=j) (h₀:=by simpa using hi) (h₁:=by simpa using hj) h).1 (by simpa using e);subst this;rfl
structure nj {K:Type} [DecidableEq K] (M:List (cg K)) (q:K→Bool) (c:Nat) (done todo l:List (cg K)):Prop where
 uy:gL M c
 hp:M.Perm (done++todo)
 wf:gL l c
 sub:∀ x∈l,x∈M
 left:∀ x∈todo,x∈l
 out:∀ x∈l,x∈done→q x.1=false
theorem nj.start {M:List (cg K)} {q:K→Bool} {c:Nat} (h:gL M c):nj M q c [] M M:=⟨h,List.Perm.refl _,h,fun _ h=>h,fun _ h=>h,fun _ _ h=>by cases h⟩
theorem nj.keep {M:List (cg K)} {q:K→Bool} {c:Nat} {done t1 t2 l:List (cg K)} {x:cg K} (h:nj M q c done (t1++x::t2) l) (hq:q x.1=false):nj M q c (done++[x]) (t1++t2) l where
 uy:=h.uy
 hp:=h.hp.trans (by rw [List.append_assoc];exact List.Perm.append_left _ List.perm_middle)
 wf:=h.wf
 sub:=h.sub
 left:=fun y hy=>h.left y (by rcases List.mem_append.1 hy with e|e<;>simp [e])
 out:=fun y hy hd=>by
  rcases List.mem_append.1 hd with e|e
  ·exact h.out y hy e
  ·rw [List.mem_singleton.1 e];exact hq
theorem nj.drop {M:List (cg K)} {q:K→Bool} {c:Nat} {done t1 t2 l:List (cg K)} {x:cg K} (h:nj M q c done (t1++x::t2) l):nj M q c (done++[x]) (t1++t2) (gX l x.1) where
 uy:=h.uy
 hp:=h.hp.trans (by rw [List.append_assoc];exact List.Perm.append_left _ List.perm_middle)
 wf:=Cm h.wf x.1
 sub:=fun y hy=>h.sub y ((s0 x.1 l).subset hy)
 left:=fun y hy=>by
  have oq:y∈l:=h.left y (by rcases List.mem_append.1 hy with e|e<;>simp [e]);have Zt:x∈M:=h.hp.mem_iff.2 (by simp);have hne:y.1≠x.1:=fun e=>by
   have dy:((done++(t1++x::t2)).map (·.1)).Nodup:=(h.hp.map _).nodup_iff.1 h.uy.2.2;have:(x::(done++(t1++t2))).map (·.1) |>.Nodup:=by
    refine (List.Perm.map _ ?_).nodup_iff.1 dy;rw [← List.append_assoc,← List.append_assoc];exact List.perm_middle
   rw [List.map_cons,List.nodup_cons] at this;exact this.1 (List.mem_map.2 ⟨y,by rcases List.mem_append.1 hy with q|q<;>simp [q],e⟩)
  have h1:=vk h.wf.2.2 oq;have h2:cE (gX l x.1) y.1=some y.2.1:=by rw [CJ h.wf.2.2,if_neg hne,h1]
  obtain ⟨n,hn⟩:=CK h2;have e:=Tx h.wf.2.2 oq ((s0 x.1 l).subset hn) rfl;rw [e];exact hn
 out:=fun y hy hd=>by
  rcases List.mem_append.1 hd with e|e
  ·exact h.out y ((s0 x.1 l).subset hy) e
  ·rw [List.mem_singleton.1 e] at hy
   have h2:=vk (Cm h.wf x.1).2.2 hy;rw [CJ h.wf.2.2,if_pos rfl] at h2
   cases h2
theorem nj.done {M:List (cg K)} {q:K→Bool} {c:Nat} {done l:List (cg K)} (h:nj M q c done [] l):∀ p v,cE l p=some v→cE M p=some v∧q p=false:=fun p v e=>by
 obtain ⟨n,hn⟩:=CK e;have vn:=h.sub _ hn;refine ⟨vk h.uy.2.2 vn,h.out _ hn ?_⟩;have:=h.hp.mem_iff.1 vn
 rwa [List.append_nil] at this
end Go.Sp
end
section
/- Texts of this proof, one behind the other. -/
section
/- Texts of this proof. -/
open Go
namespace Go.Sp
attribute [local irreducible] bZ
abbrev bP.pT {d:Fr} {dM:List aG} (aO:eX) (b s:Nat) (x:bP d dM) (L:List aG):List az :=
 [jK x.k,obj b aO.tree [x.c8,x.c9,.int .i64 (s:Int),.map (some x.mid)],av (ag.ga d x.k bW) aO.leaf x.c8 L,av ag.str aO.str x.c9 (L.map fun y=>bS y.1),ck encS x.mid x.M x.c]
def fh (aO:eX) (d:Fr) (b s:Nat) (L dM:List aG):az:=fun m=>∃ x:bP d dM,Sat (x.pT aO b s L) m
theorem bl.z {aO:eX} {d:Fr} {b s:Nat} {L:List aG} {m:Fr}:bl aO d b s L m→fh aO d b s L L m:=fun h=>bl.jq h
theorem fh.jq {aO:eX} {d:Fr} {b s:Nat} {L dM:List aG} {m:Fr}:fh aO d b s L dM m→∃ x:bP d dM,Sat (x.pT aO b s L) m:=fun h=>h
def bP.up {d:Fr} {dM:List aG} (x:bP d dM) (k:Fr) (h:x.k.sub k):bP d dM:=⟨k,x.c8,x.c9,x.mid,x.M,x.c,x.wf,x.ok.mono h⟩
theorem fh.with {aO:eX} {dB:rz} {d:Fr} {b s:Nat} {L dM:List aG} {e:TypeId} {v:Value} {xs:List aP} {m:Fr} (h:Sat [fh aO d b s L dM,cH (ef dB) e v xs] m) :
  ∃ x:{x:bP d dM // ∃ q,j3 q d x.k∧aj cq q v xs},Sat (x.1.pT aO b s L) m:=by
 obtain ⟨m1,m2,d1,s1,s2,⟨x,n1,r1,d2,t1,t2,o1,hs⟩,m3,_,_,t3,_,o2,_⟩:=h;have e1:n1=x.k:=o1;have d13:n1.cR m3:=fun i=>(d1 i).imp (fun q=>by
  cases c:n1 i with
  |none=>rfl
  |some o=>rw [t1 i o c] at q;cases q) (fun q=>by
  cases c:m3 i with
  |none=>rfl
  |some o=>rw [t3 i o c] at q;cases q)
 have Cr:(n1.add m3).cR r1:=Fr.p4 d2 (fun i=>(d1 i).symm.imp (fun q=>by
  cases c:m3 i with
  |none=>rfl
  |some o=>rw [t3 i o c] at q;cases q) (fun q=>by
  cases c:r1 i with
  |none=>rfl
  |some o=>rw [t2 i o c] at q;cases q))
 have hk:x.k.sub (n1.add m3):=e1 ▸ Fr.de n1 m3;have sm:(n1.add m3).sub m:=Fr.iw (Fr.aH t1 s1) (Fr.aH t3 s2);refine ⟨⟨x.up (n1.add m3) hk,n1.add m3,j3.own _ _,(cH.arr o2).mono (Fr.dL d13)⟩,n1.add m3,r1,Cr,sm,Fr.aH t2 s1,rfl,?_⟩;obtain ⟨a1,a2,da,sa,sb,q1,b1,b2,db,sc,sd,q2,cF⟩:=hs;exact ⟨a1,a2,da,sa,sb,q1,b1,b2,db,sc,sd,q2.ze hk,cF⟩
theorem SQ {d k:Fr} {key:List UInt8} {v:Value} {xs:List aP} (hk:key.length≤9223372036854775807):(∃ q,j3 q d k∧aj cq q v xs)→(ag.ga d k bW).rel Fr.emp [.string (str key),v] (key,xs,())
 |⟨q,c,a⟩=>⟨q,c,bW.mk hk a⟩
theorem bP.seen {aO:eX} {d g:Fr} {b s:Nat} {L dM:List aG} {m:Fr} (x:bP d dM) (hd:d.sub g) (hm:g.cR m):Sat (x.pT aO b s L) m→kC (g.add m) b s L:=fun ⟨n1,r1,_,t1,t2,o1,hs⟩=>by
 have e1:n1=x.k:=o1;obtain ⟨m2,_,_,s2,Ld,o,m3,_,_,s3,t3,sG,m4,_,_,pO,_,wg,_⟩:=hs;have g1:m.sub (g.add m):=Fr.dL hm;have h1:m2.sub m:=Fr.aH s2 t2;have h2:m3.sub m:=Fr.aH s3 (Fr.aH Ld t2);have h3:m4.sub m:=Fr.aH pO (Fr.aH t3 (Fr.aH Ld t2));obtain ⟨cO,cQ,hL⟩:=sG.shape;obtain ⟨cz,cA,hw⟩:=wg.shape;rw [List.length_map] at hw;rw [hL] at o sG;rw [hw] at o wg;have PB:x.k.sub (g.add m):=e1 ▸ Fr.aH t1 g1;exact ⟨cO,cQ,cz,cA,x.mid,((gf o).mono h1).mono g1,((sG.arr.mono h2).mono g1).zf (Fr.aH hd (Fr.de _ _)) PB,(wg.arr.mono h3).mono g1⟩
def bP.with {d:Fr} {dM:List aG} (x:bP d dM) (c8 c9:Value):bP d dM:=⟨x.k,c8,c9,x.mid,x.M,x.c,x.wf,x.ok⟩
theorem iN.thin {d k:Fr} {L:List aG} {y:aG} {M done l:List (cg (List UInt8))} {c:Nat} (h:iN d k L M) (hr:eC L) (ht:nj M (fun p=>p.isPrefixOf (bS y.1)) c done [] l):iN d k (gQ L y) l:=fun p v e=>by
 obtain ⟨h1,h2⟩:=ht.done p v e;obtain ⟨q1,q2⟩:=h p v h1;refine ⟨q1,?_⟩;rw [WT (Xr (p:=p) hr h2)];exact q2
theorem Ul (L:List aG) (y:aG):(gQ L y).length≤L.length+1:=by
 unfold gQ;have h:(L.filter fun z=>decide (z.1<y.1)).length+(L.filter fun z=>decide (y.1<z.1)).length≤L.length:=by
  rw [← List.countP_eq_length_filter,← List.countP_eq_length_filter,List.length_eq_countP_add_countP (fun z:aG=>decide (z.1<y.1)) (l:=L)];refine Nat.add_le_add_left (List.countP_mono_left fun z _ q=>?_) _;simp only [decide_eq_true_eq] at q ⊢;exact fun k=>List.lt_irrefl _ (List.lt_trans q (of_decide_eq_true (by simpa using k)))
 simp only [List.length_append]
 split
 ·simp only [List.length_nil];omega
 ·simp only [List.length_singleton];omega
theorem Um {L:List aG} {y:aG} {N:Nat} (h:∀ z∈L,z.2.1.length≤N) (hy:y.2.1.length≤N):∀ z∈gQ L y,z.2.1.length≤N:=fun z hz=>by
 rcases EM.1 hz with ⟨q,_⟩|⟨rfl,_⟩
 ·exact h z q
 ·exact hy
theorem ix {α:Type} {R:List Value→α→Prop} {ak:List (List Value)} {xs:List α} {c:List Value} {x:α} (i:Nat) (h:bV R ak xs) (hc:R c x):bV R (ak.take i++[c]++ak.drop i) (xs.take i++[x]++xs.drop i):=((h.take i).append (show bV R [c] [x] from ⟨hc,trivial⟩)).append (h.drop i)
theorem uU {α:Type} {R:List Value→α→Prop} {ak:List (List Value)} {xs:List α} (i:Nat) (h:bV R ak xs):bV R (ak.eraseIdx i) (xs.eraseIdx i):=by
 rw [erase_eq,erase_eq];exact (h.take i).append (h.drop (i+1))
abbrev bP.wc {d:Fr} {dM:List aG} (aO:eX) (b s:Nat) (x:bP d dM) (c8 c9:Value) (ak cM:List (List Value)):List az :=
 [jK x.k,obj b aO.tree [c8,c9,.int .i64 (s:Int),.map (some x.mid)],av (ag.cells 2) aO.leaf c8 ak,av (ag.cells 1) aO.str c9 cM,ck encS x.mid x.M x.c]
theorem bP.rows {aO:eX} {d:Fr} {b s:Nat} {L dM:List aG} {m:Fr} (x:bP d dM) {c8 c9:Value} {ak cM:List (List Value)} (h1:bV ((ag.ga d x.k bW).rel Fr.emp) ak L) (h2:bV (ag.str.rel Fr.emp) cM (L.map fun y=>bS y.1)) :
  Sat (x.wc aO b s c8 c9 ak cM) m→fh aO d b s L dM m
 |⟨a1,a2,da,sa,sb,q1,b1,b2,db,sc,sd,q2,c1,c2,Ny,se,sf,cF,e1,e2,Nz,Wf,sh,nP,ud⟩ =>
  ⟨x.with c8 c9,a1,a2,da,sa,sb,q1,b1,b2,db,sc,sd,q2,c1,c2,Ny,se,sf,av.kO rfl h1 cF,e1,e2,Nz,Wf,sh,av.kO rfl h2 nP,ud⟩
end Go.Sp
end
section
/- Texts of this proof. -/
open Go
namespace Go.Sp
section
variable {P:Program} {σ:List (Nat × Value)} {g:bk} {U ζ:List az}
theorem VC {xs ys:List UInt8} {w:World}:(Extern.BytealgCompare.compare #[.string (str xs),.string (str ys)]).run P w=.ok (.int .i64 (Lib.compareBytes xs ys)) w:=by
 change Sem.run P (do pure (goInt (Extern.BytealgCompare.cmp (← Extern.Bytes.bytesOf (.string (str xs))) (← Extern.Bytes.bytesOf (.string (str ys)))))) w=_
 simp only [Extern.Bytes.bytesOf,Sem.run_bind,Sem.run_pure,Result.andThen];rw [Lib.cmp_eq]
 rfl
theorem aF.M6 {f : FuncId} {fn : Func} {x y z : Operand} {ts : Array TypeId} {xs ys : List UInt8} (hf : P.funcs[f]? = some fn) (h1 : (fn.name == "runtime.NumGoroutine") = false) (h2 : fn.body.isNone = true) (h3 : Extern.findNext fn = none) (h4 : Extern.find fn = some Extern.BytealgCompare.compare)
  (hx:aA σ x=some (.func (.func f) #[] #[])) (hy:aA σ y=some (.string (str xs))) (hz:aA σ z=some (.string (str ys))):aF P (.call ⟨.value x,#[y,z],ts⟩) σ g U (.int .i64 (Lib.compareBytes xs ys)) U:=by
 intro o ρ w ho hk hw
 refine ⟨w,?_,hw⟩;have e1:=run_callFunc_extern (P:=P) hf h1 h2 h3 h4 #[.string (str xs),.string (str ys)] w;rw [VC] at e1;simp only [Result.andThen] at e1
 simp [execOp,ho,resolve,hk x _ hx,hk y _ hy,hk z _ hz,Deferred.ofValue,invoke,e1]
theorem bC.Nk {t te e T:TypeId} {x y:Operand} {b n c m:Nat} {u:Value} {cs:List Value} {xs:List UInt8} (ht:P.underlying t=some (.slice e)) (he:(P.info? e).map (·.size)=some 1) (hx:aA σ x=some (.slice (some ⟨b,0,none⟩) n c)) (hy:aA σ y=some u) (hu:aj ag.u8 g.h u xs)
  (hs:a_ U (obj b T cs) ζ) (hm:m=xs.length) (h1:m≤n) (h2:m≤cs.length) (h0:0<m) :
  bC P (.call ⟨.builtin .copy,#[x,y],#[t,te]⟩) σ g U fun v ax =>v=.int .i64 (m:Int)∧ax =obj b T (xs.map bD++cs.drop m)::ζ :=
 fun o ρ w ho hk hw=>by
  subst hm;have hw1:=hw.cr hs;obtain ⟨ak,ha,Mj,Cl,rfl,c1,c2,c3,gV⟩:=hu;have hfl:ak.flatten=xs.map bD:=by
   clear c3 gV hy h0 h1 h2 c1
   induction ak generalizing xs with
   |nil=>cases xs with|nil=>rfl|cons _ _=>exact ha.elim
   |cons c ak ih =>
    cases xs with
    |nil=>exact ha.elim
    |cons x xs =>
     obtain ⟨a1,a2⟩:=ha;have a1:c=[bD x]:=a1;rw [List.flatten_cons,ih a2,a1];rfl
  rw [hfl] at c3 gV;have hl:(xs.map bD).length=xs.length:=List.length_map ..;obtain ⟨ad,had,_⟩:=gV 0 (by omega);subst had;have hnews:∀ ja v,(xs.map bD)[ja]?=some v→w.cell? (ad.add ja)=some v:=fun ja v hv=>by
   obtain ⟨hjl,rfl⟩:=List.getElem?_eq_some_iff.1 hv;obtain ⟨p,hp,hc⟩:=gV ja hjl
   cases hp
   exact Fr.qB hw.ground hc
  have hf:=run_firstCells_some (P:=P) w 1 xs.length ad xs.length Cl (xs.map bD) (by omega) hnews;have hst:=run_storeCells_at P b 0 T (xs.map bD) 0 cs.toArray w hw1.block (by simp;omega) (by
   intro v hv
   obtain ⟨_,_,rfl⟩:=List.mem_map.1 hv;rfl)
  simp only [Nat.add_zero,Nat.zero_add,List.take_zero,List.nil_append,hl] at hst;have hmin:Nat.min xs.length n=xs.length:=Nat.min_eq_left h1;refine ⟨_,w.setRow b (xs.map bD++cs.drop xs.length).toArray,_,⟨rfl,rfl⟩,?_,hw1.setRow⟩
  simp [execOp,ho,hk x _ hx,hk y _ hy,resolve,invoke,builtin,Builtin.copy_,run_underlying ht,Builtin.lenOf,run_sizeOf he,hmin,hf,hst,goInt]
end
theorem Hj {a b:List UInt8}:Lib.compareBytes a b<0↔a<b:=Ce
theorem Nb {a b:List UInt8}:Lib.compareBytes a b=0↔a=b:=Hi
end Go.Sp
end
end
end
