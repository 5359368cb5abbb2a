/- Texts of this proof. -/
import Derived.Test.YtojafegjlahajaaGreatDoorQSpJoin
set_option linter.unusedSectionVars false
namespace Go.Sp
open Go.Proofs
variable {P:Program} {g:bn} {U ζ:List az}
theorem Holds.OP {w:World} (h:Holds w g U):g.h.sub w.rR.h:=let ⟨_,_,s,_⟩:=h.2.2.2;s
section
variable {α:Type} {enc:α→List Value} {k:Nat}
theorem W8 [Inhabited α] {f f2:FuncId} {e:TypeId} {r:Fr} {a:Option Addr} {c:Nat} {l:List α} (hk:∀ x,(enc x).length=k) (h0:0<k) (h1:∀ x,∀ v∈enc x,v.oneCell' =true) (cf:α→α→Int)
  (hC:∀ x y,ay P f2 #[.agg (enc x).toArray,.agg (enc y).toArray] r [] (aL fun v U=>v=.int .i64 (cf x y)∧U=[]))
  (hs:∀ (blk off cap:Nat) (d:Array α) (w:World),CmpLays P f2 #[] enc k cf blk off d.size w→Sort.HoldsK enc k w blk off d→blk<w.heap.size→d.size<4611686018427387904 →
   Calls P f #[.slice (some ⟨blk,off,none⟩) d.size cap,.func (.func f2) #[] #[]] w fun e w' =>e=.returned (.tuple #[])∧∃ d' n os,Sort.PermIn 0 d.size d d' ∧Sort.SortedIn (ltOf cf) 0 d.size d' ∧w' =sortWorldK enc k w blk off n d' os)
  (hl0:0<l.length) (hl:l.length<4611686018427387904) :
  ay P f #[.slice a l.length c,.func (.func f2) #[] #[]] r [av (ag.cells k) e (.slice a l.length c) (l.map enc)] (aL fun v U=>v=.tuple #[]∧∃ l' :List α,l'.Perm l∧List.Pairwise (fun x y=>ltOf cf y x=false) l' ∧U=[av (ag.cells k) e (.slice a l.length c) (l'.map enc)]):=by
 intro g hg w hw
 obtain ⟨b,cap,cur,ak,hv,kV,ix,e7,hb4,ha,fz,hfz,hb⟩:=hw.oD (by simp;omega);have hcs:=GS ha;subst hcs
 injection hv with e1 e2 ck
 subst e1 ck;have hkk:(ag.cells k).k=k:=rfl;rw [List.length_map,hkk] at hb4;rw [hkk] at e7;have lz:=hb.block;have PV:=H_ hk h0 l;have IY:(Sort.flatK enc k l.toArray).size=l.length*k:=by simp
 have hle:l.length*k≤cur.size:=by
  rw [e7];rw [List.length_map] at kV;exact Nat.mul_le_mul_right k kV
 have tJ:∀ j (hj:j<l.length*k),cur[j]?=some (Sort.flatK enc k l.toArray)[j]! :=fun j hj=>by
  have h5:(cur.toList.take (l.length*k))[j]?=(Sort.flatK enc k l.toArray).toList[j]?:=by rw [hb4,PV]
  rw [List.getElem?_take,if_pos hj] at h5;rw [getElem!_pos _ j (by rw [IY];exact hj)]
  simpa [hj] using h5
 have hlt:b<w.heap.size:=(Array.getElem?_eq_some_iff.1 lz).1;have hH:Sort.HoldsK enc k w b 0 l.toArray:=fun j hj=>by
  have hj' :j<l.length*k:=by rw [IY] at hj;exact hj
  refine ⟨?_,?_⟩
  ·simp only [World.cell?,lz,Nat.zero_add]
   simpa using tJ j hj'
  ·have:=hfz j (by rw [hkk,← e7];omega)
   simp only [World.frozen?,lz,Nat.zero_add]
   simpa using this
 have key:∀ (m:Nat) (os:Array Obj) (dk:List α),dk.length=l.length→Holds (sortWorldK enc k w b 0 m dk.toArray os) g [av (ag.cells k) e (.slice (some ⟨b,0,none⟩) l.length c) (dk.map enc)]:=fun m os dk fI=>by
  refine Holds.grow ?_ os;have IX:=H_ hk h0 dk;have DN:(Sort.flatK enc k dk.toArray).size=l.length*k:=by simp [fI]
  generalize hF:Sort.flatK enc k dk.toArray=F at IX DN;have Ep:Sort.putRowK enc k (Sort.ahead w m) b 0 dk.toArray=Sort.putRow id (Sort.ahead w m) b 0 F:=by rw [← hF];rfl
  rw [Ep];have hmod:(Sort.putRow id (Sort.ahead w m) b 0 F).heap[b]?=some (.cells (Sort.putCells id 0 F cur) e fz):=by
   simp [Sort.putRow,Sort.mapBlock,Sort.ahead,Array.getElem?_modify,lz,Sort.onCells]
  have hh:=hb.setBlock (w' :=Sort.putRow id (Sort.ahead w m) b 0 F) hmod (fun i hi=>by
   have:b≠i:=fun q=>hi q.symm
   simp [Sort.putRow,Sort.mapBlock,Sort.ahead,Array.getElem?_modify,this]) rfl rfl rfl (Nat.le_add_right _ _)
  refine hh.imp fun m x=>Sat.fk (fun m' y=>?_) (fun _ z=>z) x;refine ⟨dk.map enc,Hs hk h1 _,?_,.inr ⟨b,c,Sort.putCells id 0 F cur,by rw [List.length_map,fI],⟨fz,y,hfz⟩,by rw [List.length_map,fI];simpa using kV,ix,?_,?_⟩⟩
  ·rw [CU hk,List.length_map,hkk]
  ·rw [hkk];simp [Sort.putCells,e7]
  ·rw [List.length_map,hkk,fI]
   apply List.ext_getElem?
   intro j
   rw [List.getElem?_take,← IX]
   by_cases hj:j<l.length*k
   ·have zX:j<cur.size:=by omega
    rw [if_pos hj]
    simp [Sort.putCells,zX,DN,hj]
   ·rw [if_neg hj,List.getElem?_eq_none (by simp [DN];omega)]
 have hcmp:CmpLays P f2 #[] enc k cf b 0 l.toArray.size w:=fun m os dk hdk x y=>by
  have hh:=key m os dk.toList (by simpa using hdk);rw [Array.toArray_toList] at hh;have:=hC x y (sortWorldK enc k w b 0 m dk os).rR (Fr.aI hg hh.OP) _ (Holds.Kw _);simp only [Array.append_empty];exact this.mono fun e' w' ⟨ax,hp,hh⟩=>by
   cases e' with
   |returned v=>obtain ⟨rfl,rfl⟩:=hp;exact ⟨rfl,hh.grown⟩
   |panicked _=>exact hp.elim
   |outgrown=>exact hp.elim
 refine (hs b 0 c l.toArray w hcmp hH hlt (by simpa using hl)).mono fun e' w' ⟨he,d',n,os,hp,cN,hw'⟩=>?_;subst he hw';obtain ⟨hsz,_,Ae⟩:=hp;have e1:d'.extract 0 l.toArray.size=d' :=by rw [← hsz];exact Array.extract_size
 rw [e1,Array.extract_size] at Ae;have hk2:=key n os d'.toList (by simpa using hsz);rw [Array.toArray_toList] at hk2;refine ⟨_,⟨rfl,d'.toList,by simpa using Ae,?_,rfl⟩,hk2⟩;rw [List.pairwise_iff_getElem]
 intro i j hi hj hij
 have hi' :i<d'.size:=by simpa using hi
 have hj' :j<d'.size:=by simpa using hj
 have:=cN i j (Nat.zero_le _) hij (by omega);rw [getElem!_pos d' j hj',getElem!_pos d' i hi'] at this
 simpa using this
theorem W9 {f f2:FuncId} {e:TypeId} {r:Fr} {a:Option Addr} {c:Nat} (hz:∀ (p:Option Addr) (cap:Nat) (fv:Value) (w:World),Calls P f #[.slice p 0 cap,fv] w fun e w' =>e=.returned (.tuple #[])∧w' =w) :
  ay P f #[.slice a 0 c,.func (.func f2) #[] #[]] r [av (ag.cells k) e (.slice a 0 c) []] (aL fun v U=>v=.tuple #[]∧U=[av (ag.cells k) e (.slice a 0 c) []]):=by
 intro g hg w hw
 exact (hz a c _ w).mono fun e' w' ⟨h1,h2⟩=>by subst h1 h2;exact ⟨_,⟨rfl,rfl⟩,hw⟩
end
section
variable {α:Type} {T:ag α} {σ:List (Nat × Value)} {t e:TypeId} {x y:Operand}
theorem aj.from {h:Fr} {a:Addr} {m c p:Nat} {xs:List α} (z:aj T h (.slice (some a) m c) xs) (hp:p≤m):aj T h (.slice (some (a.add (p*T.k))) (m - p) (c - p)) (xs.drop p):=by
 obtain ⟨ak,ha,ad,cap,hv,h1,h2,h3,h4⟩:=z
 injection hv with e1 e2 ck
 subst e1 e2 ck;have hcs:(ak.drop p).flatten=ak.flatten.drop (p*T.k):=(ha.zA p).symm;refine ⟨ak.drop p,ha.drop p,some (a.add (p*T.k)),c - p,by rw [List.length_drop],by rw [List.length_drop];omega,⟨by omega,fun h=>by cases h⟩,?_,?_⟩
 ·rw [hcs,List.length_drop,h3,List.length_drop,Nat.sub_mul]
 ·intro q hq
  rw [hcs] at hq;have tV:p*T.k+q<ak.flatten.length:=by simp only [List.length_drop] at hq;omega
  obtain ⟨p',hp',hc⟩:=h4 _ tV
  cases hp'
  refine ⟨_,rfl,?_⟩;rw [Addr.add_add,hc]
  simp [hcs]
theorem aj.at {h:Fr} {K b m c j:Nat} {ak:List (List Value)} (z:aj (ag.cells K) h (.slice (some ⟨b,0,none⟩) m c) ak) (hj:j<ak.length):At h ⟨b,j*K,none⟩ ak[j]∧ak[j].length=K:=by
 obtain ⟨ds,ha,ad,cap,hv,h1,h2,h3,h4⟩:=z
 injection hv with e1 e2 ck
 subst e1;have hds:=wC ha;subst hds;refine ⟨fun q hq=>?_,(ag.cells K).len (ha.get j hj hj)⟩;have hfg:=ha.tj j hj;have hl:ds[j].length=K:=(ag.cells K).len (ha.get j hj hj);have xF :j*K+q<ds.flatten.length:=by
  have:(ds.flatten.drop (j*(ag.cells K).k)).length≥ds[j].length:=by rw [← hfg,List.length_take];omega
  rw [List.length_drop] at this
  show j*(ag.cells K).k+q<_
  omega
 obtain ⟨p,hp,hc⟩:=h4 _ xF
 cases hp
 have e:(⟨b,j*K,none⟩:Addr)=(⟨b,0,none⟩:Addr).add (j*K):=by rw [add_lit];simp
 rw [e,Addr.add_add,hc]
 congr 1
 have:ds[j][q]=((ds.flatten.drop (j*(ag.cells K).k)).take (ag.cells K).k)[q]'(by rw [hfg];exact hq):=by simp only [hfg]
 rw [this,List.getElem_take,List.getElem_drop]
 rfl
theorem aG.Se {K b m c p j:Nat} {kd:IntKind} (ht:P.underlying t=some (.slice e)) (he:(P.info? e).map (·.size)=some K) (hx:aA σ x=some (.slice (some ((⟨b,0,none⟩:Addr).add (p*K))) m c)) {cq:Int} (hy:aA σ y=some (.int kd cq)) (dZ:cq=(j:Int)) (hj:j<m) :
  aG P (.indexAddr t x y) σ g U (.pointer (some ⟨b,(p+j)*K,none⟩)) U:=.run fun o ρ w ho hk=>by
 subst dZ;have e1:((⟨b,0,none⟩:Addr).add (p*K)).add (j*K)=⟨b,(p+j)*K,none⟩:=by rw [Addr.add_add,add_lit,Nat.add_mul];simp
 simp [execOp,ho,hk x _ hx,hk y _ hy,Instr.indexAt,asIntOf,run_underlying ht,hj,run_sizeOf he,e1]
theorem aG.TC {K b m c j:Nat} {ak:List (List Value)} (ht:∀ w,(isAgg t).run P w=.ok true w) (hsz:(P.info? t).map (·.size)=some K) (hx:aA σ x=some (.pointer (some ⟨b,j*K,none⟩))) (hs:bg U (av (ag.cells K) e (.slice (some ⟨b,0,none⟩) m c) ak) ζ) (hj:j<ak.length) :
  aG P (.load t x) σ g U (.agg ak[j].toArray) U:=fun o ρ w ho hk hw=>by
 obtain ⟨f,hm,hd,hw'⟩:=(hw.cB hs).freeze;obtain ⟨h1,h2⟩:=(hm.arr.mono (Fr.dB hd)).at hj;obtain ⟨w',a,b⟩:=aG.bE (g:=g.add f) ht (by rw [h2];exact hsz) hx h1 o ρ w ho hk hw';exact ⟨w',a,(b.oH hm hd).perm hs.perm.symm⟩
end
end Go.Sp
