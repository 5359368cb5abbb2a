/- Texts of this proof. -/
import Derived.Test.YtojafegjlahajaaGreatDoorQSpJoin
set_option linter.unusedSectionVars false
namespace Go.Sp
open Go.Proofs
variable {P:Program} {g:Gr} {η ζ:List SProp}
theorem Holds.gsub {w:World} (h:Holds w g η):g.h.sub w.gr.h:=let ⟨_,_,s,_⟩:=h.2.2.2;s
section
variable {α:Type} {enc:α→List Value} {k:Nat}
theorem sortG_con [Inhabited α] {f f2:FuncId} {e:TypeId} {r:Fr} {a:Option Addr} {c:Nat} {l:List α} (hk:∀ x,(enc x).length=k) (h0:0<k) (h1:∀ x,∀ v∈enc x,v.oneCell' =true) (cf:α→α→Int)
  (hC:∀ x y,Con P f2 #[.agg (enc x).toArray,.agg (enc y).toArray] r [] (Ret fun v η=>v=.int .i64 (cf x y)∧η=[]))
  (hs:∀ (blk off cap:Nat) (d:Array α) (w:World),CmpLays P f2 #[] enc k cf blk off d.size w→Sort.HoldsK enc k w blk off d→blk<w.heap.size→d.size<4611686018427387904 →
   Calls P f #[.slice (some ⟨blk,off,none⟩) d.size cap,.func (.func f2) #[] #[]] w fun e w' =>e=.returned (.tuple #[])∧∃ d' n os,Sort.PermIn 0 d.size d d' ∧Sort.SortedIn (ltOf cf) 0 d.size d' ∧w' =sortWorldK enc k w blk off n d' os)
  (hl0:0<l.length) (hl:l.length<4611686018427387904) :
  Con P f #[.slice a l.length c,.func (.func f2) #[] #[]] r [OwnP (Rp.cells k) e (.slice a l.length c) (l.map enc)] (Ret fun v η=>v=.tuple #[]∧∃ l' :List α,l'.Perm l∧List.Pairwise (fun x y=>ltOf cf y x=false) l' ∧η=[OwnP (Rp.cells k) e (.slice a l.length c) (l'.map enc)]):=by
 intro g hg w hw
 obtain ⟨b,cap,cur,css,hv,hb1,hb2,hb3,hb4,ha,fz,hfz,hb⟩:=hw.ownP_block (by simp;omega);have hcs:=all2_cells' ha;subst hcs
 injection hv with e1 e2 e3
 subst e1 e3;have hkk:(Rp.cells k).k=k:=rfl;rw [List.length_map,hkk] at hb4;rw [hkk] at hb3;have hbl:=hb.block;have hflat:=flatK_list hk h0 l;have hfs:(Sort.flatK enc k l.toArray).size=l.length*k:=by simp
 have hle:l.length*k≤cur.size:=by
  rw [hb3];rw [List.length_map] at hb1;exact Nat.mul_le_mul_right k hb1
 have hget:∀ j (hj:j<l.length*k),cur[j]?=some (Sort.flatK enc k l.toArray)[j]! :=fun j hj=>by
  have h5:(cur.toList.take (l.length*k))[j]?=(Sort.flatK enc k l.toArray).toList[j]?:=by rw [hb4,hflat]
  rw [List.getElem?_take,if_pos hj] at h5;rw [getElem!_pos _ j (by rw [hfs];exact hj)]
  simpa [hj] using h5
 have hlt:b<w.heap.size:=(Array.getElem?_eq_some_iff.1 hbl).1;have hH:Sort.HoldsK enc k w b 0 l.toArray:=fun j hj=>by
  have hj' :j<l.length*k:=by rw [hfs] at hj;exact hj
  refine ⟨?_,?_⟩
  ·simp only [World.cell?,hbl,Nat.zero_add]
   simpa using hget j hj'
  ·have:=hfz j (by rw [hkk,← hb3];omega)
   simp only [World.frozen?,hbl,Nat.zero_add]
   simpa using this
 have key:∀ (m:Nat) (os:Array Obj) (dk:List α),dk.length=l.length→Holds (sortWorldK enc k w b 0 m dk.toArray os) g [OwnP (Rp.cells k) e (.slice (some ⟨b,0,none⟩) l.length c) (dk.map enc)]:=fun m os dk hsl=>by
  refine Holds.grow ?_ os;have hflat2:=flatK_list hk h0 dk;have hfs2:(Sort.flatK enc k dk.toArray).size=l.length*k:=by simp [hsl]
  generalize hF:Sort.flatK enc k dk.toArray=F at hflat2 hfs2;have hpr:Sort.putRowK enc k (Sort.ahead w m) b 0 dk.toArray=Sort.putRow id (Sort.ahead w m) b 0 F:=by rw [← hF];rfl
  rw [hpr];have hmod:(Sort.putRow id (Sort.ahead w m) b 0 F).heap[b]?=some (.cells (Sort.putCells id 0 F cur) e fz):=by
   simp [Sort.putRow,Sort.mapBlock,Sort.ahead,Array.getElem?_modify,hbl,Sort.onCells]
  have hh:=hb.setBlock (w' :=Sort.putRow id (Sort.ahead w m) b 0 F) hmod (fun i hi=>by
   have:b≠i:=fun q=>hi q.symm
   simp [Sort.putRow,Sort.mapBlock,Sort.ahead,Array.getElem?_modify,this]) rfl rfl rfl (Nat.le_add_right _ _)
  refine hh.imp fun m x=>Sat.cons_imp (fun m' y=>?_) (fun _ z=>z) x;refine ⟨dk.map enc,cells_all2 hk h1 _,?_,.inr ⟨b,c,Sort.putCells id 0 F cur,by rw [List.length_map,hsl],⟨fz,y,hfz⟩,by rw [List.length_map,hsl];simpa using hb1,hb2,?_,?_⟩⟩
  ·rw [flat_len hk,List.length_map,hkk]
  ·rw [hkk];simp [Sort.putCells,hb3]
  ·rw [List.length_map,hkk,hsl]
   apply List.ext_getElem?
   intro j
   rw [List.getElem?_take,← hflat2]
   by_cases hj:j<l.length*k
   ·have hjc:j<cur.size:=by omega
    rw [if_pos hj]
    simp [Sort.putCells,hjc,hfs2,hj]
   ·rw [if_neg hj,List.getElem?_eq_none (by simp [hfs2];omega)]
 have hcmp:CmpLays P f2 #[] enc k cf b 0 l.toArray.size w:=fun m os dk hdk x y=>by
  have hh:=key m os dk.toList (by simpa using hdk);rw [Array.toArray_toList] at hh;have:=hC x y (sortWorldK enc k w b 0 m dk os).gr (Fr.sub_trans hg hh.gsub) _ (Holds.of_world _);simp only [Array.append_empty];exact this.mono fun e' w' ⟨η',hp,hh⟩=>by
   cases e' with
   |returned v=>obtain ⟨rfl,rfl⟩:=hp;exact ⟨rfl,hh.grown⟩
   |panicked _=>exact hp.elim
   |outgrown=>exact hp.elim
 refine (hs b 0 c l.toArray w hcmp hH hlt (by simpa using hl)).mono fun e' w' ⟨he,d',n,os,hp,hso,hw'⟩=>?_;subst he hw';obtain ⟨hsz,_,hperm⟩:=hp;have e1:d'.extract 0 l.toArray.size=d' :=by rw [← hsz];exact Array.extract_size
 rw [e1,Array.extract_size] at hperm;have hk2:=key n os d'.toList (by simpa using hsz);rw [Array.toArray_toList] at hk2;refine ⟨_,⟨rfl,d'.toList,by simpa using hperm,?_,rfl⟩,hk2⟩;rw [List.pairwise_iff_getElem]
 intro i j hi hj hij
 have hi' :i<d'.size:=by simpa using hi
 have hj' :j<d'.size:=by simpa using hj
 have:=hso i j (Nat.zero_le _) hij (by omega);rw [getElem!_pos d' j hj',getElem!_pos d' i hi'] at this
 simpa using this
theorem sortG_nil {f f2:FuncId} {e:TypeId} {r:Fr} {a:Option Addr} {c:Nat} (hz:∀ (p:Option Addr) (cap:Nat) (fv:Value) (w:World),Calls P f #[.slice p 0 cap,fv] w fun e w' =>e=.returned (.tuple #[])∧w' =w) :
  Con P f #[.slice a 0 c,.func (.func f2) #[] #[]] r [OwnP (Rp.cells k) e (.slice a 0 c) []] (Ret fun v η=>v=.tuple #[]∧η=[OwnP (Rp.cells k) e (.slice a 0 c) []]):=by
 intro g hg w hw
 exact (hz a c _ w).mono fun e' w' ⟨h1,h2⟩=>by subst h1 h2;exact ⟨_,⟨rfl,rfl⟩,hw⟩
end
section
variable {α:Type} {T:Rp α} {σ:List (Nat × Value)} {t e:TypeId} {x y:Operand}
theorem Arr.from {h:Fr} {a:Addr} {m c p:Nat} {xs:List α} (z:Arr T h (.slice (some a) m c) xs) (hp:p≤m):Arr T h (.slice (some (a.add (p*T.k))) (m - p) (c - p)) (xs.drop p):=by
 obtain ⟨css,ha,ad,cap,hv,h1,h2,h3,h4⟩:=z
 injection hv with e1 e2 e3
 subst e1 e2 e3;have hcs:(css.drop p).flatten=css.flatten.drop (p*T.k):=(ha.flat_drop p).symm;refine ⟨css.drop p,ha.drop p,some (a.add (p*T.k)),c - p,by rw [List.length_drop],by rw [List.length_drop];omega,⟨by omega,fun h=>by cases h⟩,?_,?_⟩
 ·rw [hcs,List.length_drop,h3,List.length_drop,Nat.sub_mul]
 ·intro q hq
  rw [hcs] at hq;have hq2:p*T.k+q<css.flatten.length:=by simp only [List.length_drop] at hq;omega
  obtain ⟨p',hp',hc⟩:=h4 _ hq2
  cases hp'
  refine ⟨_,rfl,?_⟩;rw [Addr.add_add,hc]
  simp [hcs]
theorem Arr.at {h:Fr} {K b m c j:Nat} {css:List (List Value)} (z:Arr (Rp.cells K) h (.slice (some ⟨b,0,none⟩) m c) css) (hj:j<css.length):At h ⟨b,j*K,none⟩ css[j]∧css[j].length=K:=by
 obtain ⟨ds,ha,ad,cap,hv,h1,h2,h3,h4⟩:=z
 injection hv with e1 e2 e3
 subst e1;have hds:=all2_cells ha;subst hds;refine ⟨fun q hq=>?_,(Rp.cells K).len (ha.get j hj hj)⟩;have hfg:=ha.flat_get j hj;have hl:ds[j].length=K:=(Rp.cells K).len (ha.get j hj hj);have hq' :j*K+q<ds.flatten.length:=by
  have:(ds.flatten.drop (j*(Rp.cells K).k)).length≥ds[j].length:=by rw [← hfg,List.length_take];omega
  rw [List.length_drop] at this
  show j*(Rp.cells K).k+q<_
  omega
 obtain ⟨p,hp,hc⟩:=h4 _ hq'
 cases hp
 have e:(⟨b,j*K,none⟩:Addr)=(⟨b,0,none⟩:Addr).add (j*K):=by rw [add_lit];simp
 rw [e,Addr.add_add,hc]
 congr 1
 have:ds[j][q]=((ds.flatten.drop (j*(Rp.cells K).k)).take (Rp.cells K).k)[q]'(by rw [hfg];exact hq):=by simp only [hfg]
 rw [this,List.getElem_take,List.getElem_drop]
 rfl
theorem Does.idxPiece {K b m c p j:Nat} {kd:IntKind} (ht:P.underlying t=some (.slice e)) (he:(P.info? e).map (·.size)=some K) (hx:ev σ x=some (.slice (some ((⟨b,0,none⟩:Addr).add (p*K))) m c)) {zi:Int} (hy:ev σ y=some (.int kd zi)) (hzi:zi=(j:Int)) (hj:j<m) :
  Does P (.indexAddr t x y) σ g η (.pointer (some ⟨b,(p+j)*K,none⟩)) η:=.run fun o ρ w ho hk=>by
 subst hzi;have e1:((⟨b,0,none⟩:Addr).add (p*K)).add (j*K)=⟨b,(p+j)*K,none⟩:=by rw [Addr.add_add,add_lit,Nat.add_mul];simp
 simp [execOp,ho,hk x _ hx,hk y _ hy,Instr.indexAt,asIntOf,run_underlying ht,hj,run_sizeOf he,e1]
theorem Does.loadOwnAgg {K b m c j:Nat} {css:List (List Value)} (ht:∀ w,(isAgg t).run P w=.ok true w) (hsz:(P.info? t).map (·.size)=some K) (hx:ev σ x=some (.pointer (some ⟨b,j*K,none⟩))) (hs:Sel η (OwnP (Rp.cells K) e (.slice (some ⟨b,0,none⟩) m c) css) ζ) (hj:j<css.length) :
  Does P (.load t x) σ g η (.agg css[j].toArray) η:=fun o ρ w ho hk hw=>by
 obtain ⟨f,hm,hd,hw'⟩:=(hw.sel hs).freeze;obtain ⟨h1,h2⟩:=(hm.arr.mono (Fr.sub_add_right hd)).at hj;obtain ⟨w',a,b⟩:=Does.loadAgg (g:=g.add f) ht (by rw [h2];exact hsz) hx h1 o ρ w ho hk hw';exact ⟨w',a,(b.thaw hm hd).perm hs.perm.symm⟩
end
end Go.Sp
