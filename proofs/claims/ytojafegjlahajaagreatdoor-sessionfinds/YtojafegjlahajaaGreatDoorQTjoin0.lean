/- Texts of this proof. -/
import Derived.Test.YtojafegjlahajaaGreatDoorQSortFLay
import Derived.Test.YtojafegjlahajaaGreatDoorQSpSortG
import Derived.Test.YtojafegjlahajaaGreatDoorQGet3
open Go Go.Sp Go.Proofs.Tryz
set_option maxRecDepth 100000
set_option maxHeartbeats 1000000
attribute [local irreducible] obj Own av
namespace Go.Proofs.YtojafegjlahajaaGreatDoor
theorem Xq {α β:Type} {cf:β→β→Int} (f:α→β) (h:Sort.SWO (ltOf cf)):Sort.SWO (ltOf fun x y=>cf (f x) (f y)):=⟨fun x=>h.irrefl _,fun x y z=>h.trans _ _ _,fun x y z=>h.ntrans _ _ _⟩
theorem WU {r:Fr} {cur:List hU} {j:Nat} {z:hU} (h:∀ p∈cur,bO.rel r p.1 p.2) (hz:bO.rel r z.1 z.2):∀ p∈cur.set j z,bO.rel r p.1 p.2:=fun p hp=>(List.mem_or_eq_of_mem_set hp).elim (h p) (fun e=>e ▸ hz)
theorem W_ {r:Fr} {a:Option Addr} {c:Nat} {ps:List hU} (hit:∀ p∈ps,bO.rel r p.1 p.2) (hl:ps.length≤100000000000) :
  ay prog 306 #[.slice a ps.length c,.func (.func 307) #[] #[]] r [av (ag.cells 8) 220 (.slice a ps.length c) (ps.map (·.1))]
   (aL fun v U=>∃ k7:List hU,v=.tuple #[]∧k7.Perm ps∧List.Pairwise lF (k7.map (·.2))∧U=[av (ag.cells 8) 220 (.slice a k7.length c) (k7.map (·.1))]):=by
 by_cases h0:ps=[]
 ·subst h0
  refine (W9 (k:=8) (e:=220) (r:=r) (a:=a) (c:=c) (f2:=307) fun p cap fv w=>AnyF.slices_SortFunc_none JO p cap fv w).post fun e U h w g hw=>?_
  cases e with
  |returned v=>obtain ⟨rfl,rfl⟩:=h;exact ⟨_,⟨[],rfl,.refl _,.nil,rfl⟩,hw⟩
  |panicked _=>exact h.elim
  |outgrown=>exact h.elim
 ·obtain ⟨Ft,Qv⟩:=List.exists_mem_of_ne_nil ps h0
  letI:Inhabited {p:hU // bO.rel r p.1 p.2}:=⟨⟨Ft,hit Ft Qv⟩⟩
  have e1:((ps.attachWith (fun p=>bO.rel r p.1 p.2) hit).map fun x=>x.1.1)=ps.map (·.1):=by
   have e0:=congrArg (List.map fun p:hU=>p.1) (List.attachWith_map_subtype_val hit);rw [List.map_map] at e0;exact e0
  have DX:(ps.attachWith (fun p=>bO.rel r p.1 p.2) hit).length=ps.length:=List.length_attachWith;have hpos:0<ps.length:=List.length_pos_iff.2 h0;have con:=W8 (P:=prog) (f:=306) (f2:=307) (e:=220) (r:=r) (a:=a) (c:=c) (enc:=fun x:{p:hU // bO.rel r p.1 p.2}=>x.1.1) (k:=8) (l:=ps.attachWith (fun p=>bO.rel r p.1 p.2) hit)
   (fun x=>bO.len x.2) aB (fun x=>bO.one x.2) (fun x y=>lT x.1.2 y.1.2) (fun x y=>SX x.2 y.2)
   (fun blk off cap d w q1 q2 cM nT=>AnyQ.slices_SortFunc JO 8 isAgg220 (fun w=>Go.Sp.run_sizeOf gC w) (fun x:{p:hU // bO.rel r p.1 p.2}=>x.1.1) (fun x=>bO.len x.2) (fun x=>bO.one x.2) (fun x y=>lT x.1.2 y.1.2) (Xq (fun x:{p:hU // bO.rel r p.1 p.2}=>x.1.2) Xp) 307 #[] blk off cap d w (enters_of func307 aa rfl) q1 q2 cM nT)
   (by rw [DX];exact hpos) (by rw [DX];omega)
  rw [e1,DX] at con;refine con.post fun e U h w g hw=>?_
  cases e with
  |returned v =>
   obtain ⟨rfl,l',hp,hs,rfl⟩:=h;have nO:(l'.map Subtype.val).Perm ps:=by
    have:=hp.map Subtype.val
    rwa [List.attachWith_map_subtype_val] at this
   have hlen:(l'.map Subtype.val).length=ps.length:=nO.length_eq;refine ⟨_,⟨l'.map Subtype.val,rfl,nO,?_,rfl⟩,?_⟩
   ·rw [List.map_map,List.pairwise_map]
    exact hs.imp fun {x y} h=>ud.2 (of_decide_eq_false h)
   ·rw [hlen,List.map_map];exact hw
  |panicked _=>exact h.elim
  |outgrown=>exact h.elim
theorem Nw {r:Fr} {a:Option Addr} {c:Nat} {ps:List hU} (hit:∀ p∈ps,bO.rel r p.1 p.2) (hl:ps.length≤100000000000) :
  ay prog 309 #[.slice a ps.length c,.func (.func 310) #[] #[]] r [av (ag.cells 8) 220 (.slice a ps.length c) (ps.map (·.1))]
   (aL fun v U=>v=.slice a (ey kE none ps).length c∧U=[av (ag.cells 8) 220 (.slice a (ey kE none ps).length c) ((ey kE none ps).map (·.1))]):=by
 refine ay.of (n:=66) _ rfl func309 rfl rfl rfl fun g hg R hR=>?_;refine S.seq<|S.region rfl<|O.q 1 rfl<|O.nil<|S.seq<|S.seq<|S.region rfl<|O.q 1 rfl<|O.op (.p rfl) (.len rfl underlying216 rfl)<|O.op (.p rfl) (.lss rfl rfl)<|O.nil ?_
 first|refine S.cm rfl (fun h10=>?_) (fun h10=>?_)|refine S.b_ rfl (fun h10=>?_) (fun h10=>?_)
 ·have ec:ey kE none ps=ps:=HE ah
  refine S.seq<|S.region rfl<|O.q 2 rfl<|O.nil<|S.ret results309 rfl fun w hw=>Holds.end_ hR hw ?_;exact ⟨[av (ag.cells 8) 220 (.slice a ps.length c) (ps.map (·.1))],⟨by rw [ec],by rw [ec]⟩,by repeat (first|exact aS|exact aU|(apply aT;focus (repeat (first|exact aR|apply zt)))|apply aV)⟩
 ·have h2:2≤ps.length:=by omega
  refine S.lV .here (fun _ x=>x.vZ b9) fun ⟨⟨b,hb⟩,_,hc1,qP⟩=>?_;subst hb;rw [List.length_map] at hc1;refine S.skip<|S.seq<|S.seq<|S.region rfl<|O.q 1 rfl<|O.nil<|S.block<|S.eM (ι:=Nat) (fun k=>1≤k∧k≤ps.length∧ey kE none (ps.take k)=ps.take k) (fun k=>[(5,.int .i64 (k:Int))]) [(0,_),(1,_)] (fun k=>[av (ag.cells 8) 220 (.slice (some ⟨b,0,none⟩) ps.length c) (ps.map (·.1))]) (fun k=>ps.length - k) (1) (by exact ⟨by omega,by omega,HE b9⟩) (.cons rfl (.nil)) (.cons rfl (.cons rfl (.nil))) rfl fun k hx ih=>?_;have bh:=cH (g:=g);obtain ⟨hx1,hx2,vD⟩:=hx;refine S.seq<|S.seq<|S.region rfl<|O.q 2 rfl<|O.op (.p rfl) (.len rfl underlying216 rfl)<|O.op (.p rfl) (.lss rfl rfl)<|O.nil ?_
  first|refine S.cm rfl (fun C6=>?_) (fun C6=>?_)|refine S.b_ rfl (fun C6=>?_) (fun C6=>?_)
  ·have hk:k<ps.length:=by omega
   have hstep:=HC kE hk ah;have hg1:∀ q,(ps.map (·.2))[k]'q=ps[k].2:=fun q=>List.getElem_map ..;have hg2:∀ q,(ps.map (·.2))[k - 1]'q=(ps[k - 1]'ah).2:=fun q=>List.getElem_map ..
   cases e:kE ps[k] (ps[k - 1]'ah) with
   |false =>
    rw [e,vD] at hstep;have gy:=hg;have gw:=hR;refine S.iw (B:=av (ag.cells 8) 220 (.slice (some ⟨b,0,none⟩) ps.length c) (ps.map (·.1))) ai fun o8 dP ⟨q7,jL,jM⟩ gm=>?_;replace hg:=Fr.aI hg dP;replace hR:=ig hR gm;have hqi:aj bO _ (.slice (some ⟨b,0,none⟩) ps.length c) (ps.map (·.2)):=aj.kL ((av.arr jL).mono jM) (ua fun p hp=>ag.mono bO hg (hit p hp)) rfl;refine S.skip<|S.seq<|S.block<|S.seq<|S.bC (L:=[0,1,2,3,4,5,6,7,8,9,10]) bz aa<|af.q 3 rfl<|af.bR (.p rfl) underlying216 gC rfl rfl rfl (hqi) (h:=fun AP zk qS pq=>?_)
    skip
    refine .quiet (.p rfl) rfl (fun _=>.bE isAgg220 (by rw [bO.len pq];kernel_rfl) rfl qS) ?_;refine af.q 2 rfl<|.quiet (.p rfl) rfl (fun _=>.sub rfl rfl (IntWalk.i64_in _ ah))<|af.bR (.p rfl) underlying216 gC rfl rfl (show _=(((k-1):Nat):Int) by omega) (hqi) (h:=fun UE NP D_ xH=>?_)
    skip
    refine .quiet (.p rfl) rfl (fun _=>.bE isAgg220 (by rw [bO.len xH];kernel_rfl) rfl D_) ?_;refine af.aC (.p rfl) aa rfl aa rfl rfl ((Am pq xH)) ?_;rintro _ _ ⟨rfl,rfl⟩
    try simp only [an,aq,au]
    refine af.aM 28 rfl (by rw [hg1,hg2];exact e) ?_;refine aJ.nil<|S.aQ rfl<|S.skip<|S.inBlock<|S.back gm ?_;replace hg:=gy;replace hR:=gw;clear gy gw;refine S.region rfl<|O.q 1 rfl<|O.op (.p rfl) (.add rfl rfl (IntWalk.i64_in _ ah))<|O.q 1 rfl<|O.nil ?_;exact S.dD (ih (k+1) (by exact ⟨by omega,by omega,by rw [hstep,List.take_succ_eq_append_getElem hk];rfl⟩) ah)
   |true =>
    rw [e,vD] at hstep;clear ih;have gy:=hg;have gw:=hR;refine S.iw (B:=av (ag.cells 8) 220 (.slice (some ⟨b,0,none⟩) ps.length c) (ps.map (·.1))) ai fun o8 dP ⟨q7,jL,jM⟩ gm=>?_;replace hg:=Fr.aI hg dP;replace hR:=ig hR gm;have hqi:aj bO _ (.slice (some ⟨b,0,none⟩) ps.length c) (ps.map (·.2)):=aj.kL ((av.arr jL).mono jM) (ua fun p hp=>ag.mono bO hg (hit p hp)) rfl;refine S.skip<|S.seq<|S.block<|S.seq<|S.bC (L:=[0,1,2,3,4,5,6,7,8,9,10]) bz aa<|af.q 3 rfl<|af.bR (.p rfl) underlying216 gC rfl rfl rfl (hqi) (h:=fun AP zk qS pq=>?_)
    skip
    refine .quiet (.p rfl) rfl (fun _=>.bE isAgg220 (by rw [bO.len pq];kernel_rfl) rfl qS) ?_;refine af.q 2 rfl<|.quiet (.p rfl) rfl (fun _=>.sub rfl rfl (IntWalk.i64_in _ ah))<|af.bR (.p rfl) underlying216 gC rfl rfl (show _=(((k-1):Nat):Int) by omega) (hqi) (h:=fun UE NP D_ xH=>?_)
    skip
    refine .quiet (.p rfl) rfl (fun _=>.bE isAgg220 (by rw [bO.len xH];kernel_rfl) rfl D_) ?_;refine af.aC (.p rfl) aa rfl aa rfl rfl ((Am pq xH)) ?_;rintro _ _ ⟨rfl,rfl⟩
    try simp only [an,aq,au]
    refine af.sT 28 rfl (by rw [hg1,hg2];exact e) ?_;refine aJ.nil<|S.bx rfl<|S.seq<|S.back gm ?_;replace hg:=gy;replace hR:=gw;clear gy gw;refine S.region rfl<|O.q 2 rfl<|O.op (.p rfl) (.iG (p:=k) underlying216 gC rfl rfl ah)<|O.q 1 rfl<|O.nil<|S.seq<|S.seq<|S.slot 6 (v' :=.slice (some ((⟨b,0,none⟩:Addr).add (k*8))) (ps.length - k) (c - k)) rfl (by rw [if_neg ah];rfl) ?_;refine S.region rfl<|O.q 1 rfl<|O.nil<|S.block<|S.Ax (ι:=Nat) (dJ:=Nat) (jC:=List hU) (fun j n cur=>1≤n∧k+n≤ps.length∧k≤j∧j+1≤k+n∧cur.length=ps.length∧cur.take j=ey kE none (ps.take (k+n))∧cur.drop j=ps.drop j∧∀ p∈cur,bO.rel r p.1 p.2) (fun j n cur=>[(5,.int .i64 (j:Int)),(7,.int .i64 (n:Int))]) [(0,_),(1,_),(6,_)] (fun j n cur=>[av (ag.cells 8) 220 (.slice (some ⟨b,0,none⟩) ps.length c) (cur.map (·.1))]) (fun j n cur=>ps.length - (k+n)) (k) (1) (ps) (by exact ⟨by omega,by omega,by omega,by omega,rfl,by rw [hstep];simp,rfl,hit⟩) (.cons rfl (.cons rfl (.nil))) (.cons rfl (.cons rfl (.cons rfl (.nil)))) rfl fun j n cur hx ih=>?_;have hm2:=cH (g:=g);obtain ⟨hy1,hy2,aah,aai,Jq,ES,xS,xT⟩:=hx;refine S.seq<|S.seq<|S.region rfl<|O.q 2 rfl<|O.op (.p rfl) (.len rfl underlying216 rfl)<|O.op (.p rfl) (.lss rfl rfl)<|O.nil ?_
    first|refine S.cm rfl (fun C_=>?_) (fun C_=>?_)|refine S.b_ rfl (fun C_=>?_) (fun C_=>?_)
    ·have hn:k+n<ps.length:=by omega
     have Ag:=HC kE hn ah;have p7:∀ q,((cur.map (·.2)).drop k)[n]'q=ps[k+n].2:=fun q=>by rw [List.getElem_drop,List.getElem_map,CL xS ah ah hn]
     have vz:∀ q,((cur.map (·.2)).drop k)[n - 1]'q=(ps[k+n - 1]'ah).2:=fun q=>by
      have nw:k+(n - 1)=k+n - 1:=by omega
      simp only [List.getElem_drop,List.getElem_map,nw];rw [CL xS ah ah ah]
     cases e2:kE ps[k+n] (ps[k+n - 1]'ah) with
     |true =>
      rw [e2] at Ag;have gy:=hg;have gw:=hR;refine S.iw (B:=av (ag.cells 8) 220 (.slice (some ⟨b,0,none⟩) ps.length c) (cur.map (·.1))) ai fun o8 dP ⟨q7,jL,jM⟩ gm=>?_;replace hg:=Fr.aI hg dP;replace hR:=ig hR gm;have hqi:=aj.from (p:=k) (aj.kL ((av.arr jL).mono jM) (ua fun p hp=>ag.mono bO hg (xT p hp)) rfl:aj bO _ (.slice (some ⟨b,0,none⟩) ps.length c) (cur.map (·.2))) ah;refine S.skip<|S.seq<|S.block<|S.seq<|S.bC (L:=[0,1,2,3,4,5,6,7,8,9,10,11]) bz aa<|af.q 3 rfl<|af.bR (.p rfl) underlying216 gC rfl rfl rfl (hqi) (h:=fun AR zl qT py=>?_)
      skip
      refine .quiet (.p rfl) rfl (fun _=>.bE isAgg220 (by rw [bO.len py];kernel_rfl) rfl qT) ?_;refine af.q 2 rfl<|.quiet (.p rfl) rfl (fun _=>.sub rfl rfl (IntWalk.i64_in _ ah))<|af.bR (.p rfl) underlying216 gC rfl rfl (show _=(((n-1):Nat):Int) by omega) (hqi) (h:=fun UI NT Ee xI=>?_)
      skip
      refine .quiet (.p rfl) rfl (fun _=>.bE isAgg220 (by rw [bO.len xI];kernel_rfl) rfl Ee) ?_;refine af.aC (.p rfl) aa rfl aa rfl rfl ((Am py xI)) ?_;rintro _ _ ⟨rfl,rfl⟩
      try simp only [an,aq,au]
      refine af.sT 48 rfl (by rw [p7,vz];exact e2) ?_;refine .quiet (.p rfl) rfl (fun _=>.not rfl)<|aJ.nil<|S.aQ rfl<|S.skip<|S.inBlock<|S.back gm ?_;replace hg:=gy;replace hR:=gw;clear gy gw;refine S.region rfl<|O.q 1 rfl<|O.op (.p rfl) (.add rfl rfl (IntWalk.i64_in _ ah))<|O.q 1 rfl<|O.nil ?_;exact S.dD (ih (j) (n+1) (cur) (by exact ⟨by omega,by omega,by omega,by omega,Jq,by rw [ES,show k+(n+1)=k+n+1 from rfl,Ag];simp,xS,xT⟩) ah)
     |false =>
      rw [e2] at Ag;have gy:=hg;have gw:=hR;refine S.iw (B:=av (ag.cells 8) 220 (.slice (some ⟨b,0,none⟩) ps.length c) (cur.map (·.1))) ai fun o8 dP ⟨q7,jL,jM⟩ gm=>?_;replace hg:=Fr.aI hg dP;replace hR:=ig hR gm;have hqi:=aj.from (p:=k) (aj.kL ((av.arr jL).mono jM) (ua fun p hp=>ag.mono bO hg (xT p hp)) rfl:aj bO _ (.slice (some ⟨b,0,none⟩) ps.length c) (cur.map (·.2))) ah;refine S.skip<|S.seq<|S.block<|S.seq<|S.bC (L:=[0,1,2,3,4,5,6,7,8,9,10,11]) bz aa<|af.q 3 rfl<|af.bR (.p rfl) underlying216 gC rfl rfl rfl (hqi) (h:=fun AR zl qT py=>?_)
      skip
      refine .quiet (.p rfl) rfl (fun _=>.bE isAgg220 (by rw [bO.len py];kernel_rfl) rfl qT) ?_;refine af.q 2 rfl<|.quiet (.p rfl) rfl (fun _=>.sub rfl rfl (IntWalk.i64_in _ ah))<|af.bR (.p rfl) underlying216 gC rfl rfl (show _=(((n-1):Nat):Int) by omega) (hqi) (h:=fun UI NT Ee xI=>?_)
      skip
      refine .quiet (.p rfl) rfl (fun _=>.bE isAgg220 (by rw [bO.len xI];kernel_rfl) rfl Ee) ?_;refine af.aC (.p rfl) aa rfl aa rfl rfl ((Am py xI)) ?_;rintro _ _ ⟨rfl,rfl⟩
      try simp only [an,aq,au]
      refine af.aM 48 rfl (by rw [p7,vz];exact e2) ?_;refine .quiet (.p rfl) rfl (fun _=>.not rfl)<|aJ.nil<|S.bx rfl<|S.seq<|S.back gm ?_;replace hg:=gy;replace hR:=gw;clear gy gw;have IQ:cur[k+n]'ah=ps[k+n]:=CL xS ah ah hn;have EE:=xT _ (List.getElem_mem (show k+n<cur.length by omega));refine S.region rfl<|O.q 4 rfl<|O.op (.p rfl) (.Se (K:=8) (p:=k) (j:=n) underlying216 gC rfl rfl rfl ah)<|O.op (.p rfl) (.TC (K:=8) (j:=k+n) isAgg220 gC rfl ai b9) ?_;refine O.aN (.p rfl) (.ox (T:=(ag.cells 8)) underlying216 gC rfl rfl (show _=(((j):Nat):Int) by omega) ai oL) ?_;rintro _ _ ⟨aa9,rfl,QL,rfl⟩;refine O.bB rfl (.ru gC rfl QL rfl ai oL (by exact ⟨rfl,by rw [List.getElem_map];exact bO.len EE,by rw [List.getElem_map];exact bO.one EE⟩:ag.rel _ _ _ ((cur.map (·.1))[k+n]'b9))) ?_;refine O.nil ?_;rw [show (cur.map (·.1)).set j ((cur.map (·.1))[k+n]'b9)=(cur.set j ps[k+n]).map (·.1) from by rw [List.getElem_map,IQ,List.map_set]];refine S.region rfl<|O.q 1 rfl<|O.op (.p rfl) (.add rfl rfl (IntWalk.i64_in _ ah))<|O.q 1 rfl<|O.nil<|S.inBlock<|S.region rfl<|O.q 1 rfl<|O.op (.p rfl) (.add rfl rfl (IntWalk.i64_in _ ah))<|O.q 1 rfl<|O.nil ?_
      exact S.dD (ih (j+1) (n+1) (cur.set j ps[k+n]) (by exact ⟨by omega,by omega,by omega,by omega,by simp [Jq],by rw [show k+(n+1)=k+n+1 from rfl,Ag,← ES,List.take_succ_eq_append_getElem b9,List.getElem_set_self,List.take_set_of_le (Nat.le_refl _)];simp,by rw [List.drop_set_of_lt ah,← List.drop_drop (i:=1) (j:=j),xS,List.drop_drop],WU xT (by rw [← IQ];exact EE)⟩) ah)
    ·clear ih
     have hn:k+n=ps.length:=by omega
     have lB:ey kE none ps=cur.take j:=by rw [ES,hn,List.take_length]
     obtain ⟨ds,hds⟩:∃ ds,(cur.take j).map (·.1)=ds:=⟨_,rfl⟩;have hdl:ds.length=j:=by rw [← hds];simp;omega
     have hjl:(cur.take j).length=ds.length:=by rw [hdl];simp;omega
     refine S.conv (B:=av (ag.cells 8) 220 (.slice (some ⟨b,0,none⟩) ps.length c) (cur.map (·.1))) (C:=av (ag.cells 8) 220 (.slice (some ⟨b,0,none⟩) ds.length c) ds) ai (fun m x=>⟨m,Fr.bY _,av.take (ys:=(cur.drop j).map (·.1)) rfl (by rw [← hds,← List.map_append,List.take_append_drop];exact x)⟩) ?_;subst hdl;refine S.exit rfl<|S.seq<|S.region rfl<|O.q 2 rfl<|O.op (.p rfl) (.iG (p:=ds.length) underlying216 gC rfl rfl ah)<|O.Cq rfl underlying216 tf (by first|(simp;done)|(intro v hv;simp [Value.cells] at hv;rcases hv with rfl|rfl<;>rfl)|(refine List.forall_mem_cons.2 ⟨rfl,?_⟩;repeat (first|exact (fun _ h=>absurd h List.not_mem_nil)|refine List.forall_mem_cons.2 ⟨rfl,?_⟩))) aB ah hc1 rfl ai ?_;refine O.nil<|S.seq<|S.region rfl<|O.q 2 rfl<|O.op (.p rfl) (.uB (p:=ds.length) underlying216 gC rfl rfl ah)<|O.q 1 rfl<|O.nil<|S.ret results309 rfl fun w hw=>Holds.end_ hR hw ?_;exact ⟨[av (ag.cells 8) 220 (.slice (some ⟨b,0,none⟩) ds.length c) ds],⟨by rw [lB,hjl],by rw [lB,hjl,hds]⟩,by repeat (first|exact aS|exact aU|(apply aT;focus (repeat (first|exact aR|apply zt)))|apply aV)⟩
  ·clear ih
   have hk:k=ps.length:=by omega
   rw [hk,List.take_length] at vD;refine S.exit rfl<|S.seq<|S.region rfl<|O.q 2 rfl<|O.nil<|S.ret results309 rfl fun w hw=>Holds.end_ hR hw ?_;exact ⟨[av (ag.cells 8) 220 (.slice (some ⟨b,0,none⟩) ps.length c) (ps.map (·.1))],⟨by rw [vD],by rw [vD]⟩,by repeat (first|exact aS|exact aU|(apply aT;focus (repeat (first|exact aR|apply zt)))|apply aV)⟩
theorem Nv {s:List hU}:(ey kE none s).map (·.2)=qC (s.map (·.2)):=HD (fun p:hU=>p.2) tg none s
theorem Cw {α:Type} (eq:α→α→Bool):∀ (p:Option α) (l:List α),∀ x∈ey eq p l,x∈l
 |_,[],_,h=>h
 |p,a::l,x,h=>by
  simp only [ey] at h
  split at h
  ·exact List.mem_cons_of_mem _ (Cw eq _ l x h)
  ·rcases List.mem_cons.1 h with rfl|h
   ·exact List.mem_cons_self
   ·exact List.mem_cons_of_mem _ (Cw eq _ l x h)
def Ar (cs:List hU):List hU:=cs.filter fun p=>!hM (cs.map (·.2)) p.2
theorem Ts {s:List hU}:(Ar (ey kE none s)).map (·.2)=r_ (s.map (·.2)):=by
 unfold Ar r_;rw [← Nv,List.filter_map]
 rfl
theorem Tr {cs:List hU} {i:Nat} (hi:i<cs.length):(cs.take (i+1)).filter (fun p=>!hM (cs.map (·.2)) p.2)=(cs.take i).filter (fun p=>!hM (cs.map (·.2)) p.2)++if hM (cs.map (·.2)) cs[i].2 then [] else [cs[i]]:=by
 rw [List.take_succ_eq_append_getElem hi,List.filter_append]
 congr 1
 cases h:hM (cs.map (·.2)) cs[i].2<;>simp [h]
theorem X5 {r:Fr} {b:Nat} {a:Option Addr} {c:Nat} {ps:List hU} (hit:∀ p∈ps,bO.rel r p.1 p.2) (ho:∀ p∈ps,ej p.2=true) (hl:ps.length≤100000000000) :
  ay prog 241 #[.pointer (some ⟨b,0,none⟩)] r [obj b 306 [.slice a ps.length c],av (ag.cells 8) 220 (.slice a ps.length c) (ps.map (·.1))]
   (aL fun v U=>∃ (k7:List hU) (a' :Option Addr) (c' :Nat),v=.tuple #[]∧k7.map (·.2)=jl (ps.map (·.2))∧(∀ p∈k7,bO.rel r p.1 p.2)∧U=[obj b 306 [.slice a' k7.length c'],av (ag.cells 8) 220 (.slice a' k7.length c') (k7.map (·.1))]):=by
 refine ay.of (n:=47) _ rfl func241 rfl rfl rfl fun g hg R hR=>?_;refine S.seq<|S.region rfl<|O.q 1 rfl<|O.op (.p rfl) (.nilCheck rfl)<|O.op (.p rfl) (.aH qG rfl)<|O.op (.p rfl) (.aH jj rfl)<|O.op (.p rfl) (.lo ji) ?_;refine O.bM (.p rfl) rfl aa rfl rfl ai ((W_ hit hl).sub hg) ?_;rintro v10 _ ⟨ss,rfl,hss,hsw,rfl⟩
 try simp only [an,aq,au]
 refine O.nil (S.seq ?_);have fI:ss.length=ps.length:=hss.length_eq;have Jm:∀ p∈ss,bO.rel r p.1 p.2:=fun p hp=>hit p (hss.mem_iff.1 hp);rw [← fI];refine S.region rfl<|O.q 2 rfl<|O.op (.p rfl) (.nilCheck rfl)<|O.op (.p rfl) (.aH qG rfl)<|O.op (.p rfl) (.aH jj rfl)<|O.op (.p rfl) (.lo ji) ?_;refine O.bM (.p rfl) rfl aa rfl rfl ai ((Nw Jm ah).sub hg) ?_;rintro _ _ ⟨rfl,rfl⟩
 try simp only [an,aq,au]
 refine O.op (.p rfl) (.nilCheck rfl)<|O.op (.p rfl) (.aH qG rfl)<|O.op (.p rfl) (.aH jj rfl)<|O.bB rfl (.bp ji rfl rfl bt ai aX) ?_;refine O.nil (S.seq ?_);have I3:(Ar (ey kE none ss)).map (·.2)=jl (ps.map (·.2)):=by
  rw [Ts];exact S5 (hss.map _) hsw fun x hx=>by obtain ⟨p,hp,rfl⟩:=List.mem_map.1 hx;exact ho p hp
 have ec:=Cu kE none ss;have zV:∀ p∈ey kE none ss,bO.rel r p.1 p.2:=fun p hp=>Jm p (Cw kE none ss p hp);generalize ey kE none ss=cs at I3 ec zV ⊢;refine S.region rfl<|O.q 1 rfl<|O.nil<|S.seq<|S.seq<|S.region rfl<|O.q 1 rfl<|O.op (.p rfl) (.nilCheck rfl)<|O.op (.p rfl) (.aH qG rfl)<|O.op (.p rfl) (.aH jj rfl)<|O.op (.p rfl) (.lo ji) ?_;refine O.op (.p rfl) (.len rfl underlying216 rfl)<|O.q 1 rfl<|O.nil<|S.block<|S.gd (T:=ag.cells 8) (e:=220) ?_;have fq:=hg;have fp:=hR;refine S.iw (B:=obj b 306 [.slice a cs.length c]) ai fun go cN ⟨qd,hmo,jw⟩ eV=>?_;replace hg:=Fr.aI hg cN;replace hR:=ig hR eV;have qO:=(ga hmo).mono jw;have gy:=hg;have gw:=hR;refine S.iw (B:=av (ag.cells 8) 220 (.slice a cs.length c) (cs.map (·.1))) ai fun o8 dP ⟨q7,jL,jM⟩ gm=>?_;replace hg:=Fr.aI hg dP;replace hR:=ig hR gm;have hqi:aj bO _ (.slice a cs.length c) (cs.map (·.2)):=aj.kL ((av.arr jL).mono jM) (ua fun p hp=>ag.mono bO hg (zV p hp)) rfl;have Es:=(av.arr jL).mono jM;replace qO:=qO.mono dP;have hrow:rB _ b (cs.map (·.2)):=⟨a,c,by rw [List.length_map];exact qO,by rw [List.length_map];exact hqi⟩
 refine S.jO (ι:=Nat) (dJ:=Option Addr × Nat) (fun i s=>i≤cs.length) (fun i s=>[(27,.int .i64 (i:Int)),(2,.slice s.1 ((cs.take i).filter fun p=>!hM (cs.map (·.2)) p.2).length s.2)]) [(0,_),(25,_),(26,_)] (fun i s=>[av (ag.cells 8) 220 (.slice s.1 ((cs.take i).filter fun p=>!hM (cs.map (·.2)) p.2).length s.2) (((cs.take i).filter fun p=>!hM (cs.map (·.2)) p.2).map (·.1))]) (fun i s=>cs.length - i) (0) ((none,0)) bL (.cons rfl (.cons rfl (.nil))) (.cons rfl (.cons rfl (.cons rfl (.nil)))) rfl fun i s hx ih=>?_;have bh:=cH (g:=o8);refine S.seq<|S.region rfl<|O.op (.p rfl) (.lss rfl rfl)<|O.nil (S.seq ?_)
 first|refine S.cm rfl (fun tt=>?_) (fun tt=>?_)|refine S.b_ rfl (fun tt=>?_) (fun tt=>?_)
 ·have hi:i<cs.length:=by omega
  have hst:=Tr hi;have rZ:((cs.take i).filter fun p=>!hM (cs.map (·.2)) p.2).length≤i:=Nat.le_trans (List.length_filter_le ..) b9;have vC:=ag.mono bO hg (zV _ (List.getElem_mem hi));have mM:=bO.len vC;have hone:=bO.one vC;refine S.skip<|S.seq<|S.block<|S.seq<|S.region rfl<|O.bR (.p rfl) underlying216 gC rfl rfl rfl (Es) (h:=fun UG NR xB Ey=>?_);obtain ⟨rfl,_,_⟩:=Ey;refine O.op (.p rfl) (.bE isAgg220 (by rw [List.getElem_map,mM];kernel_rfl) rfl xB) ?_;refine O.aN (.p rfl) (.alloc (cs:=[.string ⟨#[]⟩,.int .i64 0,.int .i64 0,.slice none 0 0,.bool false,.slice none 0 0,.slice none 0 0,.slice none 0 0]) zeroValue220 rfl) ?_;rintro _ _ ⟨b4,rfl,rfl⟩;refine O.bB rfl (.c9 (news:=cs[i].1) (by rw [mM];kernel_rfl) rfl rfl sS (List.all_eq_true.2 hone) ai (by rw [mM];decide)) ?_;refine O.nil<|S.seq<|S.dx (b:=b4) (cs' :=cs[i].1) ai (by rw [List.drop_eq_nil_of_le (by rw [mM];decide)];simp) ?_;refine S.de ai fun g hs hm hb4=>?_;replace hg:=Fr.aI hg hs;replace hR:=bu hR hm
  try replace hqi:=hqi.mono hs
  try replace Es:=Es.mono hs
  try replace qO:=qO.mono hs
  try replace hrow:=hrow.mono hs
  try replace vC:=vC.mono hs
  try replace xB:=xB.mono hs
  replace bh:=dQ bh hm;clear hs hm
  cases e:hM (cs.map (·.2)) cs[i].2 with
  |true =>
   rw [e] at hst;rw [if_pos rfl,List.append_nil] at hst;refine S.bC (L:=[0,1,2,3,4,5]) bz aa ?_;refine af.q 1 rfl<|.quiet (.p rfl) rfl (fun _=>.nilCheck rfl)<|.quiet (.p rfl) rfl (fun _=>.fieldAddr qG rfl)<|.quiet (.p rfl) rfl (fun _=>.bE isAgg220 (by rw [mM];kernel_rfl) rfl hb4) ?_;refine af.aC (.p rfl) aa rfl aa rfl rfl (v7 hrow vC) ?_;rintro _ _ ⟨rfl,rfl⟩
   try simp only [an,aq,au]
   refine af.sT 35 rfl (by exact e) ?_;refine .quiet (.p rfl) rfl (fun _=>.not rfl)<|aJ.nil<|S.aQ rfl<|S.skip<|S.inBlock<|S.region rfl<|O.op (.p rfl) (.add rfl rfl (IntWalk.i64_in _ ah))<|O.q 1 rfl<|O.nil ?_;rw [← hst];exact S.iA bh (S.dD (ih (i+1) (s) ah ah))
  |false =>
   rw [e] at hst;rw [if_neg Bool.false_ne_true] at hst;refine S.bC (L:=[0,1,2,3,4,5]) bz aa ?_;refine af.q 1 rfl<|.quiet (.p rfl) rfl (fun _=>.nilCheck rfl)<|.quiet (.p rfl) rfl (fun _=>.fieldAddr qG rfl)<|.quiet (.p rfl) rfl (fun _=>.bE isAgg220 (by rw [mM];kernel_rfl) rfl hb4) ?_;refine af.aC (.p rfl) aa rfl aa rfl rfl (v7 hrow vC) ?_;rintro _ _ ⟨rfl,rfl⟩
   try simp only [an,aq,au]
   refine af.aM 35 rfl (by exact e) ?_;refine .quiet (.p rfl) rfl (fun _=>.not rfl)<|aJ.nil<|S.bx rfl<|S.region rfl<|O.q 1 rfl<|O.op (.p rfl) (.bE isAgg220 (by rw [mM];kernel_rfl) rfl hb4) ?_;refine O.aN (.p rfl) (.cA (T:=ag.cells 8) (ys:=[cs[i].1]) underlying216 tf aB rfl rfl ⟨⟨rfl,mM,hone⟩,trivial⟩ aB) ?_;rintro _ _ ⟨a39,Cg,rfl,rfl⟩;refine O.aN (.p rfl) (.gN (T:=(ag.cells 8)) underlying216 tf aB rfl rfl ai ai bD bD) ?_;rintro _ _ ⟨a40,u5,rfl,rfl⟩;refine O.q 1 rfl<|O.nil (S.inBlock ?_);rw [show List.map (fun p:hU=>p.1) ((cs.take i).filter fun p=>!hM (cs.map (·.2)) p.2)++[cs[i].1]=((cs.take (i+1)).filter fun p=>!hM (cs.map (·.2)) p.2).map (·.1) from by rw [hst,List.map_append];rfl,show (List.map (fun p:hU=>p.1) ((cs.take i).filter fun p=>!hM (cs.map (·.2)) p.2)).length+[cs[i].1].length=((cs.take (i+1)).filter fun p=>!hM (cs.map (·.2)) p.2).length from by rw [hst,List.length_append,List.length_map];rfl];refine S.region rfl<|O.op (.p rfl) (.add rfl rfl (IntWalk.i64_in _ ah))<|O.q 1 rfl<|O.nil ?_;exact S.iA bh (S.dD (ih (i+1) ((a40,u5)) ah ah))
 ·clear ih
  have hi:i=cs.length:=by omega
  subst hi;rw [List.take_length];have Et:∀ p∈cs.filter fun p=>!hM (cs.map (·.2)) p.2,bO.rel r p.1 p.2:=fun p hp=>zV p (List.mem_filter.1 hp).1;refine S.back gm ?_;replace hg:=gy;replace hR:=gw;clear gy gw;refine S.back eV ?_;replace hg:=fq;replace hR:=fp;clear fq fp;refine S.exit rfl<|S.region rfl<|O.q 2 rfl<|O.op (.p rfl) (.nilCheck rfl)<|O.op (.p rfl) (.aH qG rfl)<|O.op (.p rfl) (.aH jj rfl)<|O.bB rfl (.bp ji rfl rfl bt ai aX) ?_;refine O.nil<|S.ez results241 fun w hw=>Holds.end_ hR hw ?_;exact pk ⟨Ar cs,s.1,s.2,rfl,I3,Et,rfl⟩
abbrev b8:rD:=⟨5,3,24,191,102,31,196,27,112,0,0,0,0⟩
abbrev aF:e3:=⟨77,31,9⟩
theorem KX {x:aP} {v3 v5 v6:Value} {m:Fr} (h:ej x=true) (hs:Sat (yp x v3 v5 v6) m):(dr b8).own (uw x v3 v5 v6) x m:=by
 have h1:=yA.1 (vW.1 h).1;have hd:=wR.1 h1.2.2.1;simp only [iE] at hd;exact dr.mk ah ⟨by omega,by omega⟩ ⟨by omega,by omega⟩ hs
end Go.Proofs.YtojafegjlahajaaGreatDoor
