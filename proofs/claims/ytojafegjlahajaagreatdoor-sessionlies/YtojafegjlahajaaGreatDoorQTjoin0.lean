/- Texts of this proof. -/
import Derived.Test.YtojafegjlahajaaGreatDoorQSortFLay
import Derived.Test.YtojafegjlahajaaGreatDoorQSpSortG
import Derived.Test.YtojafegjlahajaaGreatDoorQGet3
open Go Go.Sp Go.Proofs.Tryz
set_option maxRecDepth 100000
set_option maxHeartbeats 1000000
attribute [local irreducible] obj Own av
namespace Go.Proofs.YtojafegjlahajaaGreatDoor
theorem WL {α β:Type} {cf:β→β→Int} (f:α→β) (h:Sort.SWO (ltOf cf)):Sort.SWO (ltOf fun x y=>cf (f x) (f y)):=⟨fun x=>h.irrefl _,fun x y z=>h.trans _ _ _,fun x y z=>h.ntrans _ _ _⟩
theorem Wd {r:Fr} {cur:List ir} {j:Nat} {z:ir} (h:∀ p∈cur,bK.rel r p.1 p.2) (hz:bK.rel r z.1 z.2):∀ p∈cur.set j z,bK.rel r p.1 p.2:=fun p hp=>(List.mem_or_eq_of_mem_set hp).elim (h p) (fun e=>e ▸ hz)
theorem Wt {r:Fr} {a:Option Addr} {c:Nat} {ps:List ir} (hit:∀ p∈ps,bK.rel r p.1 p.2) (hl:ps.length≤100000000000) :
  ay prog 306 #[.slice a ps.length c,.func (.func 307) #[] #[]] r [av (ag.cells 8) 220 (.slice a ps.length c) (ps.map (·.1))]
   (aL fun v U=>∃ k8:List ir,v=.tuple #[]∧k8.Perm ps∧List.Pairwise lF (k8.map (·.2))∧U=[av (ag.cells 8) 220 (.slice a k8.length c) (k8.map (·.1))]):=by
 by_cases h0:ps=[]
 ·subst h0
  refine (Ws (k:=8) (e:=220) (r:=r) (a:=a) (c:=c) (f2:=307) fun p cap fv w=>AnyF.slices_SortFunc_none Ju p cap fv w).post fun e U h w g hw=>?_
  cases e with
  |returned v=>obtain ⟨rfl,rfl⟩:=h;exact ⟨_,⟨[],rfl,.refl _,.nil,rfl⟩,hw⟩
  |panicked _=>exact h.elim
  |outgrown=>exact h.elim
 ·obtain ⟨E6,P6⟩:=List.exists_mem_of_ne_nil ps h0
  letI:Inhabited {p:ir // bK.rel r p.1 p.2}:=⟨⟨E6,hit E6 P6⟩⟩
  have e1:((ps.attachWith (fun p=>bK.rel r p.1 p.2) hit).map fun x=>x.1.1)=ps.map (·.1):=by
   have e0:=congrArg (List.map fun p:ir=>p.1) (List.attachWith_map_subtype_val hit);rw [List.map_map] at e0;exact e0
  have DG:(ps.attachWith (fun p=>bK.rel r p.1 p.2) hit).length=ps.length:=List.length_attachWith;have hpos:0<ps.length:=List.length_pos_iff.2 h0;have con:=Wr (P:=prog) (f:=306) (f2:=307) (e:=220) (r:=r) (a:=a) (c:=c) (enc:=fun x:{p:ir // bK.rel r p.1 p.2}=>x.1.1) (k:=8) (l:=ps.attachWith (fun p=>bK.rel r p.1 p.2) hit)
   (fun x=>bK.len x.2) aC (fun x=>bK.one x.2) (fun x y=>lT x.1.2 y.1.2) (fun x y=>Sn x.2 y.2)
   (fun blk off cap d w q1 q2 cF nP=>AnyQ.slices_SortFunc Ju 8 isAgg220 (fun w=>Go.Sp.run_sizeOf gF w) (fun x:{p:ir // bK.rel r p.1 p.2}=>x.1.1) (fun x=>bK.len x.2) (fun x=>bK.one x.2) (fun x y=>lT x.1.2 y.1.2) (WL (fun x:{p:ir // bK.rel r p.1 p.2}=>x.1.2) WK) 307 #[] blk off cap d w (enters_of func307 aa rfl) q1 q2 cF nP)
   (by rw [DG];exact hpos) (by rw [DG];omega)
  rw [e1,DG] at con;refine con.post fun e U h w g hw=>?_
  cases e with
  |returned v =>
   obtain ⟨rfl,l',hp,hs,rfl⟩:=h;have nI:(l'.map Subtype.val).Perm ps:=by
    have:=hp.map Subtype.val
    rwa [List.attachWith_map_subtype_val] at this
   have hlen:(l'.map Subtype.val).length=ps.length:=nI.length_eq;refine ⟨_,⟨l'.map Subtype.val,rfl,nI,?_,rfl⟩,?_⟩
   ·rw [List.map_map,List.pairwise_map]
    exact hs.imp fun {x y} h=>tW.2 (of_decide_eq_false h)
   ·rw [hlen,List.map_map];exact hw
  |panicked _=>exact h.elim
  |outgrown=>exact h.elim
theorem M9 {r:Fr} {a:Option Addr} {c:Nat} {ps:List ir} (hit:∀ p∈ps,bK.rel r p.1 p.2) (hl:ps.length≤100000000000) :
  ay prog 309 #[.slice a ps.length c,.func (.func 310) #[] #[]] r [av (ag.cells 8) 220 (.slice a ps.length c) (ps.map (·.1))]
   (aL fun v U=>v=.slice a (eu kH none ps).length c∧U=[av (ag.cells 8) 220 (.slice a (eu kH none ps).length c) ((eu kH none ps).map (·.1))]):=by
 refine ay.of (n:=66) _ rfl func309 rfl rfl rfl fun g hg R hR=>?_;refine S.seq<|S.region rfl<|O.q 1 rfl<|O.nil<|S.seq<|S.seq<|S.region rfl<|O.q 1 rfl<|O.op (.p rfl) (.len rfl underlying216 rfl)<|O.op (.p rfl) (.lss rfl rfl)<|O.nil ?_
 first|refine S.cc rfl (fun h10=>?_) (fun h10=>?_)|refine S.b7 rfl (fun h10=>?_) (fun h10=>?_)
 ·have eb:eu kH none ps=ps:=He ah
  refine S.seq<|S.region rfl<|O.q 2 rfl<|O.nil<|S.ret results309 rfl fun w hw=>Holds.end_ hR hw ?_;exact ⟨[av (ag.cells 8) 220 (.slice a ps.length c) (ps.map (·.1))],⟨by rw [eb],by rw [eb]⟩,by repeat (first|exact aS|exact aU|(apply aT;focus (repeat (first|exact aR|apply zt)))|apply aV)⟩
 ·have h2:2≤ps.length:=by omega
  refine S.lV .here (fun _ x=>x.vZ b5) fun ⟨⟨b,hb⟩,_,hc1,tw⟩=>?_;subst hb;rw [List.length_map] at hc1;refine S.skip<|S.seq<|S.seq<|S.region rfl<|O.q 1 rfl<|O.nil<|S.block<|S.e6 (ι:=Nat) (fun k=>1≤k∧k≤ps.length∧eu kH none (ps.take k)=ps.take k) (fun k=>[(5,.int .i64 (k:Int))]) [(0,_),(1,_)] (fun k=>[av (ag.cells 8) 220 (.slice (some ⟨b,0,none⟩) ps.length c) (ps.map (·.1))]) (fun k=>ps.length - k) (1) (by exact ⟨by omega,by omega,He b5⟩) (.cons rfl (.nil)) (.cons rfl (.cons rfl (.nil))) rfl fun k hx ih=>?_;have aX:=cL (g:=g);obtain ⟨hx1,hx2,qW⟩:=hx;refine S.seq<|S.seq<|S.region rfl<|O.q 2 rfl<|O.op (.p rfl) (.len rfl underlying216 rfl)<|O.op (.p rfl) (.lss rfl rfl)<|O.nil ?_
  first|refine S.cc rfl (fun CN=>?_) (fun CN=>?_)|refine S.b7 rfl (fun CN=>?_) (fun CN=>?_)
  ·have hk:k<ps.length:=by omega
   have hstep:=G9 kH hk ah;have hg1:∀ q,(ps.map (·.2))[k]'q=ps[k].2:=fun q=>List.getElem_map ..;have hg2:∀ q,(ps.map (·.2))[k - 1]'q=(ps[k - 1]'ah).2:=fun q=>List.getElem_map ..
   cases e:kH ps[k] (ps[k - 1]'ah) with
   |false =>
    rw [e,qW] at hstep;have gC:=hg;have gz:=hR;refine S.iD (B:=av (ag.cells 8) 220 (.slice (some ⟨b,0,none⟩) ps.length c) (ps.map (·.1))) ai fun o_ dN ⟨q5,jQ,jR⟩ gp=>?_;replace hg:=Fr.aH hg dN;replace hR:=iy hR gp;have hqi:aj bK _ (.slice (some ⟨b,0,none⟩) ps.length c) (ps.map (·.2)):=aj.kO ((av.arr jQ).mono jR) (tU fun p hp=>ag.mono bK hg (hit p hp)) rfl;refine S.skip<|S.seq<|S.block<|S.seq<|S.bB (L:=[0,1,2,3,4,5,6,7,8,9,10]) bA aa<|af.q 3 rfl<|af.b8 (.p rfl) underlying216 gF rfl rfl rfl (hqi) (h:=fun AG za qQ py=>?_)
    skip
    refine .quiet (.p rfl) rfl (fun _=>.bz isAgg220 (by rw [bK.len py];kernel_rfl) rfl qQ) ?_;refine af.q 2 rfl<|.quiet (.p rfl) rfl (fun _=>.sub rfl rfl (IntWalk.i64_in _ ah))<|af.b8 (.p rfl) underlying216 gF rfl rfl (show _=(((k-1):Nat):Int) by omega) (hqi) (h:=fun T4 Ns DS xI=>?_)
    skip
    refine .quiet (.p rfl) rfl (fun _=>.bz isAgg220 (by rw [bK.len xI];kernel_rfl) rfl DS) ?_;refine af.aB (.p rfl) aa rfl aa rfl rfl ((Ad py xI)) ?_;rintro _ _ ⟨rfl,rfl⟩
    try simp only [an,aq,au]
    refine af.aN 28 rfl (by rw [hg1,hg2];exact e) ?_;refine aI.nil<|S.aQ rfl<|S.skip<|S.inBlock<|S.back gp ?_;replace hg:=gC;replace hR:=gz;clear gC gz;refine S.region rfl<|O.q 1 rfl<|O.op (.p rfl) (.add rfl rfl (IntWalk.i64_in _ ah))<|O.q 1 rfl<|O.nil ?_;exact S.dz (ih (k+1) (by exact ⟨by omega,by omega,by rw [hstep,List.take_succ_eq_append_getElem hk];rfl⟩) ah)
   |true =>
    rw [e,qW] at hstep;clear ih;have gC:=hg;have gz:=hR;refine S.iD (B:=av (ag.cells 8) 220 (.slice (some ⟨b,0,none⟩) ps.length c) (ps.map (·.1))) ai fun o_ dN ⟨q5,jQ,jR⟩ gp=>?_;replace hg:=Fr.aH hg dN;replace hR:=iy hR gp;have hqi:aj bK _ (.slice (some ⟨b,0,none⟩) ps.length c) (ps.map (·.2)):=aj.kO ((av.arr jQ).mono jR) (tU fun p hp=>ag.mono bK hg (hit p hp)) rfl;refine S.skip<|S.seq<|S.block<|S.seq<|S.bB (L:=[0,1,2,3,4,5,6,7,8,9,10]) bA aa<|af.q 3 rfl<|af.b8 (.p rfl) underlying216 gF rfl rfl rfl (hqi) (h:=fun AG za qQ py=>?_)
    skip
    refine .quiet (.p rfl) rfl (fun _=>.bz isAgg220 (by rw [bK.len py];kernel_rfl) rfl qQ) ?_;refine af.q 2 rfl<|.quiet (.p rfl) rfl (fun _=>.sub rfl rfl (IntWalk.i64_in _ ah))<|af.b8 (.p rfl) underlying216 gF rfl rfl (show _=(((k-1):Nat):Int) by omega) (hqi) (h:=fun T4 Ns DS xI=>?_)
    skip
    refine .quiet (.p rfl) rfl (fun _=>.bz isAgg220 (by rw [bK.len xI];kernel_rfl) rfl DS) ?_;refine af.aB (.p rfl) aa rfl aa rfl rfl ((Ad py xI)) ?_;rintro _ _ ⟨rfl,rfl⟩
    try simp only [an,aq,au]
    refine af.sT 28 rfl (by rw [hg1,hg2];exact e) ?_;refine aI.nil<|S.bx rfl<|S.seq<|S.back gp ?_;replace hg:=gC;replace hR:=gz;clear gC gz;refine S.region rfl<|O.q 2 rfl<|O.op (.p rfl) (.iK (p:=k) underlying216 gF rfl rfl ah)<|O.q 1 rfl<|O.nil<|S.seq<|S.seq<|S.slot 6 (v' :=.slice (some ((⟨b,0,none⟩:Addr).add (k*8))) (ps.length - k) (c - k)) rfl (by rw [if_neg ah];rfl) ?_;refine S.region rfl<|O.q 1 rfl<|O.nil<|S.block<|S.x6 (ι:=Nat) (dI:=Nat) (jI:=List ir) (fun j n cur=>1≤n∧k+n≤ps.length∧k≤j∧j+1≤k+n∧cur.length=ps.length∧cur.take j=eu kH none (ps.take (k+n))∧cur.drop j=ps.drop j∧∀ p∈cur,bK.rel r p.1 p.2) (fun j n cur=>[(5,.int .i64 (j:Int)),(7,.int .i64 (n:Int))]) [(0,_),(1,_),(6,_)] (fun j n cur=>[av (ag.cells 8) 220 (.slice (some ⟨b,0,none⟩) ps.length c) (cur.map (·.1))]) (fun j n cur=>ps.length - (k+n)) (k) (1) (ps) (by exact ⟨by omega,by omega,by omega,by omega,rfl,by rw [hstep];simp,rfl,hit⟩) (.cons rfl (.cons rfl (.nil))) (.cons rfl (.cons rfl (.cons rfl (.nil)))) rfl fun j n cur hx ih=>?_;have hm2:=cL (g:=g);obtain ⟨hy1,hy2,I5,Zu,I6,Et,xQ,xR⟩:=hx;refine S.seq<|S.seq<|S.region rfl<|O.q 2 rfl<|O.op (.p rfl) (.len rfl underlying216 rfl)<|O.op (.p rfl) (.lss rfl rfl)<|O.nil ?_
    first|refine S.cc rfl (fun CR=>?_) (fun CR=>?_)|refine S.b7 rfl (fun CR=>?_) (fun CR=>?_)
    ·have hn:k+n<ps.length:=by omega
     have z_:=G9 kH hn ah;have p7:∀ q,((cur.map (·.2)).drop k)[n]'q=ps[k+n].2:=fun q=>by rw [List.getElem_drop,List.getElem_map,Cs xQ ah ah hn]
     have vv:∀ q,((cur.map (·.2)).drop k)[n - 1]'q=(ps[k+n - 1]'ah).2:=fun q=>by
      have nv:k+(n - 1)=k+n - 1:=by omega
      simp only [List.getElem_drop,List.getElem_map,nv];rw [Cs xQ ah ah ah]
     cases e2:kH ps[k+n] (ps[k+n - 1]'ah) with
     |true =>
      rw [e2] at z_;have gC:=hg;have gz:=hR;refine S.iD (B:=av (ag.cells 8) 220 (.slice (some ⟨b,0,none⟩) ps.length c) (cur.map (·.1))) ai fun o_ dN ⟨q5,jQ,jR⟩ gp=>?_;replace hg:=Fr.aH hg dN;replace hR:=iy hR gp;have hqi:=aj.from (p:=k) (aj.kO ((av.arr jQ).mono jR) (tU fun p hp=>ag.mono bK hg (xR p hp)) rfl:aj bK _ (.slice (some ⟨b,0,none⟩) ps.length c) (cur.map (·.2))) ah;refine S.skip<|S.seq<|S.block<|S.seq<|S.bB (L:=[0,1,2,3,4,5,6,7,8,9,10,11]) bA aa<|af.q 3 rfl<|af.b8 (.p rfl) underlying216 gF rfl rfl rfl (hqi) (h:=fun AI zb qR pE=>?_)
      skip
      refine .quiet (.p rfl) rfl (fun _=>.bz isAgg220 (by rw [bK.len pE];kernel_rfl) rfl qR) ?_;refine af.q 2 rfl<|.quiet (.p rfl) rfl (fun _=>.sub rfl rfl (IntWalk.i64_in _ ah))<|af.b8 (.p rfl) underlying216 gF rfl rfl (show _=(((n-1):Nat):Int) by omega) (hqi) (h:=fun T8 Nw DX xJ=>?_)
      skip
      refine .quiet (.p rfl) rfl (fun _=>.bz isAgg220 (by rw [bK.len xJ];kernel_rfl) rfl DX) ?_;refine af.aB (.p rfl) aa rfl aa rfl rfl ((Ad pE xJ)) ?_;rintro _ _ ⟨rfl,rfl⟩
      try simp only [an,aq,au]
      refine af.sT 48 rfl (by rw [p7,vv];exact e2) ?_;refine .quiet (.p rfl) rfl (fun _=>.not rfl)<|aI.nil<|S.aQ rfl<|S.skip<|S.inBlock<|S.back gp ?_;replace hg:=gC;replace hR:=gz;clear gC gz;refine S.region rfl<|O.q 1 rfl<|O.op (.p rfl) (.add rfl rfl (IntWalk.i64_in _ ah))<|O.q 1 rfl<|O.nil ?_;exact S.dz (ih (j) (n+1) (cur) (by exact ⟨by omega,by omega,by omega,by omega,I6,by rw [Et,show k+(n+1)=k+n+1 from rfl,z_];simp,xQ,xR⟩) ah)
     |false =>
      rw [e2] at z_;have gC:=hg;have gz:=hR;refine S.iD (B:=av (ag.cells 8) 220 (.slice (some ⟨b,0,none⟩) ps.length c) (cur.map (·.1))) ai fun o_ dN ⟨q5,jQ,jR⟩ gp=>?_;replace hg:=Fr.aH hg dN;replace hR:=iy hR gp;have hqi:=aj.from (p:=k) (aj.kO ((av.arr jQ).mono jR) (tU fun p hp=>ag.mono bK hg (xR p hp)) rfl:aj bK _ (.slice (some ⟨b,0,none⟩) ps.length c) (cur.map (·.2))) ah;refine S.skip<|S.seq<|S.block<|S.seq<|S.bB (L:=[0,1,2,3,4,5,6,7,8,9,10,11]) bA aa<|af.q 3 rfl<|af.b8 (.p rfl) underlying216 gF rfl rfl rfl (hqi) (h:=fun AI zb qR pE=>?_)
      skip
      refine .quiet (.p rfl) rfl (fun _=>.bz isAgg220 (by rw [bK.len pE];kernel_rfl) rfl qR) ?_;refine af.q 2 rfl<|.quiet (.p rfl) rfl (fun _=>.sub rfl rfl (IntWalk.i64_in _ ah))<|af.b8 (.p rfl) underlying216 gF rfl rfl (show _=(((n-1):Nat):Int) by omega) (hqi) (h:=fun T8 Nw DX xJ=>?_)
      skip
      refine .quiet (.p rfl) rfl (fun _=>.bz isAgg220 (by rw [bK.len xJ];kernel_rfl) rfl DX) ?_;refine af.aB (.p rfl) aa rfl aa rfl rfl ((Ad pE xJ)) ?_;rintro _ _ ⟨rfl,rfl⟩
      try simp only [an,aq,au]
      refine af.aN 48 rfl (by rw [p7,vv];exact e2) ?_;refine .quiet (.p rfl) rfl (fun _=>.not rfl)<|aI.nil<|S.bx rfl<|S.seq<|S.back gp ?_;replace hg:=gC;replace hR:=gz;clear gC gz;have Io:cur[k+n]'ah=ps[k+n]:=Cs xQ ah ah hn;have Eg:=xR _ (List.getElem_mem (show k+n<cur.length by omega));refine S.region rfl<|O.q 4 rfl<|O.op (.p rfl) (.RH (K:=8) (p:=k) (j:=n) underlying216 gF rfl rfl rfl ah)<|O.op (.p rfl) (.S7 (K:=8) (j:=k+n) isAgg220 gF rfl ai b5) ?_;refine O.aM (.p rfl) (.ot (T:=(ag.cells 8)) underlying216 gF rfl rfl (show _=(((j):Nat):Int) by omega) ai oM) ?_;rintro _ _ ⟨aaf,rfl,Qj,rfl⟩;refine O.bu rfl (.rj gF rfl Qj rfl ai oM (by exact ⟨rfl,by rw [List.getElem_map];exact bK.len Eg,by rw [List.getElem_map];exact bK.one Eg⟩:ag.rel _ _ _ ((cur.map (·.1))[k+n]'b5))) ?_;refine O.nil ?_;rw [show (cur.map (·.1)).set j ((cur.map (·.1))[k+n]'b5)=(cur.set j ps[k+n]).map (·.1) from by rw [List.getElem_map,Io,List.map_set]];refine S.region rfl<|O.q 1 rfl<|O.op (.p rfl) (.add rfl rfl (IntWalk.i64_in _ ah))<|O.q 1 rfl<|O.nil<|S.inBlock<|S.region rfl<|O.q 1 rfl<|O.op (.p rfl) (.add rfl rfl (IntWalk.i64_in _ ah))<|O.q 1 rfl<|O.nil ?_
      exact S.dz (ih (j+1) (n+1) (cur.set j ps[k+n]) (by exact ⟨by omega,by omega,by omega,by omega,by simp [I6],by rw [show k+(n+1)=k+n+1 from rfl,z_,← Et,List.take_succ_eq_append_getElem b5,List.getElem_set_self,List.take_set_of_le (Nat.le_refl _)];simp,by rw [List.drop_set_of_lt ah,← List.drop_drop (i:=1) (j:=j),xQ,List.drop_drop],Wd xR (by rw [← Io];exact Eg)⟩) ah)
    ·clear ih
     have hn:k+n=ps.length:=by omega
     have mL:eu kH none ps=cur.take j:=by rw [Et,hn,List.take_length]
     obtain ⟨ds,hds⟩:∃ ds,(cur.take j).map (·.1)=ds:=⟨_,rfl⟩;have hdl:ds.length=j:=by rw [← hds];simp;omega
     have hjl:(cur.take j).length=ds.length:=by rw [hdl];simp;omega
     refine S.conv (B:=av (ag.cells 8) 220 (.slice (some ⟨b,0,none⟩) ps.length c) (cur.map (·.1))) (C:=av (ag.cells 8) 220 (.slice (some ⟨b,0,none⟩) ds.length c) ds) ai (fun m x=>⟨m,Fr.bU _,av.take (ys:=(cur.drop j).map (·.1)) rfl (by rw [← hds,← List.map_append,List.take_append_drop];exact x)⟩) ?_;subst hdl;refine S.exit rfl<|S.seq<|S.region rfl<|O.q 2 rfl<|O.op (.p rfl) (.iK (p:=ds.length) underlying216 gF rfl rfl ah)<|O.B8 rfl underlying216 s5 (by first|(simp;done)|(intro v hv;simp [Value.cells] at hv;rcases hv with rfl|rfl<;>rfl)|(refine List.forall_mem_cons.2 ⟨rfl,?_⟩;repeat (first|exact (fun _ h=>absurd h List.not_mem_nil)|refine List.forall_mem_cons.2 ⟨rfl,?_⟩))) aC ah hc1 rfl ai ?_;refine O.nil<|S.seq<|S.region rfl<|O.q 2 rfl<|O.op (.p rfl) (.ur (p:=ds.length) underlying216 gF rfl rfl ah)<|O.q 1 rfl<|O.nil<|S.ret results309 rfl fun w hw=>Holds.end_ hR hw ?_;exact ⟨[av (ag.cells 8) 220 (.slice (some ⟨b,0,none⟩) ds.length c) ds],⟨by rw [mL,hjl],by rw [mL,hjl,hds]⟩,by repeat (first|exact aS|exact aU|(apply aT;focus (repeat (first|exact aR|apply zt)))|apply aV)⟩
  ·clear ih
   have hk:k=ps.length:=by omega
   rw [hk,List.take_length] at qW;refine S.exit rfl<|S.seq<|S.region rfl<|O.q 2 rfl<|O.nil<|S.ret results309 rfl fun w hw=>Holds.end_ hR hw ?_;exact ⟨[av (ag.cells 8) 220 (.slice (some ⟨b,0,none⟩) ps.length c) (ps.map (·.1))],⟨by rw [qW],by rw [qW]⟩,by repeat (first|exact aS|exact aU|(apply aT;focus (repeat (first|exact aR|apply zt)))|apply aV)⟩
theorem M8 {s:List ir}:(eu kH none s).map (·.2)=qD (s.map (·.2)):=G_ (fun p:ir=>p.2) s6 none s
theorem Cd {α:Type} (eq:α→α→Bool):∀ (p:Option α) (l:List α),∀ x∈eu eq p l,x∈l
 |_,[],_,h=>h
 |p,a::l,x,h=>by
  simp only [eu] at h
  split at h
  ·exact List.mem_cons_of_mem _ (Cd eq _ l x h)
  ·rcases List.mem_cons.1 h with rfl|h
   ·exact List.mem_cons_self
   ·exact List.mem_cons_of_mem _ (Cd eq _ l x h)
def Ah (cs:List ir):List ir:=cs.filter fun p=>!iq (cs.map (·.2)) p.2
theorem SV {s:List ir}:(Ah (eu kH none s)).map (·.2)=r6 (s.map (·.2)):=by
 unfold Ah r6;rw [← M8,List.filter_map]
 rfl
theorem SU {cs:List ir} {i:Nat} (hi:i<cs.length):(cs.take (i+1)).filter (fun p=>!iq (cs.map (·.2)) p.2)=(cs.take i).filter (fun p=>!iq (cs.map (·.2)) p.2)++if iq (cs.map (·.2)) cs[i].2 then [] else [cs[i]]:=by
 rw [List.take_succ_eq_append_getElem hi,List.filter_append]
 congr 1
 cases h:iq (cs.map (·.2)) cs[i].2<;>simp [h]
theorem Xo {r:Fr} {b:Nat} {a:Option Addr} {c:Nat} {ps:List ir} (hit:∀ p∈ps,bK.rel r p.1 p.2) (ho:∀ p∈ps,ee p.2=true) (hl:ps.length≤100000000000) :
  ay prog 241 #[.pointer (some ⟨b,0,none⟩)] r [obj b 306 [.slice a ps.length c],av (ag.cells 8) 220 (.slice a ps.length c) (ps.map (·.1))]
   (aL fun v U=>∃ (k8:List ir) (a' :Option Addr) (c' :Nat),v=.tuple #[]∧k8.map (·.2)=jo (ps.map (·.2))∧(∀ p∈k8,bK.rel r p.1 p.2)∧U=[obj b 306 [.slice a' k8.length c'],av (ag.cells 8) 220 (.slice a' k8.length c') (k8.map (·.1))]):=by
 refine ay.of (n:=47) _ rfl func241 rfl rfl rfl fun g hg R hR=>?_;refine S.seq<|S.region rfl<|O.q 1 rfl<|O.op (.p rfl) (.nilCheck rfl)<|O.op (.p rfl) (.aD qH rfl)<|O.op (.p rfl) (.aD jj rfl)<|O.op (.p rfl) (.lo jh) ?_;refine O.bM (.p rfl) rfl aa rfl rfl ai ((Wt hit hl).sub hg) ?_;rintro v10 _ ⟨ss,rfl,hss,hsw,rfl⟩
 try simp only [an,aq,au]
 refine O.nil (S.seq ?_);have fI:ss.length=ps.length:=hss.length_eq;have IY:∀ p∈ss,bK.rel r p.1 p.2:=fun p hp=>hit p (hss.mem_iff.1 hp);rw [← fI];refine S.region rfl<|O.q 2 rfl<|O.op (.p rfl) (.nilCheck rfl)<|O.op (.p rfl) (.aD qH rfl)<|O.op (.p rfl) (.aD jj rfl)<|O.op (.p rfl) (.lo jh) ?_;refine O.bM (.p rfl) rfl aa rfl rfl ai ((M9 IY ah).sub hg) ?_;rintro _ _ ⟨rfl,rfl⟩
 try simp only [an,aq,au]
 refine O.op (.p rfl) (.nilCheck rfl)<|O.op (.p rfl) (.aD qH rfl)<|O.op (.p rfl) (.aD jj rfl)<|O.bu rfl (.bn jh rfl rfl bq ai aW) ?_;refine O.nil (S.seq ?_);have Iz:(Ah (eu kH none ss)).map (·.2)=jo (ps.map (·.2)):=by
  rw [SV];exact Sx (hss.map _) hsw fun x hx=>by obtain ⟨p,hp,rfl⟩:=List.mem_map.1 hx;exact ho p hp
 have eb:=Cb kH none ss;have zQ:∀ p∈eu kH none ss,bK.rel r p.1 p.2:=fun p hp=>IY p (Cd kH none ss p hp);generalize eu kH none ss=cs at Iz eb zQ ⊢;refine S.region rfl<|O.q 1 rfl<|O.nil<|S.seq<|S.seq<|S.region rfl<|O.q 1 rfl<|O.op (.p rfl) (.nilCheck rfl)<|O.op (.p rfl) (.aD qH rfl)<|O.op (.p rfl) (.aD jj rfl)<|O.op (.p rfl) (.lo jh) ?_;refine O.op (.p rfl) (.len rfl underlying216 rfl)<|O.q 1 rfl<|O.nil<|S.block<|S.gh (T:=ag.cells 8) (e:=220) ?_;have fq:=hg;have fp:=hR;refine S.iD (B:=obj b 306 [.slice a cs.length c]) ai fun go cI ⟨qf,hmo,jE⟩ eT=>?_;replace hg:=Fr.aH hg cI;replace hR:=iy hR eT;have qN:=(gf hmo).mono jE;have gC:=hg;have gz:=hR;refine S.iD (B:=av (ag.cells 8) 220 (.slice a cs.length c) (cs.map (·.1))) ai fun o_ dN ⟨q5,jQ,jR⟩ gp=>?_;replace hg:=Fr.aH hg dN;replace hR:=iy hR gp;have hqi:aj bK _ (.slice a cs.length c) (cs.map (·.2)):=aj.kO ((av.arr jQ).mono jR) (tU fun p hp=>ag.mono bK hg (zQ p hp)) rfl;have D7:=(av.arr jQ).mono jR;replace qN:=qN.mono dN;have hrow:ru _ b (cs.map (·.2)):=⟨a,c,by rw [List.length_map];exact qN,by rw [List.length_map];exact hqi⟩
 refine S.jT (ι:=Nat) (dI:=Option Addr × Nat) (fun i s=>i≤cs.length) (fun i s=>[(27,.int .i64 (i:Int)),(2,.slice s.1 ((cs.take i).filter fun p=>!iq (cs.map (·.2)) p.2).length s.2)]) [(0,_),(25,_),(26,_)] (fun i s=>[av (ag.cells 8) 220 (.slice s.1 ((cs.take i).filter fun p=>!iq (cs.map (·.2)) p.2).length s.2) (((cs.take i).filter fun p=>!iq (cs.map (·.2)) p.2).map (·.1))]) (fun i s=>cs.length - i) (0) ((none,0)) bI (.cons rfl (.cons rfl (.nil))) (.cons rfl (.cons rfl (.cons rfl (.nil)))) rfl fun i s hx ih=>?_;have aX:=cL (g:=o_);refine S.seq<|S.region rfl<|O.op (.p rfl) (.lss rfl rfl)<|O.nil (S.seq ?_)
 first|refine S.cc rfl (fun tf=>?_) (fun tf=>?_)|refine S.b7 rfl (fun tf=>?_) (fun tf=>?_)
 ·have hi:i<cs.length:=by omega
  have hst:=SU hi;have tI:((cs.take i).filter fun p=>!iq (cs.map (·.2)) p.2).length≤i:=Nat.le_trans (List.length_filter_le ..) b5;have vA:=ag.mono bK hg (zQ _ (List.getElem_mem hi));have mM:=bK.len vA;have hone:=bK.one vA;refine S.skip<|S.seq<|S.block<|S.seq<|S.region rfl<|O.b8 (.p rfl) underlying216 gF rfl rfl rfl (D7) (h:=fun T6 Nu xD Ec=>?_);obtain ⟨rfl,_,_⟩:=Ec;refine O.op (.p rfl) (.bz isAgg220 (by rw [List.getElem_map,mM];kernel_rfl) rfl xD) ?_;refine O.aM (.p rfl) (.alloc (cs:=[.string ⟨#[]⟩,.int .i64 0,.int .i64 0,.slice none 0 0,.bool false,.slice none 0 0,.slice none 0 0,.slice none 0 0]) zeroValue220 rfl) ?_;rintro _ _ ⟨b4,rfl,rfl⟩;refine O.bu rfl (.cZ (news:=cs[i].1) (by rw [mM];kernel_rfl) rfl rfl sO (List.all_eq_true.2 hone) ai (by rw [mM];decide)) ?_;refine O.nil<|S.seq<|S.c7 (b:=b4) (cs' :=cs[i].1) ai (by rw [List.drop_eq_nil_of_le (by rw [mM];decide)];simp) ?_;refine S.cW ai fun g hs hm hb4=>?_;replace hg:=Fr.aH hg hs;replace hR:=bp hR hm
  try replace hqi:=hqi.mono hs
  try replace D7:=D7.mono hs
  try replace qN:=qN.mono hs
  try replace hrow:=hrow.mono hs
  try replace vA:=vA.mono hs
  try replace xD:=xD.mono hs
  replace aX:=dH aX hm;clear hs hm
  cases e:iq (cs.map (·.2)) cs[i].2 with
  |true =>
   rw [e] at hst;rw [if_pos rfl,List.append_nil] at hst;refine S.bB (L:=[0,1,2,3,4,5]) bA aa ?_;refine af.q 1 rfl<|.quiet (.p rfl) rfl (fun _=>.nilCheck rfl)<|.quiet (.p rfl) rfl (fun _=>.fieldAddr qH rfl)<|.quiet (.p rfl) rfl (fun _=>.bz isAgg220 (by rw [mM];kernel_rfl) rfl hb4) ?_;refine af.aB (.p rfl) aa rfl aa rfl rfl (v7 hrow vA) ?_;rintro _ _ ⟨rfl,rfl⟩
   try simp only [an,aq,au]
   refine af.sT 35 rfl (by exact e) ?_;refine .quiet (.p rfl) rfl (fun _=>.not rfl)<|aI.nil<|S.aQ rfl<|S.skip<|S.inBlock<|S.region rfl<|O.op (.p rfl) (.add rfl rfl (IntWalk.i64_in _ ah))<|O.q 1 rfl<|O.nil ?_;rw [← hst];exact S.ic aX (S.dz (ih (i+1) (s) ah ah))
  |false =>
   rw [e] at hst;rw [if_neg Bool.false_ne_true] at hst;refine S.bB (L:=[0,1,2,3,4,5]) bA aa ?_;refine af.q 1 rfl<|.quiet (.p rfl) rfl (fun _=>.nilCheck rfl)<|.quiet (.p rfl) rfl (fun _=>.fieldAddr qH rfl)<|.quiet (.p rfl) rfl (fun _=>.bz isAgg220 (by rw [mM];kernel_rfl) rfl hb4) ?_;refine af.aB (.p rfl) aa rfl aa rfl rfl (v7 hrow vA) ?_;rintro _ _ ⟨rfl,rfl⟩
   try simp only [an,aq,au]
   refine af.aN 35 rfl (by exact e) ?_;refine .quiet (.p rfl) rfl (fun _=>.not rfl)<|aI.nil<|S.bx rfl<|S.region rfl<|O.q 1 rfl<|O.op (.p rfl) (.bz isAgg220 (by rw [mM];kernel_rfl) rfl hb4) ?_;refine O.aM (.p rfl) (.ct (T:=ag.cells 8) (ys:=[cs[i].1]) underlying216 s5 aC rfl rfl ⟨⟨rfl,mM,hone⟩,trivial⟩ aC) ?_;rintro _ _ ⟨a39,B0,rfl,rfl⟩;refine O.aM (.p rfl) (.gT (T:=(ag.cells 8)) underlying216 s5 aC rfl rfl ai ai bJ bJ) ?_;rintro _ _ ⟨a40,u3,rfl,rfl⟩;refine O.q 1 rfl<|O.nil (S.inBlock ?_);rw [show List.map (fun p:ir=>p.1) ((cs.take i).filter fun p=>!iq (cs.map (·.2)) p.2)++[cs[i].1]=((cs.take (i+1)).filter fun p=>!iq (cs.map (·.2)) p.2).map (·.1) from by rw [hst,List.map_append];rfl,show (List.map (fun p:ir=>p.1) ((cs.take i).filter fun p=>!iq (cs.map (·.2)) p.2)).length+[cs[i].1].length=((cs.take (i+1)).filter fun p=>!iq (cs.map (·.2)) p.2).length from by rw [hst,List.length_append,List.length_map];rfl];refine S.region rfl<|O.op (.p rfl) (.add rfl rfl (IntWalk.i64_in _ ah))<|O.q 1 rfl<|O.nil ?_;exact S.ic aX (S.dz (ih (i+1) ((a40,u3)) ah ah))
 ·clear ih
  have hi:i=cs.length:=by omega
  subst hi;rw [List.take_length];have D8:∀ p∈cs.filter fun p=>!iq (cs.map (·.2)) p.2,bK.rel r p.1 p.2:=fun p hp=>zQ p (List.mem_filter.1 hp).1;refine S.back gp ?_;replace hg:=gC;replace hR:=gz;clear gC gz;refine S.back eT ?_;replace hg:=fq;replace hR:=fp;clear fq fp;refine S.exit rfl<|S.region rfl<|O.q 2 rfl<|O.op (.p rfl) (.nilCheck rfl)<|O.op (.p rfl) (.aD qH rfl)<|O.op (.p rfl) (.aD jj rfl)<|O.bu rfl (.bn jh rfl rfl bq ai aW) ?_;refine O.nil<|S.ev results241 fun w hw=>Holds.end_ hR hw ?_;exact pk ⟨Ah cs,s.1,s.2,rfl,Iz,D8,rfl⟩
abbrev cD:rz:=⟨5,3,24,191,102,31,196,27,112,0,0,0,0⟩
abbrev aJ:eX:=⟨77,31,9⟩
theorem Kr {x:aP} {v3 v5 v6:Value} {m:Fr} (h:ee x=true) (hs:Sat (yo x v3 v5 v6) m):(ef cD).own (ug x v3 v5 v6) x m:=by
 have h1:=yz.1 (vW.1 h).1;have hd:=wT.1 h1.2.2.1;simp only [iJ] at hd;exact ef.mk ah ⟨by omega,by omega⟩ ⟨by omega,by omega⟩ hs
end Go.Proofs.YtojafegjlahajaaGreatDoor
