/- Texts of this proof. -/
import Derived.Test.YtojafegjlahajaaGreatDoorQSortFLay
import Derived.Test.YtojafegjlahajaaGreatDoorQSpSortG
import Derived.Test.YtojafegjlahajaaGreatDoorQGet3
open Go Go.Sp Go.Proofs.Tryz
set_option maxRecDepth 100000
set_option maxHeartbeats 1000000
attribute [local irreducible] obj Own OwnP
namespace Go.Proofs.YtojafegjlahajaaGreatDoor
theorem swo_pull {α β:Type} {cf:β→β→Int} (f:α→β) (h:Sort.SWO (ltOf cf)):Sort.SWO (ltOf fun x y=>cf (f x) (f y)):=⟨fun x=>h.irrefl _,fun x y z=>h.trans _ _ _,fun x y z=>h.ntrans _ _ _⟩
theorem set_rel {r:Fr} {cur:List ItP} {j:Nat} {z:ItP} (h:∀ p∈cur,ItRp.rel r p.1 p.2) (hz:ItRp.rel r z.1 z.2):∀ p∈cur.set j z,ItRp.rel r p.1 p.2:=fun p hp=>(List.mem_or_eq_of_mem_set hp).elim (h p) (fun e=>e ▸ hz)
theorem sortItems_c {r:Fr} {a:Option Addr} {c:Nat} {ps:List ItP} (hit:∀ p∈ps,ItRp.rel r p.1 p.2) (hl:ps.length≤100000000000) :
  Con prog 306 #[.slice a ps.length c,.func (.func 307) #[] #[]] r [OwnP (Rp.cells 8) 220 (.slice a ps.length c) (ps.map (·.1))]
   (Ret fun v η=>∃ qs:List ItP,v=.tuple #[]∧qs.Perm ps∧List.Pairwise leIt (qs.map (·.2))∧η=[OwnP (Rp.cells 8) 220 (.slice a qs.length c) (qs.map (·.1))]):=by
 by_cases h0:ps=[]
 ·subst h0
  refine (sortG_nil (k:=8) (e:=220) (r:=r) (a:=a) (c:=c) (f2:=307) fun p cap fv w=>AnyF.slices_SortFunc_none layF p cap fv w).post fun e η h w g hw=>?_
  cases e with
  |returned v=>obtain ⟨rfl,rfl⟩:=h;exact ⟨_,⟨[],rfl,.refl _,.nil,rfl⟩,hw⟩
  |panicked _=>exact h.elim
  |outgrown=>exact h.elim
 ·obtain ⟨p0,hp0⟩:=List.exists_mem_of_ne_nil ps h0
  letI:Inhabited {p:ItP // ItRp.rel r p.1 p.2}:=⟨⟨p0,hit p0 hp0⟩⟩
  have e1:((ps.attachWith (fun p=>ItRp.rel r p.1 p.2) hit).map fun x=>x.1.1)=ps.map (·.1):=by
   have e0:=congrArg (List.map fun p:ItP=>p.1) (List.attachWith_map_subtype_val hit);rw [List.map_map] at e0;exact e0
  have hll:(ps.attachWith (fun p=>ItRp.rel r p.1 p.2) hit).length=ps.length:=List.length_attachWith;have hpos:0<ps.length:=List.length_pos_iff.2 h0;have con:=sortG_con (P:=prog) (f:=306) (f2:=307) (e:=220) (r:=r) (a:=a) (c:=c) (enc:=fun x:{p:ItP // ItRp.rel r p.1 p.2}=>x.1.1) (k:=8) (l:=ps.attachWith (fun p=>ItRp.rel r p.1 p.2) hit)
   (fun x=>ItRp.len x.2) zF (fun x=>ItRp.one x.2) (fun x y=>cmpIt x.1.2 y.1.2) (fun x y=>joinCmp_c x.2 y.2)
   (fun blk off cap d w q1 q2 q3 q4=>AnyQ.slices_SortFunc layF 8 isAgg220 (fun w=>Go.Sp.run_sizeOf size220 w) (fun x:{p:ItP // ItRp.rel r p.1 p.2}=>x.1.1) (fun x=>ItRp.len x.2) (fun x=>ItRp.one x.2) (fun x y=>cmpIt x.1.2 y.1.2) (swo_pull (fun x:{p:ItP // ItRp.rel r p.1 p.2}=>x.1.2) swoIt) 307 #[] blk off cap d w (enters_of func307 zD rfl) q1 q2 q3 q4)
   (by rw [hll];exact hpos) (by rw [hll];omega)
  rw [e1,hll] at con;refine con.post fun e η h w g hw=>?_
  cases e with
  |returned v =>
   obtain ⟨rfl,l',hp,hs,rfl⟩:=h;have hpm:(l'.map Subtype.val).Perm ps:=by
    have:=hp.map Subtype.val
    rwa [List.attachWith_map_subtype_val] at this
   have hlen:(l'.map Subtype.val).length=ps.length:=hpm.length_eq;refine ⟨_,⟨l'.map Subtype.val,rfl,hpm,?_,rfl⟩,?_⟩
   ·rw [List.map_map,List.pairwise_map]
    exact hs.imp fun {x y} h=>leIt_iff.2 (of_decide_eq_false h)
   ·rw [hlen,List.map_map];exact hw
  |panicked _=>exact h.elim
  |outgrown=>exact h.elim
theorem compact_c {r:Fr} {a:Option Addr} {c:Nat} {ps:List ItP} (hit:∀ p∈ps,ItRp.rel r p.1 p.2) (hl:ps.length≤100000000000) :
  Con prog 309 #[.slice a ps.length c,.func (.func 310) #[] #[]] r [OwnP (Rp.cells 8) 220 (.slice a ps.length c) (ps.map (·.1))]
   (Ret fun v η=>v=.slice a (compF eqP none ps).length c∧η=[OwnP (Rp.cells 8) 220 (.slice a (compF eqP none ps).length c) ((compF eqP none ps).map (·.1))]):=by
 refine Con.of (n:=66) _ rfl func309 rfl rfl rfl fun g hg R hR=>?_;refine S.seq<|S.region rfl<|O.q 1 rfl<|O.nil<|S.seq<|S.seq<|S.region rfl<|O.q 1 rfl<|O.op (.p rfl) (.len rfl underlying216 rfl)<|O.op (.p rfl) (.lss rfl rfl)<|O.nil ?_
 first|refine S.condD rfl (fun h10=>?_) (fun h10=>?_)|refine S.condB rfl (fun h10=>?_) (fun h10=>?_)
 ·have hcl:compF eqP none ps=ps:=compF_small zC
  refine S.seq<|S.region rfl<|O.q 2 rfl<|O.nil<|S.ret results309 rfl fun w hw=>Holds.end_ hR hw ?_;exact ⟨[OwnP (Rp.cells 8) 220 (.slice a ps.length c) (ps.map (·.1))],⟨by rw [hcl],by rw [hcl]⟩,by repeat (first|exact zpa|exact zpn|(apply zpc;focus (repeat (first|exact zh|apply zt)))|apply zps)⟩
 ·have h2:2≤ps.length:=by omega
  refine S.factS .here (fun _ x=>x.solid zK) fun ⟨⟨b,hb⟩,_,hc1,hc2⟩=>?_;subst hb;rw [List.length_map] at hc1;refine S.skip<|S.seq<|S.seq<|S.region rfl<|O.q 1 rfl<|O.nil<|S.block<|S.loopK (ι:=Nat) (fun k=>1≤k∧k≤ps.length∧compF eqP none (ps.take k)=ps.take k) (fun k=>[(5,.int .i64 (k:Int))]) [(0,_),(1,_)] (fun k=>[OwnP (Rp.cells 8) 220 (.slice (some ⟨b,0,none⟩) ps.length c) (ps.map (·.1))]) (fun k=>ps.length - k) (1) (by exact ⟨by omega,by omega,compF_small zK⟩) (.cons rfl (.nil)) (.cons rfl (.cons rfl (.nil))) rfl fun k hx ih=>?_;have hm1:=meltRefl (g:=g);obtain ⟨hx1,hx2,hx3⟩:=hx;refine S.seq<|S.seq<|S.region rfl<|O.q 2 rfl<|O.op (.p rfl) (.len rfl underlying216 rfl)<|O.op (.p rfl) (.lss rfl rfl)<|O.nil ?_
  first|refine S.condD rfl (fun h15=>?_) (fun h15=>?_)|refine S.condB rfl (fun h15=>?_) (fun h15=>?_)
  ·have hk:k<ps.length:=by omega
   have hstep:=compF_at eqP hk zC;have hg1:∀ q,(ps.map (·.2))[k]'q=ps[k].2:=fun q=>List.getElem_map ..;have hg2:∀ q,(ps.map (·.2))[k - 1]'q=(ps[k - 1]'zC).2:=fun q=>List.getElem_map ..
   cases e:eqP ps[k] (ps[k - 1]'zC) with
   |false =>
    rw [e,hx3] at hstep;have hg_q:=hg;have hR_q:=hR;refine S.frzH (B:=OwnP (Rp.cells 8) 220 (.slice (some ⟨b,0,none⟩) ps.length c) (ps.map (·.1))) zB fun gq hsq ⟨mq,hmq,hsmq⟩ hbq=>?_;replace hg:=Fr.sub_trans hg hsq;replace hR:=backR hR hbq;have hqi:Arr ItRp _ (.slice (some ⟨b,0,none⟩) ps.length c) (ps.map (·.2)):=Arr.ofCells ((OwnP.arr hmq).mono hsmq) (it_all2 fun p hp=>Rp.mono ItRp hg (hit p hp)) rfl;refine S.skip<|S.seq<|S.block<|S.seq<|S.regionD (L:=[0,1,2,3,4,5,6,7,8,9,10]) mixedF zD<|OD.q 3 rfl<|OD.ia (.p rfl) underlying216 size220 rfl rfl rfl (hqi) (h:=fun p21 cs21 hp21 hr21=>?_)
    skip
    refine .quiet (.p rfl) rfl (fun _=>.loadAgg isAgg220 (by rw [ItRp.len hr21];kernel_rfl) rfl hp21) ?_;refine OD.q 2 rfl<|.quiet (.p rfl) rfl (fun _=>.sub rfl rfl (IntWalk.i64_in _ zC))<|OD.ia (.p rfl) underlying216 size220 rfl rfl (show _=(((k-1):Nat):Int) by omega) (hqi) (h:=fun p26 cs26 hp26 hr26=>?_)
    skip
    refine .quiet (.p rfl) rfl (fun _=>.loadAgg isAgg220 (by rw [ItRp.len hr26];kernel_rfl) rfl hp26) ?_;refine OD.call0 (.p rfl) zD rfl zD rfl rfl ((joinEq_c hr21 hr26)) ?_;rintro _ _ ⟨rfl,rfl⟩
    try simp only [zx1,zx2,zx3]
    refine OD.sF 28 rfl (by rw [hg1,hg2];exact e) ?_;refine ODx.nil<|S.condF rfl<|S.skip<|S.inBlock<|S.back hbq ?_;replace hg:=hg_q;replace hR:=hR_q;clear hg_q hR_q;refine S.region rfl<|O.q 1 rfl<|O.op (.p rfl) (.add rfl rfl (IntWalk.i64_in _ zC))<|O.q 1 rfl<|O.nil ?_;exact S.wk (ih (k+1) (by exact ⟨by omega,by omega,by rw [hstep,List.take_succ_eq_append_getElem hk];rfl⟩) zC)
   |true =>
    rw [e,hx3] at hstep;clear ih;have hg_q:=hg;have hR_q:=hR;refine S.frzH (B:=OwnP (Rp.cells 8) 220 (.slice (some ⟨b,0,none⟩) ps.length c) (ps.map (·.1))) zB fun gq hsq ⟨mq,hmq,hsmq⟩ hbq=>?_;replace hg:=Fr.sub_trans hg hsq;replace hR:=backR hR hbq;have hqi:Arr ItRp _ (.slice (some ⟨b,0,none⟩) ps.length c) (ps.map (·.2)):=Arr.ofCells ((OwnP.arr hmq).mono hsmq) (it_all2 fun p hp=>Rp.mono ItRp hg (hit p hp)) rfl;refine S.skip<|S.seq<|S.block<|S.seq<|S.regionD (L:=[0,1,2,3,4,5,6,7,8,9,10]) mixedF zD<|OD.q 3 rfl<|OD.ia (.p rfl) underlying216 size220 rfl rfl rfl (hqi) (h:=fun p21 cs21 hp21 hr21=>?_)
    skip
    refine .quiet (.p rfl) rfl (fun _=>.loadAgg isAgg220 (by rw [ItRp.len hr21];kernel_rfl) rfl hp21) ?_;refine OD.q 2 rfl<|.quiet (.p rfl) rfl (fun _=>.sub rfl rfl (IntWalk.i64_in _ zC))<|OD.ia (.p rfl) underlying216 size220 rfl rfl (show _=(((k-1):Nat):Int) by omega) (hqi) (h:=fun p26 cs26 hp26 hr26=>?_)
    skip
    refine .quiet (.p rfl) rfl (fun _=>.loadAgg isAgg220 (by rw [ItRp.len hr26];kernel_rfl) rfl hp26) ?_;refine OD.call0 (.p rfl) zD rfl zD rfl rfl ((joinEq_c hr21 hr26)) ?_;rintro _ _ ⟨rfl,rfl⟩
    try simp only [zx1,zx2,zx3]
    refine OD.sT 28 rfl (by rw [hg1,hg2];exact e) ?_;refine ODx.nil<|S.condT rfl<|S.seq<|S.back hbq ?_;replace hg:=hg_q;replace hR:=hR_q;clear hg_q hR_q;refine S.region rfl<|O.q 2 rfl<|O.op (.p rfl) (.slFrom (p:=k) underlying216 size220 rfl rfl zC)<|O.q 1 rfl<|O.nil<|S.seq<|S.seq<|S.slot 6 (v' :=.slice (some ((⟨b,0,none⟩:Addr).add (k*8))) (ps.length - k) (c - k)) rfl (by rw [if_neg zC];rfl) ?_;refine S.region rfl<|O.q 1 rfl<|O.nil<|S.block<|S.loopK3 (ι:=Nat) (κ:=Nat) (υ:=List ItP) (fun j n cur=>1≤n∧k+n≤ps.length∧k≤j∧j+1≤k+n∧cur.length=ps.length∧cur.take j=compF eqP none (ps.take (k+n))∧cur.drop j=ps.drop j∧∀ p∈cur,ItRp.rel r p.1 p.2) (fun j n cur=>[(5,.int .i64 (j:Int)),(7,.int .i64 (n:Int))]) [(0,_),(1,_),(6,_)] (fun j n cur=>[OwnP (Rp.cells 8) 220 (.slice (some ⟨b,0,none⟩) ps.length c) (cur.map (·.1))]) (fun j n cur=>ps.length - (k+n)) (k) (1) (ps) (by exact ⟨by omega,by omega,by omega,by omega,rfl,by rw [hstep];simp,rfl,hit⟩) (.cons rfl (.cons rfl (.nil))) (.cons rfl (.cons rfl (.cons rfl (.nil)))) rfl fun j n cur hx ih=>?_;have hm2:=meltRefl (g:=g);obtain ⟨hy1,hy2,hy3,hy4,hy5,hy6,hy7,hy8⟩:=hx;refine S.seq<|S.seq<|S.region rfl<|O.q 2 rfl<|O.op (.p rfl) (.len rfl underlying216 rfl)<|O.op (.p rfl) (.lss rfl rfl)<|O.nil ?_
    first|refine S.condD rfl (fun h35=>?_) (fun h35=>?_)|refine S.condB rfl (fun h35=>?_) (fun h35=>?_)
    ·have hn:k+n<ps.length:=by omega
     have hstep2:=compF_at eqP hn zC;have hf1:∀ q,((cur.map (·.2)).drop k)[n]'q=ps[k+n].2:=fun q=>by rw [List.getElem_drop,List.getElem_map,drop_getJ hy7 zC zC hn]
     have hf2:∀ q,((cur.map (·.2)).drop k)[n - 1]'q=(ps[k+n - 1]'zC).2:=fun q=>by
      have e5:k+(n - 1)=k+n - 1:=by omega
      simp only [List.getElem_drop,List.getElem_map,e5];rw [drop_getJ hy7 zC zC zC]
     cases e2:eqP ps[k+n] (ps[k+n - 1]'zC) with
     |true =>
      rw [e2] at hstep2;have hg_q:=hg;have hR_q:=hR;refine S.frzH (B:=OwnP (Rp.cells 8) 220 (.slice (some ⟨b,0,none⟩) ps.length c) (cur.map (·.1))) zB fun gq hsq ⟨mq,hmq,hsmq⟩ hbq=>?_;replace hg:=Fr.sub_trans hg hsq;replace hR:=backR hR hbq;have hqi:=Arr.from (p:=k) (Arr.ofCells ((OwnP.arr hmq).mono hsmq) (it_all2 fun p hp=>Rp.mono ItRp hg (hy8 p hp)) rfl:Arr ItRp _ (.slice (some ⟨b,0,none⟩) ps.length c) (cur.map (·.2))) zC;refine S.skip<|S.seq<|S.block<|S.seq<|S.regionD (L:=[0,1,2,3,4,5,6,7,8,9,10,11]) mixedF zD<|OD.q 3 rfl<|OD.ia (.p rfl) underlying216 size220 rfl rfl rfl (hqi) (h:=fun p41 cs41 hp41 hr41=>?_)
      skip
      refine .quiet (.p rfl) rfl (fun _=>.loadAgg isAgg220 (by rw [ItRp.len hr41];kernel_rfl) rfl hp41) ?_;refine OD.q 2 rfl<|.quiet (.p rfl) rfl (fun _=>.sub rfl rfl (IntWalk.i64_in _ zC))<|OD.ia (.p rfl) underlying216 size220 rfl rfl (show _=(((n-1):Nat):Int) by omega) (hqi) (h:=fun p46 cs46 hp46 hr46=>?_)
      skip
      refine .quiet (.p rfl) rfl (fun _=>.loadAgg isAgg220 (by rw [ItRp.len hr46];kernel_rfl) rfl hp46) ?_;refine OD.call0 (.p rfl) zD rfl zD rfl rfl ((joinEq_c hr41 hr46)) ?_;rintro _ _ ⟨rfl,rfl⟩
      try simp only [zx1,zx2,zx3]
      refine OD.sT 48 rfl (by rw [hf1,hf2];exact e2) ?_;refine .quiet (.p rfl) rfl (fun _=>.not rfl)<|ODx.nil<|S.condF rfl<|S.skip<|S.inBlock<|S.back hbq ?_;replace hg:=hg_q;replace hR:=hR_q;clear hg_q hR_q;refine S.region rfl<|O.q 1 rfl<|O.op (.p rfl) (.add rfl rfl (IntWalk.i64_in _ zC))<|O.q 1 rfl<|O.nil ?_;exact S.wk (ih (j) (n+1) (cur) (by exact ⟨by omega,by omega,by omega,by omega,hy5,by rw [hy6,show k+(n+1)=k+n+1 from rfl,hstep2];simp,hy7,hy8⟩) zC)
     |false =>
      rw [e2] at hstep2;have hg_q:=hg;have hR_q:=hR;refine S.frzH (B:=OwnP (Rp.cells 8) 220 (.slice (some ⟨b,0,none⟩) ps.length c) (cur.map (·.1))) zB fun gq hsq ⟨mq,hmq,hsmq⟩ hbq=>?_;replace hg:=Fr.sub_trans hg hsq;replace hR:=backR hR hbq;have hqi:=Arr.from (p:=k) (Arr.ofCells ((OwnP.arr hmq).mono hsmq) (it_all2 fun p hp=>Rp.mono ItRp hg (hy8 p hp)) rfl:Arr ItRp _ (.slice (some ⟨b,0,none⟩) ps.length c) (cur.map (·.2))) zC;refine S.skip<|S.seq<|S.block<|S.seq<|S.regionD (L:=[0,1,2,3,4,5,6,7,8,9,10,11]) mixedF zD<|OD.q 3 rfl<|OD.ia (.p rfl) underlying216 size220 rfl rfl rfl (hqi) (h:=fun p41 cs41 hp41 hr41=>?_)
      skip
      refine .quiet (.p rfl) rfl (fun _=>.loadAgg isAgg220 (by rw [ItRp.len hr41];kernel_rfl) rfl hp41) ?_;refine OD.q 2 rfl<|.quiet (.p rfl) rfl (fun _=>.sub rfl rfl (IntWalk.i64_in _ zC))<|OD.ia (.p rfl) underlying216 size220 rfl rfl (show _=(((n-1):Nat):Int) by omega) (hqi) (h:=fun p46 cs46 hp46 hr46=>?_)
      skip
      refine .quiet (.p rfl) rfl (fun _=>.loadAgg isAgg220 (by rw [ItRp.len hr46];kernel_rfl) rfl hp46) ?_;refine OD.call0 (.p rfl) zD rfl zD rfl rfl ((joinEq_c hr41 hr46)) ?_;rintro _ _ ⟨rfl,rfl⟩
      try simp only [zx1,zx2,zx3]
      refine OD.sF 48 rfl (by rw [hf1,hf2];exact e2) ?_;refine .quiet (.p rfl) rfl (fun _=>.not rfl)<|ODx.nil<|S.condT rfl<|S.seq<|S.back hbq ?_;replace hg:=hg_q;replace hR:=hR_q;clear hg_q hR_q;have hcn:cur[k+n]'zC=ps[k+n]:=drop_getJ hy7 zC zC hn;have hr8:=hy8 _ (List.getElem_mem (show k+n<cur.length by omega));refine S.region rfl<|O.q 4 rfl<|O.op (.p rfl) (.idxPiece (K:=8) (p:=k) (j:=n) underlying216 size220 rfl rfl rfl zC)<|O.op (.p rfl) (.loadOwnAgg (K:=8) (j:=k+n) isAgg220 size220 rfl zB zK) ?_;refine O.opE (.p rfl) (.idxOwn (T:=(Rp.cells 8)) underlying216 size220 rfl rfl (show _=(((j):Nat):Int) by omega) zB zR) ?_;rintro _ _ ⟨p56,rfl,hp56,rfl⟩;refine O.opU rfl (.storeOwn size220 rfl hp56 rfl zB zR (by exact ⟨rfl,by rw [List.getElem_map];exact ItRp.len hr8,by rw [List.getElem_map];exact ItRp.one hr8⟩:Rp.rel _ _ _ ((cur.map (·.1))[k+n]'zK))) ?_;refine O.nil ?_;rw [show (cur.map (·.1)).set j ((cur.map (·.1))[k+n]'zK)=(cur.set j ps[k+n]).map (·.1) from by rw [List.getElem_map,hcn,List.map_set]];refine S.region rfl<|O.q 1 rfl<|O.op (.p rfl) (.add rfl rfl (IntWalk.i64_in _ zC))<|O.q 1 rfl<|O.nil<|S.inBlock<|S.region rfl<|O.q 1 rfl<|O.op (.p rfl) (.add rfl rfl (IntWalk.i64_in _ zC))<|O.q 1 rfl<|O.nil ?_
      exact S.wk (ih (j+1) (n+1) (cur.set j ps[k+n]) (by exact ⟨by omega,by omega,by omega,by omega,by simp [hy5],by rw [show k+(n+1)=k+n+1 from rfl,hstep2,← hy6,List.take_succ_eq_append_getElem zK,List.getElem_set_self,List.take_set_of_le (Nat.le_refl _)];simp,by rw [List.drop_set_of_lt zC,← List.drop_drop (i:=1) (j:=j),hy7,List.drop_drop],set_rel hy8 (by rw [← hcn];exact hr8)⟩) zC)
    ·clear ih
     have hn:k+n=ps.length:=by omega
     have hfin:compF eqP none ps=cur.take j:=by rw [hy6,hn,List.take_length]
     obtain ⟨ds,hds⟩:∃ ds,(cur.take j).map (·.1)=ds:=⟨_,rfl⟩;have hdl:ds.length=j:=by rw [← hds];simp;omega
     have hjl:(cur.take j).length=ds.length:=by rw [hdl];simp;omega
     refine S.conv (B:=OwnP (Rp.cells 8) 220 (.slice (some ⟨b,0,none⟩) ps.length c) (cur.map (·.1))) (C:=OwnP (Rp.cells 8) 220 (.slice (some ⟨b,0,none⟩) ds.length c) ds) zB (fun m x=>⟨m,Fr.sub_refl _,OwnP.take (ys:=(cur.drop j).map (·.1)) rfl (by rw [← hds,← List.map_append,List.take_append_drop];exact x)⟩) ?_;subst hdl;refine S.exit rfl<|S.seq<|S.region rfl<|O.q 2 rfl<|O.op (.p rfl) (.slFrom (p:=ds.length) underlying216 size220 rfl rfl zC)<|O.clearTail rfl underlying216 elem220 (by first|(simp;done)|(intro v hv;simp [Value.cells] at hv;rcases hv with rfl|rfl<;>rfl)|(refine List.forall_mem_cons.2 ⟨rfl,?_⟩;repeat (first|exact (fun _ h=>absurd h List.not_mem_nil)|refine List.forall_mem_cons.2 ⟨rfl,?_⟩))) zF zC hc1 rfl zB ?_;refine O.nil<|S.seq<|S.region rfl<|O.q 2 rfl<|O.op (.p rfl) (.slTo (p:=ds.length) underlying216 size220 rfl rfl zC)<|O.q 1 rfl<|O.nil<|S.ret results309 rfl fun w hw=>Holds.end_ hR hw ?_;exact ⟨[OwnP (Rp.cells 8) 220 (.slice (some ⟨b,0,none⟩) ds.length c) ds],⟨by rw [hfin,hjl],by rw [hfin,hjl,hds]⟩,by repeat (first|exact zpa|exact zpn|(apply zpc;focus (repeat (first|exact zh|apply zt)))|apply zps)⟩
  ·clear ih
   have hk:k=ps.length:=by omega
   rw [hk,List.take_length] at hx3;refine S.exit rfl<|S.seq<|S.region rfl<|O.q 2 rfl<|O.nil<|S.ret results309 rfl fun w hw=>Holds.end_ hR hw ?_;exact ⟨[OwnP (Rp.cells 8) 220 (.slice (some ⟨b,0,none⟩) ps.length c) (ps.map (·.1))],⟨by rw [hx3],by rw [hx3]⟩,by repeat (first|exact zpa|exact zpn|(apply zpc;focus (repeat (first|exact zh|apply zt)))|apply zps)⟩
theorem comp_two {s:List ItP}:(compF eqP none s).map (·.2)=compR (s.map (·.2)):=compF_map (fun p:ItP=>p.2) eqDot none s
theorem comp_sub {α:Type} (eq:α→α→Bool):∀ (p:Option α) (l:List α),∀ x∈compF eq p l,x∈l
 |_,[],_,h=>h
 |p,a::l,x,h=>by
  simp only [compF] at h
  split at h
  ·exact List.mem_cons_of_mem _ (comp_sub eq _ l x h)
  ·rcases List.mem_cons.1 h with rfl|h
   ·exact List.mem_cons_self
   ·exact List.mem_cons_of_mem _ (comp_sub eq _ l x h)
def leftP (cs:List ItP):List ItP:=cs.filter fun p=>!underR (cs.map (·.2)) p.2
theorem left_two {s:List ItP}:(leftP (compF eqP none s)).map (·.2)=joinS (s.map (·.2)):=by
 unfold leftP joinS;rw [← comp_two,List.filter_map]
 rfl
theorem left_take {cs:List ItP} {i:Nat} (hi:i<cs.length):(cs.take (i+1)).filter (fun p=>!underR (cs.map (·.2)) p.2)=(cs.take i).filter (fun p=>!underR (cs.map (·.2)) p.2)++if underR (cs.map (·.2)) cs[i].2 then [] else [cs[i]]:=by
 rw [List.take_succ_eq_append_getElem hi,List.filter_append]
 congr 1
 cases h:underR (cs.map (·.2)) cs[i].2<;>simp [h]
theorem ujoin_c {r:Fr} {b:Nat} {a:Option Addr} {c:Nat} {ps:List ItP} (hit:∀ p∈ps,ItRp.rel r p.1 p.2) (ho:∀ p∈ps,recOk p.2=true) (hl:ps.length≤100000000000) :
  Con prog 241 #[.pointer (some ⟨b,0,none⟩)] r [obj b 306 [.slice a ps.length c],OwnP (Rp.cells 8) 220 (.slice a ps.length c) (ps.map (·.1))]
   (Ret fun v η=>∃ (qs:List ItP) (a' :Option Addr) (c' :Nat),v=.tuple #[]∧qs.map (·.2)=joinL (ps.map (·.2))∧(∀ p∈qs,ItRp.rel r p.1 p.2)∧η=[obj b 306 [.slice a' qs.length c'],OwnP (Rp.cells 8) 220 (.slice a' qs.length c') (qs.map (·.1))]):=by
 refine Con.of (n:=47) _ rfl func241 rfl rfl rfl fun g hg R hR=>?_;refine S.seq<|S.region rfl<|O.q 1 rfl<|O.op (.p rfl) (.nilCheck rfl)<|O.op (.p rfl) (.fieldObj fld306x0 rfl)<|O.op (.p rfl) (.fieldObj fld218x0 rfl)<|O.op (.p rfl) (.lo flat216) ?_;refine O.callS (.p rfl) rfl zD rfl rfl zB ((sortItems_c hit hl).sub hg) ?_;rintro v10 _ ⟨ss,rfl,hss,hsw,rfl⟩
 try simp only [zx1,zx2,zx3]
 refine O.nil (S.seq ?_);have hsl:ss.length=ps.length:=hss.length_eq;have hsit:∀ p∈ss,ItRp.rel r p.1 p.2:=fun p hp=>hit p (hss.mem_iff.1 hp);rw [← hsl];refine S.region rfl<|O.q 2 rfl<|O.op (.p rfl) (.nilCheck rfl)<|O.op (.p rfl) (.fieldObj fld306x0 rfl)<|O.op (.p rfl) (.fieldObj fld218x0 rfl)<|O.op (.p rfl) (.lo flat216) ?_;refine O.callS (.p rfl) rfl zD rfl rfl zB ((compact_c hsit zC).sub hg) ?_;rintro _ _ ⟨rfl,rfl⟩
 try simp only [zx1,zx2,zx3]
 refine O.op (.p rfl) (.nilCheck rfl)<|O.op (.p rfl) (.fieldObj fld306x0 rfl)<|O.op (.p rfl) (.fieldObj fld218x0 rfl)<|O.opU rfl (.store1 flat216 rfl rfl zN zB zH) ?_;refine O.nil (S.seq ?_);have hjs:(leftP (compF eqP none ss)).map (·.2)=joinL (ps.map (·.2)):=by
  rw [left_two];exact joinS_eq (hss.map _) hsw fun x hx=>by obtain ⟨p,hp,rfl⟩:=List.mem_map.1 hx;exact ho p hp
 have hcl:=compF_sub eqP none ss;have hcit:∀ p∈compF eqP none ss,ItRp.rel r p.1 p.2:=fun p hp=>hsit p (comp_sub eqP none ss p hp);generalize compF eqP none ss=cs at hjs hcl hcit ⊢;refine S.region rfl<|O.q 1 rfl<|O.nil<|S.seq<|S.seq<|S.region rfl<|O.q 1 rfl<|O.op (.p rfl) (.nilCheck rfl)<|O.op (.p rfl) (.fieldObj fld306x0 rfl)<|O.op (.p rfl) (.fieldObj fld218x0 rfl)<|O.op (.p rfl) (.lo flat216) ?_;refine O.op (.p rfl) (.len rfl underlying216 rfl)<|O.q 1 rfl<|O.nil<|S.block<|S.addNil (T:=Rp.cells 8) (e:=220) ?_;have hg_o:=hg;have hR_o:=hR;refine S.frzH (B:=obj b 306 [.slice a cs.length c]) zB fun go hso ⟨mo,hmo,hsmo⟩ hbo=>?_;replace hg:=Fr.sub_trans hg hso;replace hR:=backR hR hbo;have hato:=(obj_at hmo).mono hsmo;have hg_q:=hg;have hR_q:=hR;refine S.frzH (B:=OwnP (Rp.cells 8) 220 (.slice a cs.length c) (cs.map (·.1))) zB fun gq hsq ⟨mq,hmq,hsmq⟩ hbq=>?_;replace hg:=Fr.sub_trans hg hsq;replace hR:=backR hR hbq;have hqi:Arr ItRp _ (.slice a cs.length c) (cs.map (·.2)):=Arr.ofCells ((OwnP.arr hmq).mono hsmq) (it_all2 fun p hp=>Rp.mono ItRp hg (hcit p hp)) rfl;have hqc:=(OwnP.arr hmq).mono hsmq;replace hato:=hato.mono hsq;have hrow:RowA _ b (cs.map (·.2)):=⟨a,c,by rw [List.length_map];exact hato,by rw [List.length_map];exact hqi⟩
 refine S.loopK2 (ι:=Nat) (κ:=Option Addr × Nat) (fun i s=>i≤cs.length) (fun i s=>[(27,.int .i64 (i:Int)),(2,.slice s.1 ((cs.take i).filter fun p=>!underR (cs.map (·.2)) p.2).length s.2)]) [(0,_),(25,_),(26,_)] (fun i s=>[OwnP (Rp.cells 8) 220 (.slice s.1 ((cs.take i).filter fun p=>!underR (cs.map (·.2)) p.2).length s.2) (((cs.take i).filter fun p=>!underR (cs.map (·.2)) p.2).map (·.1))]) (fun i s=>cs.length - i) (0) ((none,0)) zL (.cons rfl (.cons rfl (.nil))) (.cons rfl (.cons rfl (.cons rfl (.nil)))) rfl fun i s hx ih=>?_;have hm1:=meltRefl (g:=gq);refine S.seq<|S.region rfl<|O.op (.p rfl) (.lss rfl rfl)<|O.nil (S.seq ?_)
 first|refine S.condD rfl (fun h28=>?_) (fun h28=>?_)|refine S.condB rfl (fun h28=>?_) (fun h28=>?_)
 ·have hi:i<cs.length:=by omega
  have hst:=left_take hi;have hol:((cs.take i).filter fun p=>!underR (cs.map (·.2)) p.2).length≤i:=Nat.le_trans (List.length_filter_le ..) zK;have hri:=Rp.mono ItRp hg (hcit _ (List.getElem_mem hi));have hln:=ItRp.len hri;have hone:=ItRp.one hri;refine S.skip<|S.seq<|S.block<|S.seq<|S.region rfl<|O.ia (.p rfl) underlying216 size220 rfl rfl rfl (hqc) (h:=fun p29 cs29 hp29 hr29=>?_);obtain ⟨rfl,_,_⟩:=hr29;refine O.op (.p rfl) (.loadAgg isAgg220 (by rw [List.getElem_map,hln];kernel_rfl) rfl hp29) ?_;refine O.opE (.p rfl) (.alloc (cs:=[.string ⟨#[]⟩,.int .i64 0,.int .i64 0,.slice none 0 0,.bool false,.slice none 0 0,.slice none 0 0,.slice none 0 0]) zeroValue220 rfl) ?_;rintro _ _ ⟨b4,rfl,rfl⟩;refine O.opU rfl (.storeObj (news:=cs[i].1) (by rw [hln];kernel_rfl) rfl rfl zU (List.all_eq_true.2 hone) zB (by rw [hln];decide)) ?_;refine O.nil<|S.seq<|S.objIs (b:=b4) (cs' :=cs[i].1) zB (by rw [List.drop_eq_nil_of_le (by rw [hln];decide)];simp) ?_;refine S.frzO zB fun g hs hm hb4=>?_;replace hg:=Fr.sub_trans hg hs;replace hR:=melted hR hm
  try replace hqi:=hqi.mono hs
  try replace hqc:=hqc.mono hs
  try replace hato:=hato.mono hs
  try replace hrow:=hrow.mono hs
  try replace hri:=hri.mono hs
  try replace hp29:=hp29.mono hs
  replace hm1:=meltTrans hm1 hm;clear hs hm
  cases e:underR (cs.map (·.2)) cs[i].2 with
  |true =>
   rw [e] at hst;rw [if_pos rfl,List.append_nil] at hst;refine S.regionD (L:=[0,1,2,3,4,5]) mixedF zD ?_;refine OD.q 1 rfl<|.quiet (.p rfl) rfl (fun _=>.nilCheck rfl)<|.quiet (.p rfl) rfl (fun _=>.fieldAddr fld306x0 rfl)<|.quiet (.p rfl) rfl (fun _=>.loadAgg isAgg220 (by rw [hln];kernel_rfl) rfl hb4) ?_;refine OD.call0 (.p rfl) zD rfl zD rfl rfl (sunder_c hrow hri) ?_;rintro _ _ ⟨rfl,rfl⟩
   try simp only [zx1,zx2,zx3]
   refine OD.sT 35 rfl (by exact e) ?_;refine .quiet (.p rfl) rfl (fun _=>.not rfl)<|ODx.nil<|S.condF rfl<|S.skip<|S.inBlock<|S.region rfl<|O.op (.p rfl) (.add rfl rfl (IntWalk.i64_in _ zC))<|O.q 1 rfl<|O.nil ?_;rw [← hst];exact S.melt hm1 (S.wk (ih (i+1) (s) zC zC))
  |false =>
   rw [e] at hst;rw [if_neg Bool.false_ne_true] at hst;refine S.regionD (L:=[0,1,2,3,4,5]) mixedF zD ?_;refine OD.q 1 rfl<|.quiet (.p rfl) rfl (fun _=>.nilCheck rfl)<|.quiet (.p rfl) rfl (fun _=>.fieldAddr fld306x0 rfl)<|.quiet (.p rfl) rfl (fun _=>.loadAgg isAgg220 (by rw [hln];kernel_rfl) rfl hb4) ?_;refine OD.call0 (.p rfl) zD rfl zD rfl rfl (sunder_c hrow hri) ?_;rintro _ _ ⟨rfl,rfl⟩
   try simp only [zx1,zx2,zx3]
   refine OD.sF 35 rfl (by exact e) ?_;refine .quiet (.p rfl) rfl (fun _=>.not rfl)<|ODx.nil<|S.condT rfl<|S.region rfl<|O.q 1 rfl<|O.op (.p rfl) (.loadAgg isAgg220 (by rw [hln];kernel_rfl) rfl hb4) ?_;refine O.opE (.p rfl) (.litP (T:=Rp.cells 8) (ys:=[cs[i].1]) underlying216 elem220 zF rfl rfl ⟨⟨rfl,hln,hone⟩,trivial⟩ zF) ?_;rintro _ _ ⟨a39,c39,rfl,rfl⟩;refine O.opE (.p rfl) (.appendO (T:=(Rp.cells 8)) underlying216 elem220 zF rfl rfl zB zB zI zI) ?_;rintro _ _ ⟨a40,c40,rfl,rfl⟩;refine O.q 1 rfl<|O.nil (S.inBlock ?_);rw [show List.map (fun p:ItP=>p.1) ((cs.take i).filter fun p=>!underR (cs.map (·.2)) p.2)++[cs[i].1]=((cs.take (i+1)).filter fun p=>!underR (cs.map (·.2)) p.2).map (·.1) from by rw [hst,List.map_append];rfl,show (List.map (fun p:ItP=>p.1) ((cs.take i).filter fun p=>!underR (cs.map (·.2)) p.2)).length+[cs[i].1].length=((cs.take (i+1)).filter fun p=>!underR (cs.map (·.2)) p.2).length from by rw [hst,List.length_append,List.length_map];rfl];refine S.region rfl<|O.op (.p rfl) (.add rfl rfl (IntWalk.i64_in _ zC))<|O.q 1 rfl<|O.nil ?_;exact S.melt hm1 (S.wk (ih (i+1) ((a40,c40)) zC zC))
 ·clear ih
  have hi:i=cs.length:=by omega
  subst hi;rw [List.take_length];have hql:∀ p∈cs.filter fun p=>!underR (cs.map (·.2)) p.2,ItRp.rel r p.1 p.2:=fun p hp=>hcit p (List.mem_filter.1 hp).1;refine S.back hbq ?_;replace hg:=hg_q;replace hR:=hR_q;clear hg_q hR_q;refine S.back hbo ?_;replace hg:=hg_o;replace hR:=hR_o;clear hg_o hR_o;refine S.exit rfl<|S.region rfl<|O.q 2 rfl<|O.op (.p rfl) (.nilCheck rfl)<|O.op (.p rfl) (.fieldObj fld306x0 rfl)<|O.op (.p rfl) (.fieldObj fld218x0 rfl)<|O.opU rfl (.store1 flat216 rfl rfl zN zB zH) ?_;refine O.nil<|S.end0 results241 fun w hw=>Holds.end_ hR hw ?_;exact pk ⟨leftP cs,s.1,s.2,rfl,hjs,hql,rfl⟩
abbrev tys:Tys:=⟨5,3,24,191,102,31,196,27,112,0,0,0,0⟩
abbrev tt:TTys:=⟨77,31,9⟩
theorem recG_sat {x:RecT} {v3 v5 v6:Value} {m:Fr} (h:recOk x=true) (hs:Sat (recWs x v3 v5 v6) m):(RecG tys).own (recV x v3 v5 v6) x m:=by
 have h1:=shaped_iff.1 (recOk_iff.1 h).1;have hd:=dotOk_iff.1 h1.2.2.1;simp only [rDot] at hd;exact RecG.mk zC ⟨by omega,by omega⟩ ⟨by omega,by omega⟩ hs
theorem pre_dec {s p:List UInt8}:decide ((str (s.take p.length)).toList=(str p).toList)=p.isPrefixOf s:=by
 by_cases h:p <+:s
 ·rw [List.isPrefixOf_iff_prefix.2 h]
  exact decide_eq_true (by rw [← List.prefix_iff_eq_take.1 h])
 ·rw [Bool.eq_false_iff.2 fun q=>h (List.isPrefixOf_iff_prefix.1 q)]
  exact decide_eq_false fun q=>h (List.prefix_iff_eq_take.2 (str_eqL q).symm)
theorem pre_short {s p:List UInt8} (h:¬ p.length≤s.length):p.isPrefixOf s=false:=Bool.eq_false_iff.2 fun q=>h (List.isPrefixOf_iff_prefix.1 q).length_le
theorem hasPre_c {r:Fr} {s p:List UInt8} (hs:s.length≤9223372036854775807) (hp:p.length≤9223372036854775807):Con prog 162 #[.string (str s),.string (str p)] r [] (Ret fun v η=>v=.bool (p.isPrefixOf s)∧η=[]):=by
 refine Con.of (n:=18) _ rfl func162 rfl rfl rfl fun g hg R hR=>?_
 by_cases h1:p.length≤s.length
 ·
  refine S.seq<|S.region rfl<|O.q 1 rfl<|O.nil<|S.seq<|S.region rfl<|O.q 1 rfl<|O.op (.p rfl) (.lenS rfl underlying9 rfl)<|O.q 1 rfl<|O.op (.p rfl) (.lenS rfl underlying9 rfl)<|O.op (.p rfl) (.geq rfl rfl)<|O.sT 9 rfl (by exact decide_eq_true zK) ?_;refine O.q 3 rfl<|O.op (.g rfl rfl) (.lenS rfl underlying9 rfl)<|O.slot 13 (v' :=.int .i64 (p.length:Int)) rfl zL ?_;refine O.strTo (b:=p.length) (.g rfl rfl) underlying9 rfl rfl (show _=(((p.length):Nat):Int) by omega) zI ?_;refine O.q 1 rfl<|O.op (.g rfl rfl) (.eqlS rfl rfl)<|O.slot 16 (v' :=.bool (p.isPrefixOf s)) rfl (by exact congrArg Value.bool pre_dec) ?_;refine O.q 2 rfl<|O.nil ?_;exact S.rt results162 rfl hR ⟨rfl,rfl⟩
 ·have e:=pre_short h1
  refine S.seq<|S.region rfl<|O.q 1 rfl<|O.nil<|S.seq<|S.region rfl<|O.q 1 rfl<|O.op (.p rfl) (.lenS rfl underlying9 rfl)<|O.q 1 rfl<|O.op (.p rfl) (.lenS rfl underlying9 rfl)<|O.op (.p rfl) (.geq rfl rfl)<|O.sF 9 rfl (by exact decide_eq_false zK) ?_;refine O.q 9 rfl<|O.nil ?_;exact S.rt results162 rfl hR ⟨congrArg Value.bool e.symm,rfl⟩
theorem hasPrefix_c {r:Fr} {s p:List UInt8} (hs:s.length≤9223372036854775807) (hp:p.length≤9223372036854775807):Con prog 93 #[.string (str s),.string (str p)] r [] (Ret fun v η=>v=.bool (p.isPrefixOf s)∧η=[]):=by
 refine Con.of (n:=8) _ rfl func93 rfl rfl rfl fun g hg R hR=>?_;refine S.seq<|S.region rfl<|O.q 1 rfl<|O.nil<|S.seq<|S.region rfl<|O.q 2 rfl<|O.call0 (.p rfl) rfl zD rfl rfl ((hasPre_c zI zI)) ?_;rintro _ _ ⟨rfl,rfl⟩
 try simp only [zx1,zx2,zx3]
 refine O.q 1 rfl<|O.nil ?_;exact S.rt results93 rfl hR ⟨rfl,rfl⟩
theorem lClone_c {r:Fr} {s:List UInt8} (hs:s.length≤100000000000):Con prog 160 #[.string (str s)] r [] (Ret fun v η=>v=.string (str s)∧η=[]):=by
 refine Con.of (n:=18) _ rfl func160 rfl rfl rfl fun g hg R hR=>?_
 by_cases h0:s.length=0
 ·have e:s=[]:=List.eq_nil_of_length_eq_zero h0
  refine S.seq<|S.region rfl<|O.q 1 rfl<|O.nil<|S.seq<|S.seq<|S.region rfl<|O.q 1 rfl<|O.op (.p rfl) (.lenS rfl underlying9 rfl)<|O.op (.p rfl) (.eql rfl rfl)<|O.sT 6 rfl (by exact decide_eq_true zK) ?_;refine O.nil<|S.condT rfl<|S.seq<|S.region rfl<|O.q 1 rfl<|O.nil ?_;exact S.rt results160 rfl hR ⟨by rw [e];rfl,rfl⟩
 ·
  refine S.seq<|S.region rfl<|O.q 1 rfl<|O.nil<|S.seq<|S.seq<|S.region rfl<|O.q 1 rfl<|O.op (.p rfl) (.lenS rfl underlying9 rfl)<|O.op (.p rfl) (.eql rfl rfl)<|O.sF 6 rfl (by exact decide_eq_false (by intro q;simp at q;exact h0 (by simp [q]))) ?_;refine O.nil<|S.condF rfl<|S.skip<|S.seq<|S.region rfl<|O.q 1 rfl<|O.op (.p rfl) (.lenS rfl underlying9 rfl)<|O.slot 8 (v' :=.int .i64 (s.length:Int)) rfl zL ?_;refine O.opE (.p rfl) (.makeP (T:=Rp.u8) 0 (m:=s.length) underlying24 elem5 zF rfl rfl rfl rfl rfl zC zC) ?_;rintro _ _ ⟨a9,c9,rfl,rfl⟩;refine O.q 1 rfl<|O.nil<|S.seq<|S.region rfl<|O.q 2 rfl<|O.opE (.p rfl) (.copyStr (s:=s) underlying24 size5 rfl rfl zB rfl zL zC) ?_;rintro _ _ ⟨rfl,rfl⟩;refine O.nil<|S.seq<|S.region rfl<|O.q 1 rfl<|O.opE (.p rfl) (.idxOwn (T:=Rp.u8) underlying24 size5 rfl rfl (show _=(((0):Nat):Int) by omega) zB zR) ?_;rintro _ _ ⟨p14,rfl,hp14,rfl⟩;refine O.q 1 rfl<|O.op (.p rfl) (.len rfl underlying24 rfl)<|O.opE (.p rfl) (.unsafeStr (n:=s.length) underlying239 zD rfl hp14 rfl zB rfl zC) ?_;rintro _ _ ⟨rfl,rfl⟩;refine O.q 1 rfl<|O.nil ?_;exact S.rt results160 rfl hR ⟨rfl,rfl⟩
theorem sClone_c {r:Fr} {s:List UInt8} (hs:s.length≤100000000000):Con prog 91 #[.string (str s)] r [] (Ret fun v η=>v=.string (str s)∧η=[]):=by
 refine Con.of (n:=5) _ rfl func91 rfl rfl rfl fun g hg R hR=>?_;refine S.seq<|S.region rfl<|O.q 1 rfl<|O.nil<|S.seq<|S.region rfl<|O.q 1 rfl<|O.call0 (.p rfl) rfl zD rfl rfl ((lClone_c zI)) ?_;rintro _ _ ⟨rfl,rfl⟩
 try simp only [zx1,zx2,zx3]
 refine O.q 1 rfl<|O.nil ?_;exact S.rt results91 rfl hR ⟨rfl,rfl⟩
theorem mpath_c {r:Fr} {s:List UInt8} (hl:s.length≤9223372036854775807):Con prog 94 #[.string (str s)] r [] (Ret fun v η=>v=.bool (decide (pathOk s))∧η=[]):=by
 refine Con.of (n:=11) _ rfl func94 rfl rfl rfl fun g hg R hR=>?_
 by_cases h1:s.length≤510
 ·by_cases h2:∀ c∈s,c=48∨c=49
  ·have e:decide (pathOk s)=true:=decide_eq_true ⟨h1,h2⟩
   refine S.seq<|S.region rfl<|O.q 1 rfl<|O.nil<|S.seq<|S.region rfl<|O.q 1 rfl<|O.op (.p rfl) (.lenS rfl underlying9 rfl)<|O.op (.p rfl) (.leq rfl rfl)<|O.sT 5 rfl (by exact decide_eq_true zK) ?_;refine O.q 2 rfl<|O.call0 (.g rfl rfl) rfl zD rfl rfl ((trim_c zC)) ?_;rintro v8 _ ⟨t,rfl,ht,rfl⟩
   try simp only [zx1,zx2,zx3]
   refine O.op (.g rfl rfl) (.eqlS rfl rfl)<|O.sT 9 rfl (by rw [ht.2 h2];simp) ?_;refine O.q 2 rfl<|O.nil ?_;exact S.rt results94 rfl hR ⟨congrArg Value.bool e.symm,rfl⟩
  ·have e:decide (pathOk s)=false:=decide_eq_false fun w=>h2 w.2
   refine S.seq<|S.region rfl<|O.q 1 rfl<|O.nil<|S.seq<|S.region rfl<|O.q 1 rfl<|O.op (.p rfl) (.lenS rfl underlying9 rfl)<|O.op (.p rfl) (.leq rfl rfl)<|O.sT 5 rfl (by exact decide_eq_true zK) ?_;refine O.q 2 rfl<|O.call0 (.g rfl rfl) rfl zD rfl rfl ((trim_c zC)) ?_;rintro v8 _ ⟨t,rfl,ht,rfl⟩
   try simp only [zx1,zx2,zx3]
   refine O.op (.g rfl rfl) (.eqlS rfl rfl)<|O.sF 9 rfl (by exact decide_eq_false (fun q=>h2 (ht.1 (str_eqL q)))) ?_;refine O.q 2 rfl<|O.nil ?_;exact S.rt results94 rfl hR ⟨congrArg Value.bool e.symm,rfl⟩
 ·have e:decide (pathOk s)=false:=decide_eq_false fun w=>h1 w.1
  refine S.seq<|S.region rfl<|O.q 1 rfl<|O.nil<|S.seq<|S.region rfl<|O.q 1 rfl<|O.op (.p rfl) (.lenS rfl underlying9 rfl)<|O.op (.p rfl) (.leq rfl rfl)<|O.sF 5 rfl (by exact decide_eq_false zK) ?_;refine O.q 6 rfl<|O.nil ?_;exact S.rt results94 rfl hR ⟨congrArg Value.bool e.symm,rfl⟩
theorem there_nil {r:Fr}:Con prog 87 #[.pointer none] r [] (Ret fun v η=>v=.bool false∧η=[]):=by
 refine Con.of (n:=12) _ rfl func87 rfl rfl rfl fun g hg R hR=>?_;refine S.seq<|S.region rfl<|O.q 1 rfl<|O.nil<|S.seq<|S.region rfl<|O.q 1 rfl<|O.op (.p rfl) (.neqP underlying42 rfl rfl)<|O.sF 4 rfl zG ?_;refine O.q 8 rfl<|O.nil ?_;exact S.rt results87 rfl hR ⟨rfl,rfl⟩
def zeroT:List Value:=[.slice none 0 0,.slice none 0 0,.int .i64 0,.map none]
theorem there_zero {r:Fr} {b:Nat} (h:At r ⟨b,0,none⟩ zeroT):Con prog 87 #[.pointer (some ⟨b,0,none⟩)] r [] (Ret fun v η=>v=.bool false∧η=[]):=by
 unfold zeroT at h;refine Con.of (n:=12) _ rfl func87 rfl rfl rfl fun g hg R hR=>?_;have h:=h.mono hg;refine S.seq<|S.region rfl<|O.q 1 rfl<|O.nil<|S.seq<|S.region rfl<|O.q 1 rfl<|O.op (.p rfl) (.neqP underlying42 rfl rfl)<|O.sT 4 rfl zG ?_;refine O.q 2 rfl<|O.op (.g rfl rfl) (.nilCheck rfl)<|O.op (.g rfl rfl) (.fieldAddr fld77x2 rfl)<|O.op (.g rfl rfl) (.loadAt flat75 rfl (h.drop 3) rfl) ?_;refine O.op (.g rfl rfl) (.neqM underlying75 rfl rfl)<|O.sF 10 rfl zG ?_;refine O.q 2 rfl<|O.nil ?_;exact S.rt results87 rfl hR ⟨rfl,rfl⟩
theorem there_yes {r:Fr} {b s:Nat} {L:List LeafT} (h:TreeA r b s L):Con prog 87 #[.pointer (some ⟨b,0,none⟩)] r [] (Ret fun v η=>v=.bool true∧η=[]):=by
 obtain ⟨aL,cL,aW,cW,mid,h,_,_⟩:=h;refine Con.of (n:=12) _ rfl func87 rfl rfl rfl fun g hg R hR=>?_;have h:=h.mono hg;refine S.seq<|S.region rfl<|O.q 1 rfl<|O.nil<|S.seq<|S.region rfl<|O.q 1 rfl<|O.op (.p rfl) (.neqP underlying42 rfl rfl)<|O.sT 4 rfl zG ?_;refine O.q 2 rfl<|O.op (.g rfl rfl) (.nilCheck rfl)<|O.op (.g rfl rfl) (.fieldAddr fld77x2 rfl)<|O.op (.g rfl rfl) (.loadAt flat75 rfl (h.drop 3) rfl) ?_;refine O.op (.g rfl rfl) (.neqM underlying75 rfl rfl)<|O.sT 10 rfl zG ?_;refine O.q 2 rfl<|O.nil ?_;exact S.rt results87 rfl hR ⟨rfl,rfl⟩
theorem shard_yes {r:Fr} {b s:Nat} {L:List LeafT} (h:TreeA r b s L):Con prog 47 #[.pointer (some ⟨b,0,none⟩)] r [] (Ret fun v η=>v=.int .i64 (s:Int)∧η=[]):=by
 have h0:=h;obtain ⟨aL,cL,aW,cW,mid,h,_,_⟩:=h;refine Con.of (n:=10) _ rfl func47 rfl rfl rfl fun g hg R hR=>?_;have h:=h.mono hg;have h0:=h0.mono hg;refine S.seq<|S.region rfl<|O.q 1 rfl<|O.nil<|S.seq<|S.seq<|S.region rfl<|O.q 1 rfl<|O.call0 (.p rfl) rfl zD rfl rfl ((there_yes h0)) ?_;rintro _ _ ⟨rfl,rfl⟩
 try simp only [zx1,zx2,zx3]
 refine O.sT 4 rfl zG ?_;refine O.op (.p rfl) (.not rfl)<|O.nil<|S.condF rfl<|S.skip<|S.seq<|S.region rfl<|O.q 1 rfl<|O.op (.p rfl) (.nilCheck rfl)<|O.op (.p rfl) (.fieldAddr fld77x1 rfl)<|O.op (.p rfl) (.loadAt flat3 rfl (h.drop 2) rfl) ?_;refine O.q 1 rfl<|O.nil ?_;exact S.rt results47 rfl hR ⟨rfl,rfl⟩
theorem all_c {r:Fr} {b s:Nat} {L:List LeafT} (h:TreeA r b s L) (hl:L.length≤10000000):Con prog 98 #[.pointer (some ⟨b,0,none⟩)] r [] (Ret fun v η=>∃ a c,v=.slice a L.length c∧η=[OwnP Rp.nat 3 (.slice a L.length c) (List.range L.length)]):=by
 obtain ⟨aL,cL,aW,cW,mid,h,hL,_⟩:=h;have hb:=hL.bound;refine Con.of (n:=22) _ rfl func98 rfl rfl rfl fun g hg R hR=>?_;have h:=h.mono hg;have hL:=hL.mono hg;refine S.seq<|S.region rfl<|O.q 1 rfl<|O.nil<|S.seq<|S.region rfl<|O.q 1 rfl<|O.op (.p rfl) (.nilCheck rfl)<|O.op (.p rfl) (.fieldAddr fld74x0 rfl)<|O.op (.p rfl) (.loadAt flat25 rfl h rfl) ?_;refine O.op (.p rfl) (.len rfl underlying25 rfl)<|O.opE (.p rfl) (.makeP (T:=Rp.nat) 0 (m:=L.length) underlying104 elem3 zF ⟨rfl,(⟨by decide,by decide⟩:InI64 ((0:Nat):Int))⟩ rfl rfl rfl rfl zC zC) ?_;rintro _ _ ⟨a10,c10,rfl,rfl⟩;refine O.q 1 rfl<|O.nil<|S.seq<|S.seq<|S.region rfl<|O.q 1 rfl<|O.op (.p rfl) (.len rfl underlying104 rfl)<|O.q 1 rfl<|O.nil<|S.block<|S.ownIs (T:=Rp.nat) (e:=3) (v' :=.slice a10 L.length c10) (xs' :=List.range 0++List.replicate (L.length - 0) 0) zB rfl zL ?_;refine S.loopK (ι:=Nat) (fun i=>i≤L.length) (fun i=>[(13,.int .i64 (i:Int))]) [(3,_),(12,_)] (fun i=>[OwnP Rp.nat 3 (.slice a10 L.length c10) (List.range i++List.replicate (L.length - i) 0)]) (fun i=>L.length - i) (0) zL (.cons rfl (.nil)) (.cons rfl (.cons rfl (.nil))) rfl fun i hx ih=>?_;have hm1:=meltRefl (g:=g);refine S.seq<|S.region rfl<|O.op (.p rfl) (.lss rfl rfl)<|O.nil (S.seq ?_)
 first|refine S.condD rfl (fun h14=>?_) (fun h14=>?_)|refine S.condB rfl (fun h14=>?_) (fun h14=>?_)
 ·have hi:i<L.length:=by omega
  have e:(List.range i++List.replicate (L.length - i) 0).set i i=List.range (i+1)++List.replicate (L.length - (i+1)) 0:=by
   rw [show L.length - i=(L.length - (i+1))+1 by omega,List.replicate_succ,List.set_append_right _ _ zL,List.range_succ]
   simp
  refine S.skip<|S.seq<|S.block<|S.seq<|S.region rfl<|O.q 2 rfl<|O.nil<|S.region rfl<|O.q 3 rfl<|O.opE (.p rfl) (.idxOwn (T:=Rp.nat) underlying104 size3 rfl rfl (show _=(((i):Nat):Int) by omega) zB zR) ?_;rintro _ _ ⟨p19,rfl,hp19,rfl⟩;refine O.opU rfl (.storeOwn size3 rfl hp19 rfl zB zR (by exact ⟨rfl,(⟨by omega,by omega⟩:InI64 ((i:Nat):Int))⟩:Rp.rel _ _ _ (i))) ?_;refine O.nil<|S.inBlock<|S.region rfl<|O.op (.p rfl) (.add rfl rfl (IntWalk.i64_in _ zC))<|O.q 1 rfl<|O.nil ?_;rw [e];exact S.wk (ih (i+1) zC zC)
 ·clear ih
  have hi:i=L.length:=by omega
  subst hi;rw [Nat.sub_self,List.replicate_zero,List.append_nil];refine S.exit rfl<|S.seq<|S.region rfl<|O.q 2 rfl<|O.nil ?_;exact S.rt results98 rfl hR ⟨a10,c10,rfl,rfl⟩
end Go.Proofs.YtojafegjlahajaaGreatDoor
