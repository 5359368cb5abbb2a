/- Texts of this proof. -/
import Derived.Test.YtojafegjlahajaaGreatDoorQSortFLay
import Derived.Test.YtojafegjlahajaaGreatDoorQSpSortG
import Derived.Test.YtojafegjlahajaaGreatDoorQGet3
open Go Go.Sp Go.Proofs.Tryz
set_option maxRecDepth 100000
set_option maxHeartbeats 1000000
attribute [local irreducible] obj Own av
namespace Go.Proofs.YtojafegjlahajaaGreatDoor
theorem U1 {α β:Type} {cf:β→β→Int} (f:α→β) (h:Sort.SWO (ltOf cf)):Sort.SWO (ltOf fun x y=>cf (f x) (f y)):=⟨fun x=>h.irrefl _,fun x y z=>h.trans _ _ _,fun x y z=>h.ntrans _ _ _⟩
theorem Ut {r:Fr} {cur:List g_} {j:Nat} {z:g_} (h:∀ p∈cur,bK.rel r p.1 p.2) (hz:bK.rel r z.1 z.2):∀ p∈cur.set j z,bK.rel r p.1 p.2:=fun p hp=>(List.mem_or_eq_of_mem_set hp).elim (h p) (fun e=>e ▸ hz)
theorem UJ {r:Fr} {a:Option Addr} {c:Nat} {ps:List g_} (hit:∀ p∈ps,bK.rel r p.1 p.2) (hl:ps.length≤100000000000) :
  ay prog 306 #[.slice a ps.length c,.func (.func 307) #[] #[]] r [av (ag.cells 8) 220 (.slice a ps.length c) (ps.map (·.1))]
   (aM fun v U=>∃ jq:List g_,v=.tuple #[]∧jq.Perm ps∧List.Pairwise k5 (jq.map (·.2))∧U=[av (ag.cells 8) 220 (.slice a jq.length c) (jq.map (·.1))]):=by
 by_cases h0:ps=[]
 ·subst h0
  refine (UI (k:=8) (e:=220) (r:=r) (a:=a) (c:=c) (f2:=307) fun p cap fv w=>AnyF.slices_SortFunc_none IJ p cap fv w).post fun e U h w g hw=>?_
  cases e with
  |returned v=>obtain ⟨rfl,rfl⟩:=h;exact ⟨_,⟨[],rfl,.refl _,.nil,rfl⟩,hw⟩
  |panicked _=>exact h.elim
  |outgrown=>exact h.elim
 ·obtain ⟨Em,OI⟩:=List.exists_mem_of_ne_nil ps h0
  letI:Inhabited {p:g_ // bK.rel r p.1 p.2}:=⟨⟨Em,hit Em OI⟩⟩
  have e1:((ps.attachWith (fun p=>bK.rel r p.1 p.2) hit).map fun x=>x.1.1)=ps.map (·.1):=by
   have e0:=congrArg (List.map fun p:g_=>p.1) (List.attachWith_map_subtype_val hit);rw [List.map_map] at e0;exact e0
  have C7:(ps.attachWith (fun p=>bK.rel r p.1 p.2) hit).length=ps.length:=List.length_attachWith;have hpos:0<ps.length:=List.length_pos_iff.2 h0;have con:=UH (P:=prog) (f:=306) (f2:=307) (e:=220) (r:=r) (a:=a) (c:=c) (enc:=fun x:{p:g_ // bK.rel r p.1 p.2}=>x.1.1) (k:=8) (l:=ps.attachWith (fun p=>bK.rel r p.1 p.2) hit)
   (fun x=>bK.len x.2) zE (fun x=>bK.one x.2) (fun x y=>lB x.1.2 y.1.2) (fun x y=>Q1 x.2 y.2)
   (fun blk off cap d w q1 q2 cH nC=>AnyQ.slices_SortFunc IJ 8 isAgg220 (fun w=>Go.Sp.run_sizeOf gz w) (fun x:{p:g_ // bK.rel r p.1 p.2}=>x.1.1) (fun x=>bK.len x.2) (fun x=>bK.one x.2) (fun x y=>lB x.1.2 y.1.2) (U1 (fun x:{p:g_ // bK.rel r p.1 p.2}=>x.1.2) U0) 307 #[] blk off cap d w (enters_of func307 aa rfl) q1 q2 cH nC)
   (by rw [C7];exact hpos) (by rw [C7];omega)
  rw [e1,C7] at con;refine con.post fun e U h w g hw=>?_
  cases e with
  |returned v =>
   obtain ⟨rfl,l',hp,hs,rfl⟩:=h;have nv:(l'.map Subtype.val).Perm ps:=by
    have:=hp.map Subtype.val
    rwa [List.attachWith_map_subtype_val] at this
   have hlen:(l'.map Subtype.val).length=ps.length:=nv.length_eq;refine ⟨_,⟨l'.map Subtype.val,rfl,nv,?_,rfl⟩,?_⟩
   ·rw [List.map_map,List.pairwise_map]
    exact hs.imp fun {x y} h=>tu.2 (of_decide_eq_false h)
   ·rw [hlen,List.map_map];exact hw
  |panicked _=>exact h.elim
  |outgrown=>exact h.elim
theorem Mf {r:Fr} {a:Option Addr} {c:Nat} {ps:List g_} (hit:∀ p∈ps,bK.rel r p.1 p.2) (hl:ps.length≤100000000000) :
  ay prog 309 #[.slice a ps.length c,.func (.func 310) #[] #[]] r [av (ag.cells 8) 220 (.slice a ps.length c) (ps.map (·.1))]
   (aM fun v U=>v=.slice a (ei ko none ps).length c∧U=[av (ag.cells 8) 220 (.slice a (ei ko none ps).length c) ((ei ko none ps).map (·.1))]):=by
 refine ay.of (n:=66) _ rfl func309 rfl rfl rfl fun g hg R hR=>?_;refine S.seq<|S.region rfl<|O.q 1 rfl<|O.nil<|S.seq<|S.seq<|S.region rfl<|O.q 1 rfl<|O.op (.p rfl) (.len rfl underlying216 rfl)<|O.op (.p rfl) (.lss rfl rfl)<|O.nil ?_
 first|refine S.ct rfl (fun h10=>?_) (fun h10=>?_)|refine S.cm rfl (fun h10=>?_) (fun h10=>?_)
 ·have dY:ei ko none ps=ps:=Gx ah
  refine S.seq<|S.region rfl<|O.q 2 rfl<|O.nil<|S.ret results309 rfl fun w hw=>Holds.end_ hR hw ?_;exact ⟨[av (ag.cells 8) 220 (.slice a ps.length c) (ps.map (·.1))],⟨by rw [dY],by rw [dY]⟩,by repeat (first|exact aW|exact aY|(apply aX;focus (repeat (first|exact aU|apply zt)))|apply aZ)⟩
 ·have h2:2≤ps.length:=by omega
  refine S.lF .here (fun _ x=>x.vp bX) fun ⟨⟨b,hb⟩,_,hc1,sZ⟩=>?_;subst hb;rw [List.length_map] at hc1;refine S.skip<|S.seq<|S.seq<|S.region rfl<|O.q 1 rfl<|O.nil<|S.block<|S.fT (ι:=Nat) (fun k=>1≤k∧k≤ps.length∧ei ko none (ps.take k)=ps.take k) (fun k=>[(5,.int .i64 (k:Int))]) [(0,_),(1,_)] (fun k=>[av (ag.cells 8) 220 (.slice (some ⟨b,0,none⟩) ps.length c) (ps.map (·.1))]) (fun k=>ps.length - k) (1) (by exact ⟨by omega,by omega,Gx bX⟩) (.cons rfl (.nil)) (.cons rfl (.cons rfl (.nil))) rfl fun k hx ih=>?_;have bl:=cW (g:=g);obtain ⟨hx1,hx2,pM⟩:=hx;refine S.seq<|S.seq<|S.region rfl<|O.q 2 rfl<|O.op (.p rfl) (.len rfl underlying216 rfl)<|O.op (.p rfl) (.lss rfl rfl)<|O.nil ?_
  first|refine S.ct rfl (fun Cj=>?_) (fun Cj=>?_)|refine S.cm rfl (fun Cj=>?_) (fun Cj=>?_)
  ·have hk:k<ps.length:=by omega
   have hstep:=Gv ko hk ah;have hg1:∀ q,(ps.map (·.2))[k]'q=ps[k].2:=fun q=>List.getElem_map ..;have hg2:∀ q,(ps.map (·.2))[k - 1]'q=(ps[k - 1]'ah).2:=fun q=>List.getElem_map ..
   cases e:ko ps[k] (ps[k - 1]'ah) with
   |false =>
    rw [e,pM] at hstep;have gw:=hg;have gu:=hR;refine S.iH (B:=av (ag.cells 8) 220 (.slice (some ⟨b,0,none⟩) ps.length c) (ps.map (·.1))) ai fun oJ dL ⟨qJ,jC,jD⟩ gm=>?_;replace hg:=Fr.aI hg dL;replace hR:=iB hR gm;have hqi:aj bK _ (.slice (some ⟨b,0,none⟩) ps.length c) (ps.map (·.2)):=aj.j4 ((av.arr jC).mono jD) (tr fun p hp=>ag.mono bK hg (hit p hp)) rfl;refine S.skip<|S.seq<|S.block<|S.seq<|S.bB (L:=[0,1,2,3,4,5,6,7,8,9,10]) bx aa<|af.q 3 rfl<|af.b_ (.p rfl) underlying216 gz rfl rfl rfl (hqi) (h:=fun z_ yF qw oS=>?_)
    skip
    refine .quiet (.p rfl) rfl (fun _=>.bI isAgg220 (by rw [bK.len oS];kernel_rfl) rfl qw) ?_;refine af.q 2 rfl<|.quiet (.p rfl) rfl (fun _=>.sub rfl rfl (IntWalk.i64_in _ ah))<|af.b_ (.p rfl) underlying216 gz rfl rfl (show _=(((k-1):Nat):Int) by omega) (hqi) (h:=fun SC Mx De w8=>?_)
    skip
    refine .quiet (.p rfl) rfl (fun _=>.bI isAgg220 (by rw [bK.len w8];kernel_rfl) rfl De) ?_;refine af.aC (.p rfl) aa rfl aa rfl rfl ((zB oS w8)) ?_;rintro _ _ ⟨rfl,rfl⟩
    try simp only [an,aq,au]
    refine af.aL 28 rfl (by rw [hg1,hg2];exact e) ?_;refine aK.nil<|S.aP rfl<|S.skip<|S.inBlock<|S.back gm ?_;replace hg:=gw;replace hR:=gu;clear gw gu;refine S.region rfl<|O.q 1 rfl<|O.op (.p rfl) (.add rfl rfl (IntWalk.i64_in _ ah))<|O.q 1 rfl<|O.nil ?_;exact S.dH (ih (k+1) (by exact ⟨by omega,by omega,by rw [hstep,List.take_succ_eq_append_getElem hk];rfl⟩) ah)
   |true =>
    rw [e,pM] at hstep;clear ih;have gw:=hg;have gu:=hR;refine S.iH (B:=av (ag.cells 8) 220 (.slice (some ⟨b,0,none⟩) ps.length c) (ps.map (·.1))) ai fun oJ dL ⟨qJ,jC,jD⟩ gm=>?_;replace hg:=Fr.aI hg dL;replace hR:=iB hR gm;have hqi:aj bK _ (.slice (some ⟨b,0,none⟩) ps.length c) (ps.map (·.2)):=aj.j4 ((av.arr jC).mono jD) (tr fun p hp=>ag.mono bK hg (hit p hp)) rfl;refine S.skip<|S.seq<|S.block<|S.seq<|S.bB (L:=[0,1,2,3,4,5,6,7,8,9,10]) bx aa<|af.q 3 rfl<|af.b_ (.p rfl) underlying216 gz rfl rfl rfl (hqi) (h:=fun z_ yF qw oS=>?_)
    skip
    refine .quiet (.p rfl) rfl (fun _=>.bI isAgg220 (by rw [bK.len oS];kernel_rfl) rfl qw) ?_;refine af.q 2 rfl<|.quiet (.p rfl) rfl (fun _=>.sub rfl rfl (IntWalk.i64_in _ ah))<|af.b_ (.p rfl) underlying216 gz rfl rfl (show _=(((k-1):Nat):Int) by omega) (hqi) (h:=fun SC Mx De w8=>?_)
    skip
    refine .quiet (.p rfl) rfl (fun _=>.bI isAgg220 (by rw [bK.len w8];kernel_rfl) rfl De) ?_;refine af.aC (.p rfl) aa rfl aa rfl rfl ((zB oS w8)) ?_;rintro _ _ ⟨rfl,rfl⟩
    try simp only [an,aq,au]
    refine af.sT 28 rfl (by rw [hg1,hg2];exact e) ?_;refine aK.nil<|S.bC rfl<|S.seq<|S.back gm ?_;replace hg:=gw;replace hR:=gu;clear gw gu;refine S.region rfl<|O.q 2 rfl<|O.op (.p rfl) (.iv (p:=k) underlying216 gz rfl rfl ah)<|O.q 1 rfl<|O.nil<|S.seq<|S.seq<|S.slot 6 (v' :=.slice (some ((⟨b,0,none⟩:Addr).add (k*8))) (ps.length - k) (c - k)) rfl (by rw [if_neg ah];rfl) ?_;refine S.region rfl<|O.q 1 rfl<|O.nil<|S.block<|S.zL (ι:=Nat) (dB:=Nat) (jO:=List g_) (fun j n cur=>1≤n∧k+n≤ps.length∧k≤j∧j+1≤k+n∧cur.length=ps.length∧cur.take j=ei ko none (ps.take (k+n))∧cur.drop j=ps.drop j∧∀ p∈cur,bK.rel r p.1 p.2) (fun j n cur=>[(5,.int .i64 (j:Int)),(7,.int .i64 (n:Int))]) [(0,_),(1,_),(6,_)] (fun j n cur=>[av (ag.cells 8) 220 (.slice (some ⟨b,0,none⟩) ps.length c) (cur.map (·.1))]) (fun j n cur=>ps.length - (k+n)) (k) (1) (ps) (by exact ⟨by omega,by omega,by omega,by omega,rfl,by rw [hstep];simp,rfl,hit⟩) (.cons rfl (.cons rfl (.nil))) (.cons rfl (.cons rfl (.cons rfl (.nil)))) rfl fun j n cur hx ih=>?_;have hm2:=cW (g:=g);obtain ⟨hy1,hy2,XG,XH,Ij,DM,xh,xk⟩:=hx;refine S.seq<|S.seq<|S.region rfl<|O.q 2 rfl<|O.op (.p rfl) (.len rfl underlying216 rfl)<|O.op (.p rfl) (.lss rfl rfl)<|O.nil ?_
    first|refine S.ct rfl (fun Cn=>?_) (fun Cn=>?_)|refine S.cm rfl (fun Cn=>?_) (fun Cn=>?_)
    ·have hn:k+n<ps.length:=by omega
     have zx:=Gv ko hn ah;have pL:∀ q,((cur.map (·.2)).drop k)[n]'q=ps[k+n].2:=fun q=>by rw [List.getElem_drop,List.getElem_map,B2 xh ah ah hn]
     have uT:∀ q,((cur.map (·.2)).drop k)[n - 1]'q=(ps[k+n - 1]'ah).2:=fun q=>by
      have mZ:k+(n - 1)=k+n - 1:=by omega
      simp only [List.getElem_drop,List.getElem_map,mZ];rw [B2 xh ah ah ah]
     cases e2:ko ps[k+n] (ps[k+n - 1]'ah) with
     |true =>
      rw [e2] at zx;have gw:=hg;have gu:=hR;refine S.iH (B:=av (ag.cells 8) 220 (.slice (some ⟨b,0,none⟩) ps.length c) (cur.map (·.1))) ai fun oJ dL ⟨qJ,jC,jD⟩ gm=>?_;replace hg:=Fr.aI hg dL;replace hR:=iB hR gm;have hqi:=aj.from (p:=k) (aj.j4 ((av.arr jC).mono jD) (tr fun p hp=>ag.mono bK hg (xk p hp)) rfl:aj bK _ (.slice (some ⟨b,0,none⟩) ps.length c) (cur.map (·.2))) ah;refine S.skip<|S.seq<|S.block<|S.seq<|S.bB (L:=[0,1,2,3,4,5,6,7,8,9,10,11]) bx aa<|af.q 3 rfl<|af.b_ (.p rfl) underlying216 gz rfl rfl rfl (hqi) (h:=fun Ab yG qx oU=>?_)
      skip
      refine .quiet (.p rfl) rfl (fun _=>.bI isAgg220 (by rw [bK.len oU];kernel_rfl) rfl qx) ?_;refine af.q 2 rfl<|.quiet (.p rfl) rfl (fun _=>.sub rfl rfl (IntWalk.i64_in _ ah))<|af.b_ (.p rfl) underlying216 gz rfl rfl (show _=(((n-1):Nat):Int) by omega) (hqi) (h:=fun SG MB Dj w9=>?_)
      skip
      refine .quiet (.p rfl) rfl (fun _=>.bI isAgg220 (by rw [bK.len w9];kernel_rfl) rfl Dj) ?_;refine af.aC (.p rfl) aa rfl aa rfl rfl ((zB oU w9)) ?_;rintro _ _ ⟨rfl,rfl⟩
      try simp only [an,aq,au]
      refine af.sT 48 rfl (by rw [pL,uT];exact e2) ?_;refine .quiet (.p rfl) rfl (fun _=>.not rfl)<|aK.nil<|S.aP rfl<|S.skip<|S.inBlock<|S.back gm ?_;replace hg:=gw;replace hR:=gu;clear gw gu;refine S.region rfl<|O.q 1 rfl<|O.op (.p rfl) (.add rfl rfl (IntWalk.i64_in _ ah))<|O.q 1 rfl<|O.nil ?_;exact S.dH (ih (j) (n+1) (cur) (by exact ⟨by omega,by omega,by omega,by omega,Ij,by rw [DM,show k+(n+1)=k+n+1 from rfl,zx];simp,xh,xk⟩) ah)
     |false =>
      rw [e2] at zx;have gw:=hg;have gu:=hR;refine S.iH (B:=av (ag.cells 8) 220 (.slice (some ⟨b,0,none⟩) ps.length c) (cur.map (·.1))) ai fun oJ dL ⟨qJ,jC,jD⟩ gm=>?_;replace hg:=Fr.aI hg dL;replace hR:=iB hR gm;have hqi:=aj.from (p:=k) (aj.j4 ((av.arr jC).mono jD) (tr fun p hp=>ag.mono bK hg (xk p hp)) rfl:aj bK _ (.slice (some ⟨b,0,none⟩) ps.length c) (cur.map (·.2))) ah;refine S.skip<|S.seq<|S.block<|S.seq<|S.bB (L:=[0,1,2,3,4,5,6,7,8,9,10,11]) bx aa<|af.q 3 rfl<|af.b_ (.p rfl) underlying216 gz rfl rfl rfl (hqi) (h:=fun Ab yG qx oU=>?_)
      skip
      refine .quiet (.p rfl) rfl (fun _=>.bI isAgg220 (by rw [bK.len oU];kernel_rfl) rfl qx) ?_;refine af.q 2 rfl<|.quiet (.p rfl) rfl (fun _=>.sub rfl rfl (IntWalk.i64_in _ ah))<|af.b_ (.p rfl) underlying216 gz rfl rfl (show _=(((n-1):Nat):Int) by omega) (hqi) (h:=fun SG MB Dj w9=>?_)
      skip
      refine .quiet (.p rfl) rfl (fun _=>.bI isAgg220 (by rw [bK.len w9];kernel_rfl) rfl Dj) ?_;refine af.aC (.p rfl) aa rfl aa rfl rfl ((zB oU w9)) ?_;rintro _ _ ⟨rfl,rfl⟩
      try simp only [an,aq,au]
      refine af.aL 48 rfl (by rw [pL,uT];exact e2) ?_;refine .quiet (.p rfl) rfl (fun _=>.not rfl)<|aK.nil<|S.bC rfl<|S.seq<|S.back gm ?_;replace hg:=gw;replace hR:=gu;clear gw gu;have HB:cur[k+n]'ah=ps[k+n]:=B2 xh ah ah hn;have DA:=xk _ (List.getElem_mem (show k+n<cur.length by omega));refine S.region rfl<|O.q 4 rfl<|O.op (.p rfl) (.Qj (K:=8) (p:=k) (j:=n) underlying216 gz rfl rfl rfl ah)<|O.op (.p rfl) (.RC (K:=8) (j:=k+n) isAgg220 gz rfl ai bX) ?_;refine O.aO (.p rfl) (.oZ (T:=(ag.cells 8)) underlying216 gz rfl rfl (show _=(((j):Nat):Int) by omega) ai p7) ?_;rintro _ _ ⟨Yt,rfl,OV,rfl⟩;refine O.bw rfl (.qR gz rfl OV rfl ai p7 (by exact ⟨rfl,by rw [List.getElem_map];exact bK.len DA,by rw [List.getElem_map];exact bK.one DA⟩:ag.rel _ _ _ ((cur.map (·.1))[k+n]'bX))) ?_;refine O.nil ?_;rw [show (cur.map (·.1)).set j ((cur.map (·.1))[k+n]'bX)=(cur.set j ps[k+n]).map (·.1) from by rw [List.getElem_map,HB,List.map_set]];refine S.region rfl<|O.q 1 rfl<|O.op (.p rfl) (.add rfl rfl (IntWalk.i64_in _ ah))<|O.q 1 rfl<|O.nil<|S.inBlock<|S.region rfl<|O.q 1 rfl<|O.op (.p rfl) (.add rfl rfl (IntWalk.i64_in _ ah))<|O.q 1 rfl<|O.nil ?_
      exact S.dH (ih (j+1) (n+1) (cur.set j ps[k+n]) (by exact ⟨by omega,by omega,by omega,by omega,by simp [Ij],by rw [show k+(n+1)=k+n+1 from rfl,zx,← DM,List.take_succ_eq_append_getElem bX,List.getElem_set_self,List.take_set_of_le (Nat.le_refl _)];simp,by rw [List.drop_set_of_lt ah,← List.drop_drop (i:=1) (j:=j),xh,List.drop_drop],Ut xk (by rw [← HB];exact DA)⟩) ah)
    ·clear ih
     have hn:k+n=ps.length:=by omega
     have mu:ei ko none ps=cur.take j:=by rw [DM,hn,List.take_length]
     obtain ⟨ds,hds⟩:∃ ds,(cur.take j).map (·.1)=ds:=⟨_,rfl⟩;have hdl:ds.length=j:=by rw [← hds];simp;omega
     have hjl:(cur.take j).length=ds.length:=by rw [hdl];simp;omega
     refine S.conv (B:=av (ag.cells 8) 220 (.slice (some ⟨b,0,none⟩) ps.length c) (cur.map (·.1))) (C:=av (ag.cells 8) 220 (.slice (some ⟨b,0,none⟩) ds.length c) ds) ai (fun m x=>⟨m,Fr.bW _,av.take (ys:=(cur.drop j).map (·.1)) rfl (by rw [← hds,← List.map_append,List.take_append_drop];exact x)⟩) ?_;subst hdl;refine S.exit rfl<|S.seq<|S.region rfl<|O.q 2 rfl<|O.op (.p rfl) (.iv (p:=ds.length) underlying216 gz rfl rfl ah)<|O.BH rfl underlying216 sI (by first|(simp;done)|(intro v hv;simp [Value.cells] at hv;rcases hv with rfl|rfl<;>rfl)|(refine List.forall_mem_cons.2 ⟨rfl,?_⟩;repeat (first|exact (fun _ h=>absurd h List.not_mem_nil)|refine List.forall_mem_cons.2 ⟨rfl,?_⟩))) zE ah hc1 rfl ai ?_;refine O.nil<|S.seq<|S.region rfl<|O.q 2 rfl<|O.op (.p rfl) (.tT (p:=ds.length) underlying216 gz rfl rfl ah)<|O.q 1 rfl<|O.nil<|S.ret results309 rfl fun w hw=>Holds.end_ hR hw ?_;exact ⟨[av (ag.cells 8) 220 (.slice (some ⟨b,0,none⟩) ds.length c) ds],⟨by rw [mu,hjl],by rw [mu,hjl,hds]⟩,by repeat (first|exact aW|exact aY|(apply aX;focus (repeat (first|exact aU|apply zt)))|apply aZ)⟩
  ·clear ih
   have hk:k=ps.length:=by omega
   rw [hk,List.take_length] at pM;refine S.exit rfl<|S.seq<|S.region rfl<|O.q 2 rfl<|O.nil<|S.ret results309 rfl fun w hw=>Holds.end_ hR hw ?_;exact ⟨[av (ag.cells 8) 220 (.slice (some ⟨b,0,none⟩) ps.length c) (ps.map (·.1))],⟨by rw [pM],by rw [pM]⟩,by repeat (first|exact aW|exact aY|(apply aX;focus (repeat (first|exact aU|apply zt)))|apply aZ)⟩
theorem Me {s:List g_}:(ei ko none s).map (·.2)=qh (s.map (·.2)):=Gw (fun p:g_=>p.2) sJ none s
theorem BN {α:Type} (eq:α→α→Bool):∀ (p:Option α) (l:List α),∀ x∈ei eq p l,x∈l
 |_,[],_,h=>h
 |p,a::l,x,h=>by
  simp only [ei] at h
  split at h
  ·exact List.mem_cons_of_mem _ (BN eq _ l x h)
  ·rcases List.mem_cons.1 h with rfl|h
   ·exact List.mem_cons_self
   ·exact List.mem_cons_of_mem _ (BN eq _ l x h)
def zG (cs:List g_):List g_:=cs.filter fun p=>!gZ (cs.map (·.2)) p.2
theorem Rs {s:List g_}:(zG (ei ko none s)).map (·.2)=rR (s.map (·.2)):=by
 unfold zG rR;rw [← Me,List.filter_map]
 rfl
theorem Rr {cs:List g_} {i:Nat} (hi:i<cs.length):(cs.take (i+1)).filter (fun p=>!gZ (cs.map (·.2)) p.2)=(cs.take i).filter (fun p=>!gZ (cs.map (·.2)) p.2)++if gZ (cs.map (·.2)) cs[i].2 then [] else [cs[i]]:=by
 rw [List.take_succ_eq_append_getElem hi,List.filter_append]
 congr 1
 cases h:gZ (cs.map (·.2)) cs[i].2<;>simp [h]
theorem VB {r:Fr} {b:Nat} {a:Option Addr} {c:Nat} {ps:List g_} (hit:∀ p∈ps,bK.rel r p.1 p.2) (ho:∀ p∈ps,ea p.2=true) (hl:ps.length≤100000000000) :
  ay prog 241 #[.pointer (some ⟨b,0,none⟩)] r [obj b 306 [.slice a ps.length c],av (ag.cells 8) 220 (.slice a ps.length c) (ps.map (·.1))]
   (aM fun v U=>∃ (jq:List g_) (a' :Option Addr) (c' :Nat),v=.tuple #[]∧jq.map (·.2)=i_ (ps.map (·.2))∧(∀ p∈jq,bK.rel r p.1 p.2)∧U=[obj b 306 [.slice a' jq.length c'],av (ag.cells 8) 220 (.slice a' jq.length c') (jq.map (·.1))]):=by
 refine ay.of (n:=47) _ rfl func241 rfl rfl rfl fun g hg R hR=>?_;refine S.seq<|S.region rfl<|O.q 1 rfl<|O.op (.p rfl) (.nilCheck rfl)<|O.op (.p rfl) (.aF qn rfl)<|O.op (.p rfl) (.aF iX rfl)<|O.op (.p rfl) (.lo iW) ?_;refine O.bD (.p rfl) rfl aa rfl rfl ai ((UJ hit hl).sub hg) ?_;rintro v10 _ ⟨ss,rfl,hss,hsw,rfl⟩
 try simp only [an,aq,au]
 refine O.nil (S.seq ?_);have fD:ss.length=ps.length:=hss.length_eq;have Ic:∀ p∈ss,bK.rel r p.1 p.2:=fun p hp=>hit p (hss.mem_iff.1 hp);rw [← fD];refine S.region rfl<|O.q 2 rfl<|O.op (.p rfl) (.nilCheck rfl)<|O.op (.p rfl) (.aF qn rfl)<|O.op (.p rfl) (.aF iX rfl)<|O.op (.p rfl) (.lo iW) ?_;refine O.bD (.p rfl) rfl aa rfl rfl ai ((Mf Ic ah).sub hg) ?_;rintro _ _ ⟨rfl,rfl⟩
 try simp only [an,aq,au]
 refine O.op (.p rfl) (.nilCheck rfl)<|O.op (.p rfl) (.aF qn rfl)<|O.op (.p rfl) (.aF iX rfl)<|O.bw rfl (.bk iW rfl rfl bn ai aT) ?_;refine O.nil (S.seq ?_);have HM:(zG (ei ko none ss)).map (·.2)=i_ (ps.map (·.2)):=by
  rw [Rs];exact Q9 (hss.map _) hsw fun x hx=>by obtain ⟨p,hp,rfl⟩:=List.mem_map.1 hx;exact ho p hp
 have dY:=BL ko none ss;have zh:∀ p∈ei ko none ss,bK.rel r p.1 p.2:=fun p hp=>Ic p (BN ko none ss p hp);generalize ei ko none ss=cs at HM dY zh ⊢;refine S.region rfl<|O.q 1 rfl<|O.nil<|S.seq<|S.seq<|S.region rfl<|O.q 1 rfl<|O.op (.p rfl) (.nilCheck rfl)<|O.op (.p rfl) (.aF qn rfl)<|O.op (.p rfl) (.aF iX rfl)<|O.op (.p rfl) (.lo iW) ?_;refine O.op (.p rfl) (.len rfl underlying216 rfl)<|O.q 1 rfl<|O.nil<|S.block<|S.gd (T:=ag.cells 8) (e:=220) ?_;have fS:=hg;have fR:=hR;refine S.iH (B:=obj b 306 [.slice a cs.length c]) ai fun go cR ⟨qI,hmo,jZ⟩ fC=>?_;replace hg:=Fr.aI hg cR;replace hR:=iB hR fC;have qt:=(fK hmo).mono jZ;have gw:=hg;have gu:=hR;refine S.iH (B:=av (ag.cells 8) 220 (.slice a cs.length c) (cs.map (·.1))) ai fun oJ dL ⟨qJ,jC,jD⟩ gm=>?_;replace hg:=Fr.aI hg dL;replace hR:=iB hR gm;have hqi:aj bK _ (.slice a cs.length c) (cs.map (·.2)):=aj.j4 ((av.arr jC).mono jD) (tr fun p hp=>ag.mono bK hg (zh p hp)) rfl;have Dr:=(av.arr jC).mono jD;replace qt:=qt.mono dL;have hrow:q3 _ b (cs.map (·.2)):=⟨a,c,by rw [List.length_map];exact qt,by rw [List.length_map];exact hqi⟩
 refine S.jG (ι:=Nat) (dB:=Option Addr × Nat) (fun i s=>i≤cs.length) (fun i s=>[(27,.int .i64 (i:Int)),(2,.slice s.1 ((cs.take i).filter fun p=>!gZ (cs.map (·.2)) p.2).length s.2)]) [(0,_),(25,_),(26,_)] (fun i s=>[av (ag.cells 8) 220 (.slice s.1 ((cs.take i).filter fun p=>!gZ (cs.map (·.2)) p.2).length s.2) (((cs.take i).filter fun p=>!gZ (cs.map (·.2)) p.2).map (·.1))]) (fun i s=>cs.length - i) (0) ((none,0)) bq (.cons rfl (.cons rfl (.nil))) (.cons rfl (.cons rfl (.cons rfl (.nil)))) rfl fun i s hx ih=>?_;have bl:=cW (g:=oJ);refine S.seq<|S.region rfl<|O.op (.p rfl) (.lss rfl rfl)<|O.nil (S.seq ?_)
 first|refine S.ct rfl (fun sR=>?_) (fun sR=>?_)|refine S.cm rfl (fun sR=>?_) (fun sR=>?_)
 ·have hi:i<cs.length:=by omega
  have hst:=Rr hi;have s9:((cs.take i).filter fun p=>!gZ (cs.map (·.2)) p.2).length≤i:=Nat.le_trans (List.length_filter_le ..) bX;have uY:=ag.mono bK hg (zh _ (List.getElem_mem hi));have mv:=bK.len uY;have hone:=bK.one uY;refine S.skip<|S.seq<|S.block<|S.seq<|S.region rfl<|O.b_ (.p rfl) underlying216 gz rfl rfl rfl (Dr) (h:=fun SE Mz wX Dw=>?_);obtain ⟨rfl,_,_⟩:=Dw;refine O.op (.p rfl) (.bI isAgg220 (by rw [List.getElem_map,mv];kernel_rfl) rfl wX) ?_;refine O.aO (.p rfl) (.alloc (cs:=[.string ⟨#[]⟩,.int .i64 0,.int .i64 0,.slice none 0 0,.bool false,.slice none 0 0,.slice none 0 0,.slice none 0 0]) zeroValue220 rfl) ?_;rintro _ _ ⟨b4,rfl,rfl⟩;refine O.bw rfl (.cZ (news:=cs[i].1) (by rw [mv];kernel_rfl) rfl rfl sv (List.all_eq_true.2 hone) ai (by rw [mv];decide)) ?_;refine O.nil<|S.seq<|S.c7 (b:=b4) (cs' :=cs[i].1) ai (by rw [List.drop_eq_nil_of_le (by rw [mv];decide)];simp) ?_;refine S.cV ai fun g hs hm hb4=>?_;replace hg:=Fr.aI hg hs;replace hR:=bt hR hm
  try replace hqi:=hqi.mono hs
  try replace Dr:=Dr.mono hs
  try replace qt:=qt.mono hs
  try replace hrow:=hrow.mono hs
  try replace uY:=uY.mono hs
  try replace wX:=wX.mono hs
  replace bl:=eD bl hm;clear hs hm
  cases e:gZ (cs.map (·.2)) cs[i].2 with
  |true =>
   rw [e] at hst;rw [if_pos rfl,List.append_nil] at hst;refine S.bB (L:=[0,1,2,3,4,5]) bx aa ?_;refine af.q 1 rfl<|.quiet (.p rfl) rfl (fun _=>.nilCheck rfl)<|.quiet (.p rfl) rfl (fun _=>.fieldAddr qn rfl)<|.quiet (.p rfl) rfl (fun _=>.bI isAgg220 (by rw [mv];kernel_rfl) rfl hb4) ?_;refine af.aC (.p rfl) aa rfl aa rfl rfl (vq hrow uY) ?_;rintro _ _ ⟨rfl,rfl⟩
   try simp only [an,aq,au]
   refine af.sT 35 rfl (by exact e) ?_;refine .quiet (.p rfl) rfl (fun _=>.not rfl)<|aK.nil<|S.aP rfl<|S.skip<|S.inBlock<|S.region rfl<|O.op (.p rfl) (.add rfl rfl (IntWalk.i64_in _ ah))<|O.q 1 rfl<|O.nil ?_;rw [← hst];exact S.iR bl (S.dH (ih (i+1) (s) ah ah))
  |false =>
   rw [e] at hst;rw [if_neg Bool.false_ne_true] at hst;refine S.bB (L:=[0,1,2,3,4,5]) bx aa ?_;refine af.q 1 rfl<|.quiet (.p rfl) rfl (fun _=>.nilCheck rfl)<|.quiet (.p rfl) rfl (fun _=>.fieldAddr qn rfl)<|.quiet (.p rfl) rfl (fun _=>.bI isAgg220 (by rw [mv];kernel_rfl) rfl hb4) ?_;refine af.aC (.p rfl) aa rfl aa rfl rfl (vq hrow uY) ?_;rintro _ _ ⟨rfl,rfl⟩
   try simp only [an,aq,au]
   refine af.aL 35 rfl (by exact e) ?_;refine .quiet (.p rfl) rfl (fun _=>.not rfl)<|aK.nil<|S.bC rfl<|S.region rfl<|O.q 1 rfl<|O.op (.p rfl) (.bI isAgg220 (by rw [mv];kernel_rfl) rfl hb4) ?_;refine O.aO (.p rfl) (.cn (T:=ag.cells 8) (ys:=[cs[i].1]) underlying216 sI zE rfl rfl ⟨⟨rfl,mv,hone⟩,trivial⟩ zE) ?_;rintro _ _ ⟨a39,By,rfl,rfl⟩;refine O.aO (.p rfl) (.gJ (T:=(ag.cells 8)) underlying216 sI zE rfl rfl ai ai bL bL) ?_;rintro _ _ ⟨a40,uy,rfl,rfl⟩;refine O.q 1 rfl<|O.nil (S.inBlock ?_);rw [show List.map (fun p:g_=>p.1) ((cs.take i).filter fun p=>!gZ (cs.map (·.2)) p.2)++[cs[i].1]=((cs.take (i+1)).filter fun p=>!gZ (cs.map (·.2)) p.2).map (·.1) from by rw [hst,List.map_append];rfl,show (List.map (fun p:g_=>p.1) ((cs.take i).filter fun p=>!gZ (cs.map (·.2)) p.2)).length+[cs[i].1].length=((cs.take (i+1)).filter fun p=>!gZ (cs.map (·.2)) p.2).length from by rw [hst,List.length_append,List.length_map];rfl];refine S.region rfl<|O.op (.p rfl) (.add rfl rfl (IntWalk.i64_in _ ah))<|O.q 1 rfl<|O.nil ?_;exact S.iR bl (S.dH (ih (i+1) ((a40,uy)) ah ah))
 ·clear ih
  have hi:i=cs.length:=by omega
  subst hi;rw [List.take_length];have Ds:∀ p∈cs.filter fun p=>!gZ (cs.map (·.2)) p.2,bK.rel r p.1 p.2:=fun p hp=>zh p (List.mem_filter.1 hp).1;refine S.back gm ?_;replace hg:=gw;replace hR:=gu;clear gw gu;refine S.back fC ?_;replace hg:=fS;replace hR:=fR;clear fS fR;refine S.exit rfl<|S.region rfl<|O.q 2 rfl<|O.op (.p rfl) (.nilCheck rfl)<|O.op (.p rfl) (.aF qn rfl)<|O.op (.p rfl) (.aF iX rfl)<|O.bw rfl (.bk iW rfl rfl bn ai aT) ?_;refine O.nil<|S.ej results241 fun w hw=>Holds.end_ hR hw ?_;exact pk ⟨zG cs,s.1,s.2,rfl,HM,Ds,rfl⟩
abbrev cS:q5:=⟨5,3,24,191,102,31,196,27,112,0,0,0,0⟩
abbrev aJ:eV:=⟨77,31,9⟩
theorem JM {x:aQ} {v3 v5 v6:Value} {m:Fr} (h:ea x=true) (hs:Sat (xR x v3 v5 v6) m):(eH cS).own (tM x v3 v5 v6) x m:=by
 have h1:=x2.1 (vm.1 h).1;have hd:=wh.1 h1.2.2.1;simp only [iu] at hd;exact eH.mk ah ⟨by omega,by omega⟩ ⟨by omega,by omega⟩ hs
end Go.Proofs.YtojafegjlahajaaGreatDoor
