/- Texts of this proof. -/
import Derived.Test.YtojafegjlahajaaGreatDoorQSib1
open Go Go.Sp Go.Proofs.Tryz
set_option maxRecDepth 100000
set_option maxHeartbeats 1000000
attribute [local irreducible] obj Own OwnP
namespace Go.Proofs.YtojafegjlahajaaGreatDoor
theorem indexIt_c {r:Fr} {va:Value} {xs:List RecT} {f:FuncId} {first cap:Array Value} (ha:Arr ItRp r va xs) (hc:callable prog f=true) (q:RecT→Bool)
  (con:∀ cs x,x∈xs→ItRp.rel r cs x→Con prog f (first++#[.agg cs.toArray]++cap) r [] (Ret fun v η=>v=.bool (q x)∧η=[])) :
  Con prog 331 #[va,.func (.func f) first cap] r [] (Ret fun v η=>∃ k:Int,v=.int .i64 k∧(0≤k↔xs.any q=true)∧η=[]):=by
 have har:=ha;refine Con.of (n:=19) [va,.func (.func f) first cap] rfl func331 rfl rfl rfl fun g hg R hR=>?_;have ha:=ha.mono hg;have hbd:=ha.bound;obtain ⟨a1,c1,rfl⟩:=ha.shape;refine S.seq<|S.region rfl<|O.q 1 rfl<|O.nil<|S.seq<|S.seq<|S.region rfl<|O.q 1 rfl<|O.op (.p rfl) (.len rfl underlying216 rfl)<|O.q 1 rfl<|O.nil<|S.block<|S.loopK (ι:=Nat) (fun i=>i≤xs.length∧(xs.take i).any q=false) (fun i=>[(8,.int .i64 (i:Int))]) [(0,_),(1,_),(7,_)] (fun i=>[]) (fun i=>xs.length - i) (0) (by exact ⟨by simp,by simp⟩) (.cons rfl (.nil)) (.cons rfl (.cons rfl (.cons rfl (.nil)))) rfl fun i hx ih=>?_;have hm1:=meltRefl (g:=g);obtain ⟨hx1,hx2⟩:=hx;refine S.seq<|S.region rfl<|O.op (.p rfl) (.lss rfl rfl)<|O.nil (S.seq ?_)
 first|refine S.condD rfl (fun h9=>?_) (fun h9=>?_)|refine S.condB rfl (fun h9=>?_) (fun h9=>?_)
 ·have hi:i<xs.length:=by omega
  cases e:q xs[i] with
  |true =>
   have hy:xs.any q=true:=List.any_eq_true.2 ⟨xs[i],List.getElem_mem hi,e⟩;clear ih;refine S.skip<|S.seq<|S.block<|S.seq<|S.region rfl<|O.q 2 rfl<|O.nil<|S.seq<|S.region rfl<|O.q 3 rfl<|O.ib (.p rfl) underlying216 size220 rfl rfl rfl har hg (h:=fun p14 cs14 hp14 hrr14=>?_);have hr14:=Rp.rel.mono hrr14 hg;obtain ⟨ia3_14,ia5_14,ia6_14,ia7_14,ic3_14,ic5_14,ic6_14,ic7_14,rfl,hr1_14,ha7_14⟩:=ItRp.sh hr14;refine O.op (.p rfl) (.loadAgg isAgg220 zD rfl hp14) ?_;refine O.call0 (.p rfl) rfl hc rfl rfl (((con _ _ (List.getElem_mem hi) hrr14).sub hg)) ?_;rintro _ _ ⟨rfl,rfl⟩
   try simp only [zx1,zx2,zx3]
   refine O.sT 16 rfl (by exact e) ?_;refine O.nil<|S.condT rfl<|S.seq<|S.region rfl<|O.q 2 rfl<|O.nil ?_;exact S.rt results331 rfl hR ⟨(i:Int),rfl,⟨fun _=>hy,fun _=>by omega⟩,rfl⟩
  |false =>
   refine S.skip<|S.seq<|S.block<|S.seq<|S.region rfl<|O.q 2 rfl<|O.nil<|S.seq<|S.region rfl<|O.q 3 rfl<|O.ib (.p rfl) underlying216 size220 rfl rfl rfl har hg (h:=fun p14 cs14 hp14 hrr14=>?_);have hr14:=Rp.rel.mono hrr14 hg;obtain ⟨ia3_14,ia5_14,ia6_14,ia7_14,ic3_14,ic5_14,ic6_14,ic7_14,rfl,hr1_14,ha7_14⟩:=ItRp.sh hr14;refine O.op (.p rfl) (.loadAgg isAgg220 zD rfl hp14) ?_;refine O.call0 (.p rfl) rfl hc rfl rfl (((con _ _ (List.getElem_mem hi) hrr14).sub hg)) ?_;rintro _ _ ⟨rfl,rfl⟩
   try simp only [zx1,zx2,zx3]
   refine O.sF 16 rfl (by exact e) ?_;refine O.nil<|S.condF rfl<|S.skip<|S.inBlock<|S.region rfl<|O.op (.p rfl) (.add rfl rfl (IntWalk.i64_in _ zC))<|O.q 1 rfl<|O.nil ?_;exact S.wk (ih (i+1) (by exact ⟨by omega,by rw [List.take_succ_eq_append_getElem hi,List.any_append,hx2];simp [e]⟩) zC)
 ·clear ih
  have hi:i=xs.length:=by omega
  subst hi;rw [List.take_length] at hx2;refine S.exit rfl<|S.seq<|S.region rfl<|O.q 1 rfl<|O.nil ?_;exact S.rt results331 rfl hR ⟨-1,rfl,⟨fun h=>absurd h zF,fun h=>by rw [hx2] at h;cases h⟩,rfl⟩
theorem containsIt_c {r:Fr} {va:Value} {xs:List RecT} {f:FuncId} {first cap:Array Value} (ha:Arr ItRp r va xs) (hc:callable prog f=true) (q:RecT→Bool)
  (con:∀ cs x,x∈xs→ItRp.rel r cs x→Con prog f (first++#[.agg cs.toArray]++cap) r [] (Ret fun v η=>v=.bool (q x)∧η=[])) (h1:(Value.func (.func f) first cap).oneCell' =true) :
  Con prog 295 #[va,.func (.func f) first cap] r [] (Ret fun v η=>v=.bool (xs.any q)∧η=[]):=by
 refine Con.of (n:=9) [va,.func (.func f) first cap] rfl func295 rfl rfl rfl fun g hg R hR=>?_;refine S.seq<|S.region rfl<|O.q 1 rfl<|O.nil<|S.seq<|S.region rfl<|O.q 2 rfl<|O.call0 (.p rfl) rfl zD rfl rfl (((indexIt_c ha hc q con).sub hg)) ?_;rintro v7 _ ⟨k7,rfl,hk7,rfl⟩
 try simp only [zx1,zx2,zx3]
 refine O.op (.p rfl) (.geq rfl rfl)<|O.q 1 rfl<|O.nil ?_;exact S.rt results295 rfl hR ⟨congrArg _ (by rw [Bool.eq_iff_iff,decide_eq_true_iff];exact hk7),rfl⟩
theorem under1_c {r:Fr} {b:Nat} {cs ds:List Value} {x y:RecT} (hx:At r ⟨b,0,none⟩ cs) (h:ItRp.rel r cs x) (h' :ItRp.rel r ds y) :
  Con prog 296 (#[]++#[.agg ds.toArray]++#[.pointer (some ⟨b,0,none⟩)]) r [] (Ret fun v η=>v=.bool (decide (cmpR x y≠0) && over y x)∧η=[]):=by
 obtain ⟨xa3,xa5,xa6,xa7,xc3,xc5,xc6,xc7,rfl,hx1,_⟩:=ItRp.sh h;obtain ⟨ya3,ya5,ya6,ya7,yc3,yc5,yc6,yc7,rfl,hy1,_⟩:=ItRp.sh h';refine Con.of (n:=15) [.agg #[.string (str y.1),.int .i64 y.2.1,.int .i64 y.2.2.1,.slice ya3 y.2.2.2.1.length yc3,.bool y.2.2.2.2.1,.slice ya5 y.2.2.2.2.2.1.length yc5,.slice ya6 y.2.2.2.2.2.2.1.length yc6,.slice ya7 (recB y).length yc7],.pointer (some ⟨b,0,none⟩)] rfl func296 rfl rfl rfl fun g hg R hR=>?_;have hx:=hx.mono hg;have h:=h.mono hg;have h' :=h'.mono hg;have hx1:=hx1.mono hg;have hy1:=hy1.mono hg
 by_cases e:cmpR x y=0
 ·
  refine S.seq<|S.region rfl<|O.opE (.p rfl) (.box (cs:=[_,_,_,_,_,_,_,_]) rfl rfl) ?_;rintro _ _ ⟨b2,rfl,rfl⟩;refine O.q 1 rfl<|O.nil<|S.seq<|S.region rfl<|O.op (.p rfl) (.loadAgg isAgg220 zD rfl hx) ?_;refine O.op (.p rfl) (.loA (news:=[_,_,_,_,_,_,_,_]) isAgg220) ?_;refine O.call0 (.p rfl) rfl zD rfl rfl (scompare_c h h') ?_;rintro _ _ ⟨rfl,rfl⟩
  try simp only [zx1,zx2,zx3]
  refine O.op (.p rfl) (.neq rfl rfl)<|O.sF 7 rfl (by simp [e]) ?_;refine O.q 8 rfl<|O.nil ?_;exact S.rt results296 rfl hR ⟨by simp [e],rfl⟩
 ·
  refine S.seq<|S.region rfl<|O.opE (.p rfl) (.box (cs:=[_,_,_,_,_,_,_,_]) rfl rfl) ?_;rintro _ _ ⟨b2,rfl,rfl⟩;refine O.q 1 rfl<|O.nil<|S.seq<|S.region rfl<|O.op (.p rfl) (.loadAgg isAgg220 zD rfl hx) ?_;refine O.op (.p rfl) (.loA (news:=[_,_,_,_,_,_,_,_]) isAgg220) ?_;refine O.call0 (.p rfl) rfl zD rfl rfl (scompare_c h h') ?_;rintro _ _ ⟨rfl,rfl⟩
  try simp only [zx1,zx2,zx3]
  refine O.op (.p rfl) (.neq rfl rfl)<|O.sT 7 rfl (by simp [e]) ?_;refine O.q 1 rfl<|O.op (.g rfl rfl) (.fieldObj fld220x0 rfl)<|O.op (.g rfl rfl) (.loA (news:=[_,_,_,_,_,_,_]) isAgg102) ?_;refine O.op (.g rfl rfl) (.fieldAddr fld220x0 rfl)<|O.op (.g rfl rfl) (.loadAgg (cs:=[.string (str x.1),.int .i64 x.2.1,.int .i64 x.2.2.1,.slice xa3 x.2.2.2.1.length xc3,.bool x.2.2.2.2.1,.slice xa5 x.2.2.2.2.2.1.length xc5,.slice xa6 x.2.2.2.2.2.2.1.length xc6]) isAgg102 zD rfl (hx.take 7)) ?_;refine O.call0 (.g rfl rfl) rfl zD rfl rfl (rOver_c hy1 hx1) ?_;rintro _ _ ⟨rfl,rfl⟩
  try simp only [zx1,zx2,zx3]
  refine O.q 2 rfl<|O.nil ?_;exact S.rt results296 rfl hR ⟨by simp [e],rfl⟩
theorem sunder_c {r:Fr} {b:Nat} {xs:List RecT} {cs:List Value} {x:RecT} (hrow:RowA r b xs) (h:ItRp.rel r cs x) :
  Con prog 228 #[.pointer (some ⟨b,0,none⟩),.agg cs.toArray] r [] (Ret fun v η=>v=.bool (underR xs x)∧η=[]):=by
 obtain ⟨xa3,xa5,xa6,xa7,xc3,xc5,xc6,xc7,rfl,hx1,_⟩:=ItRp.sh h;obtain ⟨qa,qc,hat,har⟩:=hrow;refine Con.of (n:=11) _ rfl func228 rfl rfl rfl fun g hg R hR=>?_;have h:=h.mono hg;have hat:=hat.mono hg;have har:=har.mono hg;refine S.seq<|S.region rfl<|O.opE (.p rfl) (.box (cs:=[_,_,_,_,_,_,_,_]) rfl rfl) ?_;rintro _ _ ⟨b3,rfl,rfl⟩;refine O.q 1 rfl<|O.nil<|S.seq<|S.frzO zB fun g hs hm hb3=>?_;replace hg:=Fr.sub_trans hg hs;replace hR:=melted hR hm
 try replace h:=h.mono hs
 try replace hat:=hat.mono hs
 try replace har:=har.mono hs
 clear hs hm;refine S.region rfl<|O.q 1 rfl<|O.op (.p rfl) (.nilCheck rfl)<|O.op (.p rfl) (.fieldAddr fld218x0 rfl)<|O.op (.p rfl) (.loadAt flat216 rfl hat rfl) ?_;refine O.op (.p rfl) (.mkFunc rfl rfl)<|O.call0 (.p rfl) rfl zD rfl rfl ((containsIt_c har zD (fun y=>decide (cmpR x y≠0) && over y x) (fun cs y hy hr=>under1_c hb3 h hr) rfl)) ?_;rintro _ _ ⟨rfl,rfl⟩
 try simp only [zx1,zx2,zx3]
 refine O.q 1 rfl<|O.nil ?_;exact S.rt results228 rfl hR ⟨rfl,rfl⟩
theorem rowOf_c {r:Fr} {va:Value} {xs:List RecT} (ha:Arr RecRp r va xs) (hl:xs.length≤100000000000) :
  Con prog 146 #[va] r [] (RetP (fun v η=>SRight xs∧∃ b,v=.pointer (some ⟨b,0,none⟩)∧η=[RowP r 218 220 5 b xs]) (fun ch η=>¬ SRight xs∧ch=shp∧η=[])):=by
 have har:=ha;refine Con.of (n:=45) _ rfl func146 rfl rfl rfl fun g hg R hR=>?_;have ha:=ha.mono hg;obtain ⟨a1,c1,rfl⟩:=ha.shape;refine S.seq<|S.region rfl<|O.q 1 rfl<|O.nil<|S.seq<|S.region rfl<|O.op (.p rfl) (.build (cs:=[_]) underlying218 rfl rfl rfl rfl rfl)<|O.opE (.p rfl) (.box (cs:=[_]) rfl rfl) ?_;rintro _ _ ⟨b7,rfl,rfl⟩;refine O.q 1 rfl<|O.nil<|S.seq<|S.conv (B:=obj b7 218 [.slice none 0 0]) (C:=RowP r 218 220 5 b7 []) zB (fun m x=>⟨m,Fr.sub_refl _,RowP.nil x⟩) ?_;refine S.region rfl<|O.q 2 rfl<|O.callPS (.p rfl) rfl zD rfl rfl zB ((sadd_c har rfl (by simpa using hl)).sub hg) (fun ch η' w hX hW=>by (obtain ⟨hb,rfl,rfl⟩:=hX;exact hR _ _ w ⟨fun q=>(by rw [List.nil_append,q.1] at hb;cases hb),rfl,rfl⟩ hW.drop_all)) ?_;rintro _ _ ⟨hone,rfl,rfl⟩
 try simp only [zx1,zx2,zx3]
 refine O.nil (S.seq (S.seq ?_));rw [List.nil_append] at hone;have hg_q:=hg;have hR_q:=hR
 try have ha_q:=ha
 refine S.frzH (B:=RowP r 218 220 5 b7 xs) zB fun gq hsq ⟨mq,hmq,hsmq⟩ hbq=>?_;replace hg:=Fr.sub_trans hg hsq;replace hR:=backR hR hbq
 try replace ha:=ha.mono hsq
 have hrow:=RowP.read hg hsmq hmq;obtain ⟨qa,qc,hqat,hqar⟩:=id hrow;refine S.region rfl<|O.q 1 rfl<|O.op (.p rfl) (.nilCheck rfl)<|O.op (.p rfl) (.fieldAddr fld218x0 rfl)<|O.op (.p rfl) (.loadAt flat216 rfl hqat rfl) ?_;refine O.op (.p rfl) (.len rfl underlying216 rfl)<|O.q 1 rfl<|O.nil<|S.block<|S.loopK (ι:=Nat) (fun i=>i≤xs.length∧∀ j (h:j<xs.length),j<i→(∀ h0:0<j,cmpR xs[j-1] xs[j]<0)∧underR xs xs[j]=false) (fun i=>[(16,.int .i64 (i:Int))]) [(3,_),(14,_),(15,_)] (fun i=>[]) (fun i=>xs.length - i) (0) (by exact ⟨by simp,fun j _ h=>absurd h zC⟩) (.cons rfl (.nil)) (.cons rfl (.cons rfl (.cons rfl (.nil)))) rfl fun i hx ih=>?_;have hm1:=meltRefl (g:=gq);obtain ⟨hx1,hx2⟩:=hx;refine S.seq<|S.region rfl<|O.op (.p rfl) (.lss rfl rfl)<|O.nil (S.seq ?_)
 first|refine S.condD rfl (fun h17=>?_) (fun h17=>?_)|refine S.condB rfl (fun h17=>?_) (fun h17=>?_)
 ·have hi:i<xs.length:=by omega
  have hnext:((∀ h0:0<i,cmpR xs[i-1] xs[i]<0)∧underR xs xs[i]=false)→∀ j (h:j<xs.length),j<i+1→(∀ h0:0<j,cmpR xs[j-1] xs[j]<0)∧underR xs xs[j]=false:=by
   intro q j h hj
   by_cases e:j=i
   ·subst e;exact q
   ·exact hx2 j h zC
  refine S.skip<|S.seq<|S.block<|S.seq<|S.region rfl<|O.q 1 rfl<|O.ia (.p rfl) underlying216 size220 rfl rfl rfl (by first|assumption|exact Arr.mono hg zE|exact Arr.left zE|exact Arr.left (Arr.mono hg zE)) (h:=fun p19 cs19 hp19 hr19=>?_);obtain ⟨ia3_19,ia5_19,ia6_19,ia7_19,ic3_19,ic5_19,ic6_19,ic7_19,rfl,hr1_19,ha7_19⟩:=ItRp.sh hr19;refine O.op (.p rfl) (.loadAgg isAgg220 zD rfl hp19) ?_;refine O.opE (.p rfl) (.alloc (cs:=[.string ⟨#[]⟩,.int .i64 0,.int .i64 0,.slice none 0 0,.bool false,.slice none 0 0,.slice none 0 0,.slice none 0 0]) zeroValue220 rfl) ?_;rintro _ _ ⟨b5,rfl,rfl⟩;refine O.q 1 rfl<|O.opU rfl (.storeObj zD rfl rfl rfl rfl zB zH) ?_;refine O.nil<|S.objIs (b:=b5) (cs' :=[.string (str xs[i].1),.int .i64 xs[i].2.1,.int .i64 xs[i].2.2.1,.slice ia3_19 xs[i].2.2.2.1.length ic3_19,.bool xs[i].2.2.2.2.1,.slice ia5_19 xs[i].2.2.2.2.2.1.length ic5_19,.slice ia6_19 xs[i].2.2.2.2.2.2.1.length ic6_19,.slice ia7_19 (recB xs[i]).length ic7_19]) zB rfl ?_;refine S.frzO zB fun g hs hm hb5=>?_;replace hg:=Fr.sub_trans hg hs;replace hR:=melted hR hm
  try replace ha:=ha.mono hs
  try replace hqat:=hqat.mono hs
  try replace hqar:=hqar.mono hs
  try replace hrow:=hrow.mono hs
  try replace hp19:=hp19.mono hs
  try replace ha7_19:=ha7_19.mono hs
  try replace hr19:=hr19.mono hs
  try replace hr1_19:=hr1_19.mono hs
  replace hm1:=meltTrans hm1 hm;clear hs hm
  by_cases h0:i=0
  ·cases eu:underR xs xs[i] with
   |true =>
    have hno:¬ SRight xs:=fun q=>by have:=(q.2 i hi).2;rw [eu] at this;cases this
    clear ih;refine S.regionD (L:=[0,1,2,3,4,5,6,7,8,9,10,11,12,13,14,15,16,17,18,19,20,21]) mixedF zD ?_;refine OD.q 1 rfl<|.quiet (.p rfl) rfl (fun _=>.eql rfl rfl)<|OD.sT 22 rfl (by exact decide_eq_true zC) ?_;refine OD.q 15 rfl<|.quiet (.g rfl rfl) rfl (fun _=>.loadAgg isAgg220 zD rfl hb5) ?_;refine OD.call0 (.g rfl rfl) zD rfl zD rfl rfl (sunder_c hrow hr19) ?_;rintro _ _ ⟨rfl,rfl⟩
    try simp only [zx1,zx2,zx3]
    refine OD.sT 39 rfl (by exact eu) ?_;refine .quiet (.g rfl rfl) rfl (fun _=>.not rfl)<|OD.q 1 rfl<|OD.callP0 (.p rfl) zD rfl zD rfl rfl (smust_c _) (fun ch η' w hX hW=>by (obtain ⟨hb,rfl,rfl⟩:=hX;exact hR _ _ w ⟨hno,rfl,rfl⟩ hW.drop_all)) ?_;rintro _ _ ⟨hb42,rfl,rfl⟩
    try simp only [zx1,zx2,zx3]
    exact absurd hb42 zL
   |false =>
    refine S.regionD (L:=[0,1,2,3,4,5,6,7,8,9,10,11,12,13,14,15,16,17,18,19,20,21]) mixedF zD ?_;refine OD.q 1 rfl<|.quiet (.p rfl) rfl (fun _=>.eql rfl rfl)<|OD.sT 22 rfl (by exact decide_eq_true zC) ?_;refine OD.q 15 rfl<|.quiet (.g rfl rfl) rfl (fun _=>.loadAgg isAgg220 zD rfl hb5) ?_;refine OD.call0 (.g rfl rfl) zD rfl zD rfl rfl (sunder_c hrow hr19) ?_;rintro _ _ ⟨rfl,rfl⟩
    try simp only [zx1,zx2,zx3]
    refine OD.sF 39 rfl (by exact eu) ?_;refine .quiet (.g rfl rfl) rfl (fun _=>.not rfl)<|OD.q 1 rfl<|OD.callP0 (.p rfl) zD rfl zD rfl rfl (smust_c _) (fun ch η' w hX hW=>by (exact absurd hX.1 zL)) ?_;rintro _ _ ⟨hb42,rfl,rfl⟩
    try simp only [zx1,zx2,zx3]
    refine ODx.nil<|S.inBlock<|S.region rfl<|O.op (.p rfl) (.add rfl rfl (IntWalk.i64_in _ zC))<|O.q 1 rfl<|O.nil ?_;exact S.melt hm1 (S.wk (ih (i+1) (by exact ⟨by omega,hnext ⟨fun h1=>absurd h1 zC,eu⟩⟩) zC))
  ·have hi1:i - 1<xs.length:=by omega
   by_cases hc:cmpR xs[i-1] xs[i]<0
   ·cases eu:underR xs xs[i] with
    |true =>
     have hno:¬ SRight xs:=fun q=>by have:=(q.2 i hi).2;rw [eu] at this;cases this
     clear ih;refine S.regionD (L:=[0,1,2,3,4,5,6,7,8,9,10,11,12,13,14,15,16,17,18,19,20,21]) mixedF zD ?_;refine OD.q 1 rfl<|.quiet (.p rfl) rfl (fun _=>.eql rfl rfl)<|OD.sF 22 rfl (by exact decide_eq_false zC) ?_;refine OD.q 2 rfl<|.quiet (.g rfl rfl) rfl (fun _=>.nilCheck rfl)<|.quiet (.g rfl rfl) rfl (fun _=>.fieldAddr fld218x0 rfl)<|.quiet (.g rfl rfl) rfl (fun _=>.loadAt flat216 rfl hqat rfl) ?_;refine OD.q 1 rfl<|.quiet (.g rfl rfl) rfl (fun _=>.sub rfl rfl (IntWalk.i64_in _ zC))<|OD.ia (.g rfl rfl) underlying216 size220 rfl rfl (show _=(((i - 1):Nat):Int) by omega) (by first|assumption|exact Arr.mono hg zE|exact Arr.left zE|exact Arr.left (Arr.mono hg zE)) (h:=fun p30 cs30 hp30 hr30=>?_);obtain ⟨ia3_30,ia5_30,ia6_30,ia7_30,ic3_30,ic5_30,ic6_30,ic7_30,rfl,hr1_30,ha7_30⟩:=ItRp.sh hr30;refine .quiet (.g rfl rfl) rfl (fun _=>.loadAgg isAgg220 zD rfl hp30) ?_;refine .quiet (.g rfl rfl) rfl (fun _=>.loadAgg isAgg220 zD rfl hb5) ?_;refine OD.call0 (.g rfl rfl) zD rfl zD rfl rfl (scompare_c hr30 hr19) ?_;rintro _ _ ⟨rfl,rfl⟩
     try simp only [zx1,zx2,zx3]
     refine .quiet (.g rfl rfl) rfl (fun _=>.lss rfl rfl)<|OD.sT 34 rfl (by exact decide_eq_true hc) ?_;refine OD.q 3 rfl<|.quiet (.g rfl rfl) rfl (fun _=>.loadAgg isAgg220 zD rfl hb5) ?_;refine OD.call0 (.g rfl rfl) zD rfl zD rfl rfl (sunder_c hrow hr19) ?_;rintro _ _ ⟨rfl,rfl⟩
     try simp only [zx1,zx2,zx3]
     refine OD.sT 39 rfl (by exact eu) ?_;refine .quiet (.g rfl rfl) rfl (fun _=>.not rfl)<|OD.q 1 rfl<|OD.callP0 (.p rfl) zD rfl zD rfl rfl (smust_c _) (fun ch η' w hX hW=>by (obtain ⟨hb,rfl,rfl⟩:=hX;exact hR _ _ w ⟨hno,rfl,rfl⟩ hW.drop_all)) ?_;rintro _ _ ⟨hb42,rfl,rfl⟩
     try simp only [zx1,zx2,zx3]
     exact absurd hb42 zL
    |false =>
     refine S.regionD (L:=[0,1,2,3,4,5,6,7,8,9,10,11,12,13,14,15,16,17,18,19,20,21]) mixedF zD ?_;refine OD.q 1 rfl<|.quiet (.p rfl) rfl (fun _=>.eql rfl rfl)<|OD.sF 22 rfl (by exact decide_eq_false zC) ?_;refine OD.q 2 rfl<|.quiet (.g rfl rfl) rfl (fun _=>.nilCheck rfl)<|.quiet (.g rfl rfl) rfl (fun _=>.fieldAddr fld218x0 rfl)<|.quiet (.g rfl rfl) rfl (fun _=>.loadAt flat216 rfl hqat rfl) ?_;refine OD.q 1 rfl<|.quiet (.g rfl rfl) rfl (fun _=>.sub rfl rfl (IntWalk.i64_in _ zC))<|OD.ia (.g rfl rfl) underlying216 size220 rfl rfl (show _=(((i - 1):Nat):Int) by omega) (by first|assumption|exact Arr.mono hg zE|exact Arr.left zE|exact Arr.left (Arr.mono hg zE)) (h:=fun p30 cs30 hp30 hr30=>?_);obtain ⟨ia3_30,ia5_30,ia6_30,ia7_30,ic3_30,ic5_30,ic6_30,ic7_30,rfl,hr1_30,ha7_30⟩:=ItRp.sh hr30;refine .quiet (.g rfl rfl) rfl (fun _=>.loadAgg isAgg220 zD rfl hp30) ?_;refine .quiet (.g rfl rfl) rfl (fun _=>.loadAgg isAgg220 zD rfl hb5) ?_;refine OD.call0 (.g rfl rfl) zD rfl zD rfl rfl (scompare_c hr30 hr19) ?_;rintro _ _ ⟨rfl,rfl⟩
     try simp only [zx1,zx2,zx3]
     refine .quiet (.g rfl rfl) rfl (fun _=>.lss rfl rfl)<|OD.sT 34 rfl (by exact decide_eq_true hc) ?_;refine OD.q 3 rfl<|.quiet (.g rfl rfl) rfl (fun _=>.loadAgg isAgg220 zD rfl hb5) ?_;refine OD.call0 (.g rfl rfl) zD rfl zD rfl rfl (sunder_c hrow hr19) ?_;rintro _ _ ⟨rfl,rfl⟩
     try simp only [zx1,zx2,zx3]
     refine OD.sF 39 rfl (by exact eu) ?_;refine .quiet (.g rfl rfl) rfl (fun _=>.not rfl)<|OD.q 1 rfl<|OD.callP0 (.p rfl) zD rfl zD rfl rfl (smust_c _) (fun ch η' w hX hW=>by (exact absurd hX.1 zL)) ?_;rintro _ _ ⟨hb42,rfl,rfl⟩
     try simp only [zx1,zx2,zx3]
     refine ODx.nil<|S.inBlock<|S.region rfl<|O.op (.p rfl) (.add rfl rfl (IntWalk.i64_in _ zC))<|O.q 1 rfl<|O.nil ?_;exact S.melt hm1 (S.wk (ih (i+1) (by exact ⟨by omega,hnext ⟨fun _=>hc,eu⟩⟩) zC))
   ·have hno:¬ SRight xs:=fun q=>hc ((q.2 i hi).1 zC)
    clear ih;refine S.regionD (L:=[0,1,2,3,4,5,6,7,8,9,10,11,12,13,14,15,16,17,18,19,20,21]) mixedF zD ?_;refine OD.q 1 rfl<|.quiet (.p rfl) rfl (fun _=>.eql rfl rfl)<|OD.sF 22 rfl (by exact decide_eq_false zC) ?_;refine OD.q 2 rfl<|.quiet (.g rfl rfl) rfl (fun _=>.nilCheck rfl)<|.quiet (.g rfl rfl) rfl (fun _=>.fieldAddr fld218x0 rfl)<|.quiet (.g rfl rfl) rfl (fun _=>.loadAt flat216 rfl hqat rfl) ?_;refine OD.q 1 rfl<|.quiet (.g rfl rfl) rfl (fun _=>.sub rfl rfl (IntWalk.i64_in _ zC))<|OD.ia (.g rfl rfl) underlying216 size220 rfl rfl (show _=(((i - 1):Nat):Int) by omega) (by first|assumption|exact Arr.mono hg zE|exact Arr.left zE|exact Arr.left (Arr.mono hg zE)) (h:=fun p30 cs30 hp30 hr30=>?_);obtain ⟨ia3_30,ia5_30,ia6_30,ia7_30,ic3_30,ic5_30,ic6_30,ic7_30,rfl,hr1_30,ha7_30⟩:=ItRp.sh hr30;refine .quiet (.g rfl rfl) rfl (fun _=>.loadAgg isAgg220 zD rfl hp30) ?_;refine .quiet (.g rfl rfl) rfl (fun _=>.loadAgg isAgg220 zD rfl hb5) ?_;refine OD.call0 (.g rfl rfl) zD rfl zD rfl rfl (scompare_c hr30 hr19) ?_;rintro _ _ ⟨rfl,rfl⟩
    try simp only [zx1,zx2,zx3]
    refine .quiet (.g rfl rfl) rfl (fun _=>.lss rfl rfl)<|OD.sF 34 rfl (by exact decide_eq_false hc) ?_;refine OD.q 7 rfl<|OD.callP0 (.p rfl) zD rfl zD rfl rfl (smust_c _) (fun ch η' w hX hW=>by (obtain ⟨hb,rfl,rfl⟩:=hX;exact hR _ _ w ⟨hno,rfl,rfl⟩ hW.drop_all)) ?_;rintro _ _ ⟨hb42,rfl,rfl⟩
    try simp only [zx1,zx2,zx3]
    exact absurd hb42 zL
 ·clear ih
  have hi:i=xs.length:=by omega
  subst hi;refine S.exit rfl<|S.seq<|S.back hbq ?_;replace hg:=hg_q;replace hR:=hR_q
  try replace ha:=ha_q
  clear hg_q hR_q;refine S.region rfl<|O.q 2 rfl<|O.nil ?_;exact S.rt results146 rfl hR ⟨⟨hone,fun j h=>hx2 j h h⟩,b7,rfl,rfl⟩
theorem sput1_c {r:Fr} {b:Nat} {va:Value} {xs:List RecT} (hb:At r ⟨b,0,none⟩ [va]) (ha:Arr RecRp r va xs) (hl:xs.length≤1000000000) :
  Con prog 145 (#[]++#[]++#[.pointer (some ⟨b,0,none⟩)]) r [] (RetP (fun v η=>SRight xs∧∃ a c,v=.slice a (sB xs).length c∧η=[OwnP Rp.u8 5 (.slice a (sB xs).length c) (sB xs)]) (fun ch η=>∃ z,ch=errP 44 z∧(¬ SRight xs∧z=4)∧η=[])):=by
 have har:=ha;refine Con.of (n:=31) [.pointer (some ⟨b,0,none⟩)] rfl func145 rfl rfl rfl fun g hg R hR=>?_;have hb:=hb.mono hg;have ha:=ha.mono hg;obtain ⟨a1,c1,rfl⟩:=ha.shape;refine S.seq<|S.region rfl<|O.q 1 rfl<|O.nil<|S.seq<|S.region rfl<|O.op (.p rfl) (.loadAt flat22 rfl hb rfl) ?_;refine O.callP0 (.p rfl) rfl zD rfl rfl (((rowOf_c har zC).sub hg)) (fun ch η' w hX hW=>by (obtain ⟨hb,rfl,rfl⟩:=hX;exact hR _ _ w ⟨4,rfl,⟨hb,rfl⟩,rfl⟩ hW.drop_all)) ?_;rintro _ _ ⟨hright,b7,rfl,rfl⟩
 try simp only [zx1,zx2,zx3]
 refine O.q 1 rfl<|O.nil<|S.seq<|S.frz (A:=RowP r 218 220 5 b7 xs) zB fun g hs hm ⟨_,x',s'⟩=>?_;have hrow:=RowP.read (Fr.sub_trans hg hs) s' x';clear x' s';replace hg:=Fr.sub_trans hg hs;replace hR:=melted hR hm
 try replace ha:=ha.mono hs
 try replace hb:=hb.mono hs
 clear hs hm;obtain ⟨qa,qc,hqat,hqar⟩:=id hrow;refine S.region rfl<|O.q 1 rfl<|O.op (.p rfl) (.nilCheck rfl)<|O.op (.p rfl) (.fieldAddr fld218x0 rfl)<|O.op (.p rfl) (.loadAt flat216 rfl hqat rfl) ?_;refine O.op (.p rfl) (.len rfl underlying216 rfl)<|O.call0 (.p rfl) rfl zD rfl rfl (wNumber_c _) ?_;rintro _ _ ⟨a13,c13,rfl,rfl⟩
 try simp only [zx1,zx2,zx3]
 refine O.q 1 rfl<|O.nil (S.seq (S.seq ?_));have hone:=hright.1;have hbd:=sB_le hone;refine S.region rfl<|O.q 1 rfl<|O.op (.p rfl) (.nilCheck rfl)<|O.op (.p rfl) (.fieldAddr fld218x0 rfl)<|O.op (.p rfl) (.loadAt flat216 rfl hqat rfl) ?_;refine O.op (.p rfl) (.len rfl underlying216 rfl)<|O.q 1 rfl<|O.nil<|S.block<|S.conv (C:=OwnP Rp.u8 5 (.slice a13 (8+(sRows (xs.take 0)).length) c13) (be xs.length++sRows (xs.take 0))) Sel.here (fun m x=>⟨m,Fr.sub_refl _,by simpa [sRows] using x⟩) ?_;refine S.loopK2 (ι:=Nat) (κ:=Option Addr × Nat) (fun i p=>i≤xs.length) (fun i p=>[(19,.int .i64 (i:Int)),(3,.slice p.1 (8+(sRows (xs.take i)).length) p.2)]) [(17,_),(18,_)] (fun i p=>[OwnP Rp.u8 5 (.slice p.1 (8+(sRows (xs.take i)).length) p.2) (be xs.length++sRows (xs.take i))]) (fun i p=>xs.length - i) (0) ((a13,c13)) zC (.cons rfl (.cons rfl (.nil))) (.cons rfl (.cons rfl (.nil))) rfl fun i p hx ih=>?_;have hm1:=meltRefl (g:=g);refine S.seq<|S.region rfl<|O.op (.p rfl) (.lss rfl rfl)<|O.nil (S.seq ?_)
 first|refine S.condD rfl (fun h20=>?_) (fun h20=>?_)|refine S.condB rfl (fun h20=>?_) (fun h20=>?_)
 ·have hi:i<xs.length:=by omega
  have hb1:=recB_le (oneK_all hone xs[i] (List.getElem_mem hi));have hb2:=sRows_le (xs.take i) (oneK_all (oneK_take i hone));rw [List.length_take,Nat.min_eq_left hx] at hb2;have htk:[be xs.length++sRows (xs.take i),bytesOf (recB xs[i])].flatten=be xs.length++sRows (xs.take (i+1)):=by rw [List.take_succ_eq_append_getElem hi,sRows_snoc];simp
  have htl:(be (xs.length:Int)++sRows (xs.take (i+1))).length=8+(sRows (xs.take (i+1))).length:=by simp
  have hb3:(be (xs.length:Int)++sRows (xs.take (i+1))).length≤140737488355328:=by
   have:=sRows_le (xs.take (i+1)) (oneK_all (oneK_take (i+1) hone));rw [List.length_take] at this
   simp;omega
  generalize hso:sRows (xs.take i)=so at htk hb2 ⊢;refine S.skip<|S.seq<|S.block<|S.seq<|S.region rfl<|O.ia (.p rfl) underlying216 size220 rfl rfl rfl (by first|assumption|exact Arr.mono hg zE|exact Arr.left zE|exact Arr.left (Arr.mono hg zE)) (h:=fun p21 cs21 hp21 hr21=>?_);obtain ⟨ia3_21,ia5_21,ia6_21,ia7_21,ic3_21,ic5_21,ic6_21,ic7_21,rfl,hr1_21,ha7_21⟩:=ItRp.sh hr21;refine O.op (.p rfl) (.loadAgg isAgg220 zD rfl hp21) ?_;refine O.opE (.p rfl) (.alloc (cs:=[.string ⟨#[]⟩,.int .i64 0,.int .i64 0,.slice none 0 0,.bool false,.slice none 0 0,.slice none 0 0,.slice none 0 0]) zeroValue220 rfl) ?_;rintro _ _ ⟨b5,rfl,rfl⟩;refine O.opU rfl (.storeObj zD rfl rfl rfl rfl zB zH) ?_;refine O.nil<|S.region rfl<|O.q 1 rfl<|O.op (.p rfl) (.fieldObj fld220x1 rfl)<|O.op (.p rfl) (.lo flat24) ?_;refine O.call0 (.p rfl) rfl zD rfl rfl (wBytes_c (by first|assumption|exact Arr.mono hg zE|exact Arr.left zE|exact Arr.left (Arr.mono hg zE)) zI) ?_;rintro _ _ ⟨a26,c26,rfl,rfl⟩
  try simp only [zx1,zx2,zx3]
  generalize hbb:bytesOf (recB xs[i])=bb at htk ⊢;refine O.opE (.p rfl) (.litP (T:=Rp.val) (ys:=[_,_]) underlying109 elem24 zF rfl rfl ⟨⟨rfl,rfl⟩,⟨rfl,rfl⟩,trivial⟩ zF) ?_;rintro _ _ ⟨a27,c27,rfl,rfl⟩;refine O.callB (.p rfl) rfl zD rfl rfl (bs:=[OwnP Rp.val 24 (.slice a27 2 c27) [.slice p.1 (8+so.length) p.2,.slice a26 bb.length c26],OwnP Rp.u8 5 (.slice p.1 (8+so.length) p.2) (be xs.length++so),OwnP Rp.u8 5 (.slice a26 bb.length c26) bb]) zJ (fun m hm hd=>wJoin_c (xss:=[be xs.length++so,bb]) ((hm.arr.right hd).rows ⟨hm.tail.arr.right hd,hm.tail.tail.arr.right hd,trivial⟩) (by rw [htk];exact hb3)) ?_;rintro _ _ ⟨a28,c28,rfl,rfl⟩
  try simp only [zx1,zx2,zx3]
  refine O.q 1 rfl<|O.nil<|S.inBlock<|S.region rfl<|O.op (.p rfl) (.add rfl rfl (IntWalk.i64_in _ zC))<|O.q 1 rfl<|O.nil ?_;rw [htk,htl];exact S.pw (ih (i+1) ((a28,c28)) zC zC)
 ·clear ih
  have hi:i=xs.length:=by omega
  subst hi;rw [List.take_length];have hl8:8+(sRows xs).length=(sB xs).length:=by simp [sB]
  rw [hl8];refine S.exit rfl<|S.seq<|S.region rfl<|O.q 2 rfl<|O.nil ?_;exact S.rt results145 rfl hR ⟨hright,p.1,p.2,rfl,rfl⟩
noncomputable def sOut (l:List RecT):List UInt8:=if SRight l then sB l else []
noncomputable def sErr (l:List RecT):Int:=if SRight l then 0 else 4
theorem sTried_c {r:Fr} {first cap:Array Value} {xs:List RecT} (con:Con prog 145 (first++#[]++cap) r [] (RetP (fun v η=>SRight xs∧∃ a c,v=.slice a (sB xs).length c∧η=[OwnP Rp.u8 5 (.slice a (sB xs).length c) (sB xs)]) (fun ch η=>∃ z,ch=errP 44 z∧(¬ SRight xs∧z=4)∧η=[]))) (h1:(Value.func (.func 145) first cap).oneCell' =true:=by rfl) :
  Con prog 144 #[.func (.func 145) first cap] r [] (Ret fun v η=>∃ a c,v=.tuple #[.slice a (sOut xs).length c,.int .i64 (sErr xs)]∧η=[OwnP Rp.u8 5 (.slice a (sOut xs).length c) (sOut xs)]) :=
 (triedSB_c zD h1 (fun _ _ h=>by obtain ⟨_,_,_,rfl,_⟩:=h;rfl) con).post fun e η h w g hw=>by
  cases e with
  |returned v =>
   rcases h with ⟨u,⟨hs,a,c,rfl,rfl⟩,rfl⟩|⟨z,⟨hs,rfl⟩,rfl,rfl⟩
   ·exact ⟨_,⟨a,c,by simp [sOut,sErr,hs],rfl⟩,by simpa [sOut,hs] using hw⟩
   ·exact ⟨_,⟨none,0,by simp [sOut,sErr,hs],rfl⟩,by simp only [sOut,hs,if_false];exact hw.imp fun m x=>⟨Fr.emp,m,Fr.emp_disj _,Fr.emp_sub _,Fr.sub_refl _,ownP_nil _,x⟩⟩
  |panicked _=>exact h.elim
  |outgrown=>exact h.elim
theorem sPut_c {r:Fr} {va:Value} {xs:List RecT} (ha:Arr RecRp r va xs) (hl:xs.length≤1000000000) :
  Con prog 77 #[va] r [] (Ret fun v η=>∃ a c,v=.tuple #[.slice a (sOut xs).length c,.int .i64 (sErr xs)]∧η=[OwnP Rp.u8 5 (.slice a (sOut xs).length c) (sOut xs)]):=by
 refine Con.of (n:=8) _ rfl func77 rfl rfl rfl fun g hg R hR=>?_;have ha:=ha.mono hg;obtain ⟨a1,c1,rfl⟩:=ha.shape;refine S.seq<|S.region rfl<|O.opE (.p rfl) (.box (cs:=[_]) rfl rfl) ?_;rintro _ _ ⟨b1,rfl,rfl⟩;refine O.q 2 rfl<|O.nil<|S.seq<|S.frzO zB fun g hs hm hb1=>?_;replace hg:=Fr.sub_trans hg hs;replace hR:=melted hR hm
 try replace ha:=ha.mono hs
 clear hs hm;refine S.region rfl<|O.op (.p rfl) (.mkFunc rfl rfl)<|O.call0 (.p rfl) rfl zD rfl rfl ((sTried_c (sput1_c hb1 ha hl))) ?_;rintro _ _ ⟨a5,c5,rfl,rfl⟩
 try simp only [zx1,zx2,zx3]
 refine O.q 4 rfl<|O.nil<|S.ret2 results77 rfl rfl fun w hw=>Holds.end_ hR hw ?_;exact pk ⟨a5,c5,rfl,rfl⟩
theorem triedSP_ret {g:Gr} {be bx:Nat} {x:Value} {z:Int} {T1 T2:TypeId} {w:World} {R:Ending→World→Prop} {η:List SProp} (hw:Holds w g (obj bx T1 [x]::obj be T2 [.int .i64 z]::η)) (hR:∀ w,Holds w g (obj bx T1 [x]::obj be T2 [.int .i64 z]::η)→R (.returned (.tuple #[x,.int .i64 z])) w) :
  CallsD prog 302 #[.pointer (some ⟨be,0,none⟩),.pointer (some ⟨bx,0,none⟩)] .returning w (DPost2 prog g bx be 213 44 R):=by
 refine (callsD_rec (R:=fun e w=>(∃ v,e=.returned v)∧Holds w g (obj bx T1 [x]::obj be T2 [.int .i64 z]::η)) [.pointer (some ⟨be,0,none⟩),.pointer (some ⟨bx,0,none⟩)] rfl func302 rfl rfl rfl rfl hw ?_).mono ?_
 rotate_left
 ·rintro e u' w' ⟨rfl,⟨v,rfl⟩,h⟩
  exact ⟨⟨v,rfl⟩,rfl,T1,T2,_,_,_,_,η,h,LoadsAs.flat flat213,LoadsAs.flat flat44,hR w' h⟩
 refine S.seq<|S.region rfl<|O.q 1 rfl<|O.op (.p rfl) (.neqIN underlying20 rfl)<|O.nil<|S.condF rfl<|S.skip<|S.end0 results302 fun w hw=>?_;exact ⟨⟨_,rfl⟩,hw⟩
theorem triedSP_pan {g:Gr} {be bx:Nat} {x:Value} {z z' :Int} {T1 T2:TypeId} {w:World} {R:Ending→World→Prop} {η:List SProp} (hw:Holds w g (obj bx T1 [x]::obj be T2 [.int .i64 z']::η))
  (hR:∀ w,Holds w g (obj bx T1 [.pointer none]::obj be T2 [.int .i64 z]::η)→R (.returned (.tuple #[.pointer none,.int .i64 z])) w) :
  CallsD prog 302 #[.pointer (some ⟨be,0,none⟩),.pointer (some ⟨bx,0,none⟩)] (.panicking (errP 44 z)) w (DPost2 prog g bx be 213 44 R):=by
 refine (callsD_rec (R:=fun e w=>(∃ v,e=.returned v)∧Holds w g (obj bx T1 [.pointer none]::obj be T2 [.int .i64 z]::η)) [.pointer (some ⟨be,0,none⟩),.pointer (some ⟨bx,0,none⟩)] rfl func302 rfl rfl rfl rfl hw ?_).mono ?_
 rotate_left
 ·rintro e u' w' ⟨rfl,⟨v,rfl⟩,h⟩
  exact ⟨⟨v,rfl⟩,rfl,T1,T2,_,_,_,_,η,h,LoadsAs.flat flat213,LoadsAs.flat flat44,hR w' h⟩
 refine S.seq<|S.region rfl<|O.q 1 rfl<|O.op (.p rfl) (.neqIV underlying20 rfl)<|O.nil<|S.condT rfl<|S.seq<|S.region rfl<|O.q 1 rfl<|O.nil<|S.seq<|S.seq<|S.region rfl<|O.q 1 rfl<|O.op (.p rfl) (.assertYes underlying44 rfl)<|O.q 3 rfl<|O.opU rfl (.store1 flat44 rfl rfl zN zB zH) ?_;refine O.q 1 rfl<|O.nil<|S.seq<|S.region rfl<|O.q 1 rfl<|O.op (.p rfl) (.not rfl)<|O.nil<|S.condF rfl<|S.skip<|S.seq<|S.region rfl<|O.q 1 rfl<|O.nil<|S.region rfl<|O.q 1 rfl<|O.opU rfl (.store1 flat213 rfl rfl zN zB zH) ?_;refine O.nil<|S.end0 results302 fun w hw=>?_;exact ⟨⟨_,rfl⟩,hw.picks zQ⟩
theorem triedSP_c {r:Fr} {f:Nat} {first cap:Array Value} {K:Value→List SProp→Prop} {X:Int→Prop} (hc:callable prog f=true) (hf1:(Value.func (.func f) first cap).oneCell' =true) (hK1:∀ u ζ,K u ζ→u.oneCell' =true)
  (con:Con prog f (first++#[]++cap) r [] (RetP K (fun ch η=>∃ z,ch=errP 44 z∧X z∧η=[]))) :
  Con prog 233 #[.func (.func f) first cap] r [] (Ret fun v η=>(∃ u,K u η∧v=.tuple #[u,.int .i64 0])∨(∃ z,X z∧η=[]∧v=.tuple #[.pointer none,.int .i64 z])):=by
 refine Con.of (n:=7) [.func (.func f) first cap] rfl func233 rfl rfl rfl fun g hg R hR=>?_;refine S.seq<|S.region rfl<|O.opE (.p rfl) (.alloc (cs:=[.pointer none]) zeroValue213 rfl) ?_;rintro _ _ ⟨b2,rfl,rfl⟩;refine O.opE (.p rfl) (.alloc (cs:=[.int .i64 0]) zeroValue44 rfl) ?_;rintro _ _ ⟨b3,rfl,rfl⟩;refine O.nil<|S.seq<|S.region rfl<|O.op (.p rfl) (.mkFunc rfl rfl)<|O.defer rfl rfl rfl rfl ?_;refine O.nil<|S.seq<|S.region rfl<|O.q 1 rfl<|O.callP0D (.p rfl) rfl hc rfl rfl (con.sub hg) (fun a ch η' w hF hX hW=>by (obtain ⟨z,rfl,hx,rfl⟩:=hX;exact leavesCell2 results233 hF rfl rfl zL zD (triedSP_pan (hW.picks zQ) fun w hw=>Holds.end_ hR hw ⟨_,.inr ⟨z,hx,rfl,rfl⟩,by repeat (first|exact zpa|exact zpn|(apply zpc;focus (repeat (first|exact zh|apply zt)))|apply zps)⟩))) ?_;rintro v6 _ hk6
 try simp only [zx1,zx2,zx3]
 have hone:=hK1 _ _ hk6;refine O.perm (List.perm_append_comm) ?_;simp only [List.cons_append,List.nil_append];refine O.opU rfl (.store1 flat213 rfl rfl zN zB zH) ?_;refine O.opU rfl (.store1 flat44 rfl rfl zN zB zH) ?_;refine O.nil<|S.retL fun a w hf hd hw=>?_;exact leavesCell2 results233 hf rfl rfl zL zD (triedSP_ret (hw.picks zQ) fun w hw=>Holds.end_ hR hw ⟨_,.inl ⟨_,hk6,rfl⟩,by repeat (first|exact zpa|exact zpn|(apply zpc;focus (repeat (first|exact zh|apply zt)))|apply zps)⟩)
theorem sright1_c {r:Fr} {p:Nat} {va:Value} {xs:List RecT} (hp:At r ⟨p,0,none⟩ [va]) (ha:Arr RecRp r va xs) (hl:xs.length≤100000000000) :
  Con prog 234 (#[]++#[]++#[.pointer (some ⟨p,0,none⟩)]) r [] (RetP (fun v η=>SRight xs∧∃ b,v=.pointer (some ⟨b,0,none⟩)∧η=[RowP r 218 220 5 b xs]) (fun ch η=>∃ z,ch=errP 44 z∧(¬ SRight xs∧z=4)∧η=[])):=by
 refine Con.of (n:=4) [.pointer (some ⟨p,0,none⟩)] rfl func234 rfl rfl rfl fun g hg R hR=>?_;have hp:=hp.mono hg;obtain ⟨a1,c1,rfl⟩:=ha.shape;refine S.seq<|S.region rfl<|O.q 1 rfl<|O.nil<|S.seq<|S.region rfl<|O.op (.p rfl) (.loadAt flat22 rfl hp rfl) ?_;refine O.callP0 (.p rfl) rfl zD rfl rfl (((rowOf_c ha hl).sub hg)) (fun ch η' w hX hW=>by (obtain ⟨hb,rfl,rfl⟩:=hX;exact hR _ _ w ⟨4,rfl,⟨hb,rfl⟩,rfl⟩ hW.drop_all)) ?_;rintro _ _ ⟨hright,b3,rfl,rfl⟩
 try simp only [zx1,zx2,zx3]
 refine O.q 1 rfl<|O.nil ?_;exact S.rt results234 rfl hR ⟨hright,b3,rfl,rfl⟩
theorem sRight_c {r:Fr} {va:Value} {xs:List RecT} (ha:Arr RecRp r va xs) (hl:xs.length≤100000000000) :
  Con prog 155 #[va] r [] (Ret fun v η=>v=.bool (decide (SRight xs))∧η=[]):=by
 refine Con.of (n:=12) _ rfl func155 rfl rfl rfl fun g hg R hR=>?_;have ha:=ha.mono hg;obtain ⟨a1,c1,rfl⟩:=ha.shape;refine S.seq<|S.region rfl<|O.opE (.p rfl) (.box (cs:=[_]) rfl rfl) ?_;rintro _ _ ⟨b1,rfl,rfl⟩;refine O.q 1 rfl<|O.nil<|S.seq<|S.frzO zB fun g hs hm hb1=>?_;replace hg:=Fr.sub_trans hg hs;replace hR:=melted hR hm
 try replace ha:=ha.mono hs
 clear hs hm;have con:=triedSP_c zD (first:=#[]) (cap:=#[.pointer (some ⟨b1,0,none⟩)]) rfl (fun _ _ h=>by obtain ⟨_,_,rfl,_⟩:=h;rfl) (sright1_c hb1 ha hl)
 by_cases e:SRight xs
 ·
  refine S.region rfl<|O.op (.p rfl) (.mkFunc rfl rfl)<|O.call0 (.p rfl) rfl zD rfl rfl ((con.mono (Ret.imp (K' :=fun v η=>∃ b,v=.tuple #[.pointer (some ⟨b,0,none⟩),.int .i64 0]∧η=[RowP g.h 218 220 5 b xs]) fun v η h=>by rcases h with ⟨_,⟨_,b,rfl,h3⟩,rfl⟩|⟨_,⟨h2,_⟩,_⟩;exact ⟨b,rfl,h3⟩;exact absurd e h2))) ?_;rintro _ _ ⟨b7,rfl,rfl⟩
  try simp only [zx1,zx2,zx3]
  refine O.q 5 rfl<|O.nil<|S.seq<|S.region rfl<|O.q 1 rfl<|O.op (.p rfl) (.eql rfl rfl)<|O.q 1 rfl<|O.nil ?_;exact S.rt results155 rfl hR ⟨by simp [e],rfl⟩
 ·
  refine S.region rfl<|O.op (.p rfl) (.mkFunc rfl rfl)<|O.call0 (.p rfl) rfl zD rfl rfl ((con.mono (Ret.imp (K' :=fun v η=>v=.tuple #[.pointer none,.int .i64 4]∧η=[]) fun v η h=>by rcases h with ⟨_,⟨h2,_⟩,_⟩|⟨_,⟨_,rfl⟩,rfl,rfl⟩;exact absurd h2 e;exact ⟨rfl,rfl⟩))) ?_;rintro _ _ ⟨rfl,rfl⟩
  try simp only [zx1,zx2,zx3]
  refine O.q 5 rfl<|O.nil<|S.seq<|S.region rfl<|O.q 1 rfl<|O.op (.p rfl) (.eql rfl rfl)<|O.q 1 rfl<|O.nil ?_;exact S.rt results155 rfl hR ⟨by simp [e],rfl⟩
theorem bcompare_c {r:Fr} {va vb:Value} {xs ys:List UInt8} (ha:Arr Rp.u8 r va xs) (hb:Arr Rp.u8 r vb ys):Con prog 308 #[va,vb] r [] (Ret fun v η=>v=.int .i64 (Lib.compareBytes xs ys)∧η=[]):=by
 refine Con.of (n:=8) _ rfl func308 rfl rfl rfl fun g hg R hR=>?_;have ha:=ha.mono hg;have hb:=hb.mono hg;obtain ⟨a1,c1,rfl⟩:=ha.shape;obtain ⟨a2,c2,rfl⟩:=hb.shape;refine S.seq<|S.region rfl<|O.q 1 rfl<|O.nil<|S.seq<|S.region rfl<|O.q 2 rfl<|O.op (.p rfl) (.compareExt func342 zD rfl zD zD rfl rfl rfl ha hb)<|O.q 1 rfl<|O.nil ?_;exact S.rt results308 rfl hR ⟨rfl,rfl⟩
end Go.Proofs.YtojafegjlahajaaGreatDoor
