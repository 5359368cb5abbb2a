/- Texts of this proof. -/
import Derived.Test.YtdjoggpacmpfnaaGreatDoorQSib1
open Go Go.Sp Go.Proofs.Tryz
set_option maxRecDepth 100000
set_option maxHeartbeats 1000000
attribute [local irreducible] obj Own OwnP
namespace Go.Proofs.YtdjoggpacmpfnaaGreatDoor
theorem indexIt_c {r:Fr} {va:Value} {xs:List RecT} {f:FuncId} {first cap:Array Value} (ha:Arr ItRp r va xs) (hc:callable prog f=true) (q:RecT→Bool)
  (con:∀ cs x,x∈xs→ItRp.rel r cs x→Con prog f (first++#[.agg cs.toArray]++cap) r [] (Ret fun v η=>v=.bool (q x)∧η=[])) :
  Con prog 358 #[va,.func (.func f) first cap] r [] (Ret fun v η=>∃ k:Int,v=.int .i64 k∧(0≤k↔xs.any q=true)∧η=[]):=by
 have har:=ha;refine Con.of (n:=19) [va,.func (.func f) first cap] rfl func358 rfl rfl rfl fun g hg R hR=>?_;have ha:=ha.mono hg;have hbd:=ha.bound;obtain ⟨a1,c1,rfl⟩:=ha.shape;refine zz 12 ?_;refine S.loopK (ι:=Nat) (fun i=>i≤xs.length∧(xs.take i).any q=false) (fun i=>[(8,.int .i64 (i:Int))]) [(0,_),(1,_),(7,_)] (fun i=>[]) (fun i=>xs.length - i) (0) (by exact ⟨by simp,by simp⟩) zq zq rfl fun i hx ih=>?_;have hm1:=meltRefl (g:=g);obtain ⟨hx1,hx2⟩:=hx;refine zz 5 ?_;refine S.cd rfl (fun h9=>?_) fun h9=>?_
 ·have hi:i<xs.length:=by omega
  cases e:q xs[i] with
  |true =>
   have hy:xs.any q=true:=List.any_eq_true.2 ⟨xs[i],List.getElem_mem hi,e⟩;clear ih;refine zz 13 ?_;refine O.iy har hg (h:=fun p14 cs14 hp14 hrr14=>?_);have hr14:=Rp.rel.mono hrr14 hg;obtain ⟨ia3_14,ia5_14,ia6_14,ia7_14,ic3_14,ic5_14,ic6_14,ic7_14,rfl,hr1_14,ha7_14⟩:=ItRp.sh hr14;refine O.op (.p rfl) (.loadAgg isAgg317 zB rfl hp14) ?_;refine O.v0 (.p rfl) rfl hc rfl rfl (((con _ _ (List.getElem_mem hi) hrr14).sub hg)) ?_;refine O.sT 16 rfl (by exact e) ?_;refine zz 7 ?_;exact S.rt results358 rfl hR ⟨(i:Int),rfl,⟨fun _=>hy,fun _=>by omega⟩,rfl⟩
  |false =>
   refine zz 13 ?_;refine O.iy har hg (h:=fun p14 cs14 hp14 hrr14=>?_);have hr14:=Rp.rel.mono hrr14 hg;obtain ⟨ia3_14,ia5_14,ia6_14,ia7_14,ic3_14,ic5_14,ic6_14,ic7_14,rfl,hr1_14,ha7_14⟩:=ItRp.sh hr14;refine O.op (.p rfl) (.loadAgg isAgg317 zB rfl hp14) ?_;refine O.v0 (.p rfl) rfl hc rfl rfl (((con _ _ (List.getElem_mem hi) hrr14).sub hg)) ?_;refine O.sF 16 rfl (by exact e)<|zz 8 ?_;exact S.wk (ih (i+1) (by exact ⟨by omega,by rw [ztg hi,List.any_append,hx2];simp [e]⟩) zD)
 ·clear ih
  have hi:i=xs.length:=by omega
  subst hi;rw [List.take_length] at hx2;refine zz 5 ?_;exact S.rt results358 rfl hR ⟨-1,rfl,⟨fun h=>absurd h zE,fun h=>by rw [hx2] at h;cases h⟩,rfl⟩
theorem containsIt_c {r:Fr} {va:Value} {xs:List RecT} {f:FuncId} {first cap:Array Value} (ha:Arr ItRp r va xs) (hc:callable prog f=true) (q:RecT→Bool)
  (con:∀ cs x,x∈xs→ItRp.rel r cs x→Con prog f (first++#[.agg cs.toArray]++cap) r [] (Ret fun v η=>v=.bool (q x)∧η=[])) (h1:(Value.func (.func f) first cap).oneCell' =true) :
  Con prog 341 #[va,.func (.func f) first cap] r [] (Ret fun v η=>v=.bool (xs.any q)∧η=[]):=by
 refine Con.of (n:=9) [va,.func (.func f) first cap] rfl func341 rfl rfl rfl fun g hg R hR=>?_;refine zz 8 ?_;refine O.call0 (.p rfl) rfl zB rfl rfl (((indexIt_c ha hc q con).sub hg)) ?_;rintro v7 _ ⟨k7,rfl,hk7,rfl⟩;refine zz 3 ?_;exact S.rt results341 rfl hR ⟨congrArg _ (by rw [Bool.eq_iff_iff,decide_eq_true_iff];exact hk7),rfl⟩
theorem under1_c {r:Fr} {b:Nat} {cs ds:List Value} {x y:RecT} (hx:At r ⟨b,0,none⟩ cs) (h:ItRp.rel r cs x) (h' :ItRp.rel r ds y) :
  Con prog 342 (#[]++#[.agg ds.toArray]++#[.pointer (some ⟨b,0,none⟩)]) r [] (Ret fun v η=>v=.bool (decide (cmpR x y≠0) && over y x)∧η=[]):=by
 obtain ⟨xa3,xa5,xa6,xa7,xc3,xc5,xc6,xc7,rfl,hx1,_⟩:=ItRp.sh h;obtain ⟨ya3,ya5,ya6,ya7,yc3,yc5,yc6,yc7,rfl,hy1,_⟩:=ItRp.sh h';refine Con.of (n:=15) [.agg #[.string (str y.1),.int .i64 y.2.1,.int .i64 y.2.2.1,.slice ya3 y.2.2.2.1.length yc3,.bool y.2.2.2.2.1,.slice ya5 y.2.2.2.2.2.1.length yc5,.slice ya6 y.2.2.2.2.2.2.1.length yc6,.slice ya7 (recB y).length yc7],.pointer (some ⟨b,0,none⟩)] rfl func342 rfl rfl rfl fun g hg R hR=>?_;have hx:=hx.mono hg;have h:=h.mono hg;have h' :=h'.mono hg;have hx1:=hx1.mono hg;have hy1:=hy1.mono hg
 by_cases e:cmpR x y=0
 ·
  refine S.seq<|S.region rfl<|O.opE (.p rfl) (.box (cs:=[_,_,_,_,_,_,_,_]) rfl rfl) ?_;rintro _ _ ⟨b2,rfl,rfl⟩;refine zz 4 ?_;refine O.op (.p rfl) (.loadAgg isAgg317 zB rfl hx)<|zz 1 ?_;refine O.v0 (.p rfl) rfl zB rfl rfl (scompare_c h h')<|zz 1 ?_;refine O.sF 7 rfl (by simp [e])<|zz 9 ?_;exact S.rt results342 rfl hR ⟨by simp [e],rfl⟩
 ·
  refine S.seq<|S.region rfl<|O.opE (.p rfl) (.box (cs:=[_,_,_,_,_,_,_,_]) rfl rfl) ?_;rintro _ _ ⟨b2,rfl,rfl⟩;refine zz 4 ?_;refine O.op (.p rfl) (.loadAgg isAgg317 zB rfl hx)<|zz 1 ?_;refine O.v0 (.p rfl) rfl zB rfl rfl (scompare_c h h')<|zz 1 ?_;refine O.sT 7 rfl (by simp [e])<|zz 3 ?_;refine O.op (.g rfl rfl) (.fieldAddr fld317x0 rfl)<|O.op (.g rfl rfl) (.loadAgg (cs:=[.string (str x.1),.int .i64 x.2.1,.int .i64 x.2.2.1,.slice xa3 x.2.2.2.1.length xc3,.bool x.2.2.2.2.1,.slice xa5 x.2.2.2.2.2.1.length xc5,.slice xa6 x.2.2.2.2.2.2.1.length xc6]) isAgg118 zB rfl (hx.take 7)) ?_;refine O.v0 (.g rfl rfl) rfl zB rfl rfl (rOver_c hy1 hx1)<|zz 3 ?_;exact S.rt results342 rfl hR ⟨by simp [e],rfl⟩
theorem sunder_c {r:Fr} {b:Nat} {xs:List RecT} {cs:List Value} {x:RecT} (hrow:RowA r b xs) (h:ItRp.rel r cs x) :
  Con prog 321 #[.pointer (some ⟨b,0,none⟩),.agg cs.toArray] r [] (Ret fun v η=>v=.bool (underR xs x)∧η=[]):=by
 obtain ⟨xa3,xa5,xa6,xa7,xc3,xc5,xc6,xc7,rfl,hx1,_⟩:=ItRp.sh h;obtain ⟨qa,qc,hat,har⟩:=hrow;refine Con.o func321 fun g hg R hR=>?_;have h:=h.mono hg;have hat:=hat.mono hg;have har:=har.mono hg;refine S.seq<|S.region rfl<|O.opE (.p rfl) (.box (cs:=[_,_,_,_,_,_,_,_]) rfl rfl) ?_;rintro _ _ ⟨b3,rfl,rfl⟩;refine zz 3 ?_;refine S.frzO zC fun g hs hm hb3=>?_;replace hg:=zfs hg hs;replace hR:=melted hR hm
 try replace h:=h.mono hs
 try replace hat:=hat.mono hs
 try replace har:=har.mono hs
 clear hs hm;refine zz 3 ?_;refine O.op (.p rfl) (.fieldAddr fld315x0 rfl) ?_;refine zz 2 ?_;refine O.v0 (.p rfl) rfl zB rfl rfl ((containsIt_c har zB (fun y=>decide (cmpR x y≠0) && over y x) (fun cs y hy hr=>under1_c hb3 h hr) rfl)) ?_;refine zz 2 ?_;exact S.rt results321 rfl hR ⟨rfl,rfl⟩
theorem rowOf_c {r:Fr} {va:Value} {xs:List RecT} (ha:Arr RecRp r va xs) (hl:xs.length≤100000000000) :
  Con prog 282 #[va] r [] (RetP (fun v η=>SRight xs∧∃ b,v=.pointer (some ⟨b,0,none⟩)∧η=[RowP r 315 317 5 b xs]) (fun ch η=>¬ SRight xs∧ch=shp∧η=[])):=by
 have har:=ha;refine Con.o func282 fun g hg R hR=>?_;have ha:=ha.mono hg;obtain ⟨a1,c1,rfl⟩:=ha.shape;refine zz 6 ?_;refine O.op (.p rfl) (.build (cs:=[_]) underlying315 rfl rfl rfl rfl rfl)<|O.opE (.p rfl) (.box (cs:=[_]) rfl rfl) ?_;rintro _ _ ⟨b7,rfl,rfl⟩;refine zz 3 ?_;refine S.conv (B:=obj b7 315 [.slice none 0 0]) (C:=RowP r 315 317 5 b7 []) zC (fun m x=>⟨m,Fr.sub_refl _,RowP.nil x⟩) ?_;refine zz 3 ?_;refine O.callPS (.p rfl) rfl zB rfl rfl zC ((sadd_c har rfl (by simpa using hl)).sub hg) (fun ch η' w hX hW=>by (obtain ⟨hb,rfl,rfl⟩:=hX;exact hR _ _ w ⟨fun q=>(by rw [List.nil_append,q.1] at hb;cases hb),rfl,rfl⟩ hW.drop_all)) ?_;rintro _ _ ⟨hone,rfl,rfl⟩;refine O.nil (S.seq (S.seq ?_));rw [List.nil_append] at hone;have hg_q:=hg;have hR_q:=hR
 try have ha_q:=ha
 refine S.frzH (B:=RowP r 315 317 5 b7 xs) zC fun gq hsq ⟨mq,hmq,hsmq⟩ hbq=>?_;replace hg:=zfs hg hsq;replace hR:=backR hR hbq
 try replace ha:=ha.mono hsq
 have hrow:=RowP.read hg hsmq hmq;obtain ⟨qa,qc,hqat,hqar⟩:=id hrow;refine zz 3 ?_;refine O.op (.p rfl) (.fieldAddr fld315x0 rfl) ?_;refine zz 5 ?_;refine S.loopK (ι:=Nat) (fun i=>i≤xs.length∧∀ j (h:j<xs.length),j<i→(∀ h0:0<j,cmpR xs[j-1] xs[j]<0)∧underR xs xs[j]=false) (fun i=>[(16,.int .i64 (i:Int))]) [(3,_),(14,_),(15,_)] (fun i=>[]) (fun i=>xs.length - i) (0) (by exact ⟨by simp,fun j _ h=>absurd h zD⟩) zq zq rfl fun i hx ih=>?_;have hm1:=meltRefl (g:=gq);obtain ⟨hx1,hx2⟩:=hx;refine zz 5 ?_;refine S.cd rfl (fun h17=>?_) fun h17=>?_
 ·have hi:i<xs.length:=by omega
  have hnext:((∀ h0:0<i,cmpR xs[i-1] xs[i]<0)∧underR xs xs[i]=false)→∀ j (h:j<xs.length),j<i+1→(∀ h0:0<j,cmpR xs[j-1] xs[j]<0)∧underR xs xs[j]=false:=by
   intro q j h hj
   by_cases e:j=i
   ·subst e;exact q
   ·exact hx2 j h zD
  refine zz 6 ?_;refine O.ia (.p rfl) underlying313 size317 rfl rfl rfl zA (h:=fun p19 cs19 hp19 hr19=>?_);obtain ⟨ia3_19,ia5_19,ia6_19,ia7_19,ic3_19,ic5_19,ic6_19,ic7_19,rfl,hr1_19,ha7_19⟩:=ItRp.sh hr19;refine O.op (.p rfl) (.loadAgg isAgg317 zB rfl hp19) ?_;refine O.opE (.p rfl) (.alloc (cs:=[.string ⟨#[]⟩,.int .i64 0,.int .i64 0,.slice none 0 0,.bool false,.slice none 0 0,.slice none 0 0,.slice none 0 0]) zeroValue317 rfl) ?_;rintro _ _ ⟨b5,rfl,rfl⟩;refine zz 2 ?_;refine O.nil<|S.objIs (b:=b5) (cs' :=[.string (str xs[i].1),.int .i64 xs[i].2.1,.int .i64 xs[i].2.2.1,.slice ia3_19 xs[i].2.2.2.1.length ic3_19,.bool xs[i].2.2.2.2.1,.slice ia5_19 xs[i].2.2.2.2.2.1.length ic5_19,.slice ia6_19 xs[i].2.2.2.2.2.2.1.length ic6_19,.slice ia7_19 (recB xs[i]).length ic7_19]) zC rfl ?_;refine S.frzO zC fun g hs hm hb5=>?_;replace hg:=zfs hg hs;replace hR:=melted hR hm
  try replace ha:=ha.mono hs
  try replace hqat:=hqat.mono hs
  try replace hqar:=hqar.mono hs
  try replace hrow:=hrow.mono hs
  try replace hp19:=hp19.mono hs
  try replace ha7_19:=ha7_19.mono hs
  try replace hr19:=hr19.mono hs
  try replace hr1_19:=hr1_19.mono hs
  replace hm1:=meltTrans hm1 hm;clear hs hm
  by_cases h0:i=0
  ·cases eu:underR xs xs[i] with
   |true =>
    have hno:¬ SRight xs:=fun q=>by have:=(q.2 i hi).2;rw [eu] at this;cases this
    clear ih;refine S.regionD (L:=.range 22) F.mixed zB ?_;refine zz 2 ?_;refine OD.sT 22 rfl (by exact zdt zD) ?_;refine OD.q 15 rfl<|.quiet (.g rfl rfl) rfl (fun _=>.loadAgg isAgg317 zB rfl hb5) ?_;refine OD.v0 (.g rfl rfl) zB rfl zB rfl rfl (sunder_c hrow hr19) ?_;refine OD.sT 39 rfl (by exact eu) ?_;refine zz 2 ?_;refine OD.callP0 (.p rfl) zB rfl zB rfl rfl (smust_c _) (fun ch η' w hX hW=>by (obtain ⟨hb,rfl,rfl⟩:=hX;exact hR _ _ w ⟨hno,rfl,rfl⟩ hW.drop_all)) ?_;rintro _ _ ⟨hb42,rfl,rfl⟩;exact absurd hb42 zG
   |false =>
    refine S.regionD (L:=.range 22) F.mixed zB ?_;refine zz 2 ?_;refine OD.sT 22 rfl (by exact zdt zD) ?_;refine OD.q 15 rfl<|.quiet (.g rfl rfl) rfl (fun _=>.loadAgg isAgg317 zB rfl hb5) ?_;refine OD.v0 (.g rfl rfl) zB rfl zB rfl rfl (sunder_c hrow hr19) ?_;refine OD.sF 39 rfl (by exact eu)<|zz 2 ?_;refine OD.callP0 (.p rfl) zB rfl zB rfl rfl (smust_c _) (fun ch η' w hX hW=>by (exact absurd hX.1 zG)) ?_;rintro _ _ ⟨hb42,rfl,rfl⟩;refine zz 6 ?_;exact S.melt hm1 (S.wk (ih (i+1) (by exact ⟨by omega,hnext ⟨fun h1=>absurd h1 zD,eu⟩⟩) zD))
  ·have hi1:i - 1<xs.length:=by omega
   by_cases hc:cmpR xs[i-1] xs[i]<0
   ·cases eu:underR xs xs[i] with
    |true =>
     have hno:¬ SRight xs:=fun q=>by have:=(q.2 i hi).2;rw [eu] at this;cases this
     clear ih;refine S.regionD (L:=.range 22) F.mixed zB ?_;refine zz 2 ?_;refine OD.sF 22 rfl (by exact zdf zD) ?_;refine zz 7 ?_;refine OD.ia (.g rfl rfl) underlying313 size317 rfl rfl (show _=(((i - 1):Nat):Int) by omega) zA (h:=fun p30 cs30 hp30 hr30=>?_);obtain ⟨ia3_30,ia5_30,ia6_30,ia7_30,ic3_30,ic5_30,ic6_30,ic7_30,rfl,hr1_30,ha7_30⟩:=ItRp.sh hr30;refine .quiet (.g rfl rfl) rfl (fun _=>.loadAgg isAgg317 zB rfl hp30) ?_;refine .quiet (.g rfl rfl) rfl (fun _=>.loadAgg isAgg317 zB rfl hb5) ?_;refine OD.v0 (.g rfl rfl) zB rfl zB rfl rfl (scompare_c hr30 hr19) ?_;refine zz 1 ?_;refine OD.sT 34 rfl (by exact zdt hc) ?_;refine OD.q 3 rfl<|.quiet (.g rfl rfl) rfl (fun _=>.loadAgg isAgg317 zB rfl hb5) ?_;refine OD.v0 (.g rfl rfl) zB rfl zB rfl rfl (sunder_c hrow hr19) ?_;refine OD.sT 39 rfl (by exact eu) ?_;refine zz 2 ?_;refine OD.callP0 (.p rfl) zB rfl zB rfl rfl (smust_c _) (fun ch η' w hX hW=>by (obtain ⟨hb,rfl,rfl⟩:=hX;exact hR _ _ w ⟨hno,rfl,rfl⟩ hW.drop_all)) ?_;rintro _ _ ⟨hb42,rfl,rfl⟩;exact absurd hb42 zG
    |false =>
     refine S.regionD (L:=.range 22) F.mixed zB ?_;refine zz 2 ?_;refine OD.sF 22 rfl (by exact zdf zD)<|zz 7 ?_;refine OD.ia (.g rfl rfl) underlying313 size317 rfl rfl (show _=(((i - 1):Nat):Int) by omega) zA (h:=fun p30 cs30 hp30 hr30=>?_);obtain ⟨ia3_30,ia5_30,ia6_30,ia7_30,ic3_30,ic5_30,ic6_30,ic7_30,rfl,hr1_30,ha7_30⟩:=ItRp.sh hr30;refine .quiet (.g rfl rfl) rfl (fun _=>.loadAgg isAgg317 zB rfl hp30) ?_;refine .quiet (.g rfl rfl) rfl (fun _=>.loadAgg isAgg317 zB rfl hb5) ?_;refine OD.v0 (.g rfl rfl) zB rfl zB rfl rfl (scompare_c hr30 hr19)<|zz 1 ?_;refine OD.sT 34 rfl (by exact zdt hc) ?_;refine OD.q 3 rfl<|.quiet (.g rfl rfl) rfl (fun _=>.loadAgg isAgg317 zB rfl hb5) ?_;refine OD.v0 (.g rfl rfl) zB rfl zB rfl rfl (sunder_c hrow hr19) ?_;refine OD.sF 39 rfl (by exact eu)<|zz 2 ?_;refine OD.callP0 (.p rfl) zB rfl zB rfl rfl (smust_c _) (fun ch η' w hX hW=>by (exact absurd hX.1 zG)) ?_;rintro _ _ ⟨hb42,rfl,rfl⟩;refine zz 6 ?_;exact S.melt hm1 (S.wk (ih (i+1) (by exact ⟨by omega,hnext ⟨fun _=>hc,eu⟩⟩) zD))
   ·have hno:¬ SRight xs:=fun q=>hc ((q.2 i hi).1 zD)
    clear ih;refine S.regionD (L:=.range 22) F.mixed zB ?_;refine zz 2 ?_;refine OD.sF 22 rfl (by exact zdf zD) ?_;refine zz 7 ?_;refine OD.ia (.g rfl rfl) underlying313 size317 rfl rfl (show _=(((i - 1):Nat):Int) by omega) zA (h:=fun p30 cs30 hp30 hr30=>?_);obtain ⟨ia3_30,ia5_30,ia6_30,ia7_30,ic3_30,ic5_30,ic6_30,ic7_30,rfl,hr1_30,ha7_30⟩:=ItRp.sh hr30;refine .quiet (.g rfl rfl) rfl (fun _=>.loadAgg isAgg317 zB rfl hp30) ?_;refine .quiet (.g rfl rfl) rfl (fun _=>.loadAgg isAgg317 zB rfl hb5) ?_;refine OD.v0 (.g rfl rfl) zB rfl zB rfl rfl (scompare_c hr30 hr19) ?_;refine zz 1 ?_;refine OD.sF 34 rfl (by exact zdf hc) ?_;refine OD.q 7 rfl<|OD.callP0 (.p rfl) zB rfl zB rfl rfl (smust_c _) (fun ch η' w hX hW=>by (obtain ⟨hb,rfl,rfl⟩:=hX;exact hR _ _ w ⟨hno,rfl,rfl⟩ hW.drop_all)) ?_;rintro _ _ ⟨hb42,rfl,rfl⟩;exact absurd hb42 zG
 ·clear ih
  have hi:i=xs.length:=by omega
  subst hi;refine S.exit rfl<|S.seq<|S.back hbq ?_;replace hg:=hg_q;replace hR:=hR_q
  try replace ha:=ha_q
  clear hg_q hR_q;refine zz 4 ?_;exact S.rt results282 rfl hR ⟨⟨hone,fun j h=>hx2 j h h⟩,b7,rfl,rfl⟩
theorem sput1_c {r:Fr} {b:Nat} {va:Value} {xs:List RecT} (hb:At r ⟨b,0,none⟩ [va]) (ha:Arr RecRp r va xs) (hl:xs.length≤1000000000) :
  Con prog 281 (#[]++#[]++#[.pointer (some ⟨b,0,none⟩)]) r [] (RetP (fun v η=>SRight xs∧∃ a c,v=.slice a (sB xs).length c∧η=[OwnP Rp.u8 5 (.slice a (sB xs).length c) (sB xs)]) (fun ch η=>∃ z,ch=errP 39 z∧(¬ SRight xs∧z=4)∧η=[])):=by
 have har:=ha;refine Con.of (n:=31) [.pointer (some ⟨b,0,none⟩)] rfl func281 rfl rfl rfl fun g hg R hR=>?_;have hb:=hb.mono hg;have ha:=ha.mono hg;obtain ⟨a1,c1,rfl⟩:=ha.shape;refine zz 7 ?_;refine O.callP0 (.p rfl) rfl zB rfl rfl (((rowOf_c har zD).sub hg)) (fun ch η' w hX hW=>by (obtain ⟨hb,rfl,rfl⟩:=hX;exact hR _ _ w ⟨4,rfl,⟨hb,rfl⟩,rfl⟩ hW.drop_all)) ?_;rintro _ _ ⟨hright,b7,rfl,rfl⟩;refine zz 3 ?_;refine S.frz (A:=RowP r 315 317 5 b7 xs) zC fun g hs hm ⟨_,x',s'⟩=>?_;have hrow:=RowP.read (zfs hg hs) s' x';clear x' s';replace hg:=zfs hg hs;replace hR:=melted hR hm
 try replace ha:=ha.mono hs
 try replace hb:=hb.mono hs
 clear hs hm;obtain ⟨qa,qc,hqat,hqar⟩:=id hrow;refine zz 3 ?_;refine O.op (.p rfl) (.fieldAddr fld315x0 rfl) ?_;refine zz 2 ?_;refine O.call0 (.p rfl) rfl zB rfl rfl (wNumber_c _) ?_;rintro _ _ ⟨a13,c13,rfl,rfl⟩;refine O.q 1 rfl<|O.nil (S.seq (S.seq ?_));have hone:=hright.1;have hbd:=sB_le hone;refine zz 3 ?_;refine O.op (.p rfl) (.fieldAddr fld315x0 rfl) ?_;refine zz 5 ?_;refine S.conv (C:=OwnP Rp.u8 5 (.slice a13 (8+(sRows (xs.take 0)).length) c13) (be xs.length++sRows (xs.take 0))) Sel.here (fun m x=>⟨m,Fr.sub_refl _,by simpa [sRows] using x⟩) ?_;refine S.loopK2 (ι:=Nat) (κ:=Option Addr × Nat) (fun i p=>i≤xs.length) (fun i p=>[(19,.int .i64 (i:Int)),(3,.slice p.1 (8+(sRows (xs.take i)).length) p.2)]) [(17,_),(18,_)] (fun i p=>[OwnP Rp.u8 5 (.slice p.1 (8+(sRows (xs.take i)).length) p.2) (be xs.length++sRows (xs.take i))]) (fun i p=>xs.length - i) (0) ((a13,c13)) zD zq zq rfl fun i p hx ih=>?_;have hm1:=meltRefl (g:=g);refine zz 5 ?_;refine S.cd rfl (fun h20=>?_) fun h20=>?_
 ·have hi:i<xs.length:=by omega
  have hb1:=recB_le (oneK_all hone xs[i] (List.getElem_mem hi));have hb2:=sRows_le (xs.take i) (oneK_all (oneK_take i hone));rw [zlt,Nat.min_eq_left hx] at hb2;have htk:[be xs.length++sRows (xs.take i),bytesOf (recB xs[i])].flatten=be xs.length++sRows (xs.take (i+1)):=by rw [ztg hi,sRows_snoc];simp
  have htl:(be (xs.length:Int)++sRows (xs.take (i+1))).length=8+(sRows (xs.take (i+1))).length:=by simp
  have hb3:(be (xs.length:Int)++sRows (xs.take (i+1))).length≤140737488355328:=by
   have:=sRows_le (xs.take (i+1)) (oneK_all (oneK_take (i+1) hone));rw [zlt] at this
   simp;omega
  generalize hso:sRows (xs.take i)=so at htk hb2 ⊢;refine zz 5 ?_;refine O.ia (.p rfl) underlying313 size317 rfl rfl rfl zA (h:=fun p21 cs21 hp21 hr21=>?_);obtain ⟨ia3_21,ia5_21,ia6_21,ia7_21,ic3_21,ic5_21,ic6_21,ic7_21,rfl,hr1_21,ha7_21⟩:=ItRp.sh hr21;refine O.op (.p rfl) (.loadAgg isAgg317 zB rfl hp21) ?_;refine O.opE (.p rfl) (.alloc (cs:=[.string ⟨#[]⟩,.int .i64 0,.int .i64 0,.slice none 0 0,.bool false,.slice none 0 0,.slice none 0 0,.slice none 0 0]) zeroValue317 rfl) ?_;rintro _ _ ⟨b5,rfl,rfl⟩;refine zz 6 ?_;refine O.call0 (.p rfl) rfl zB rfl rfl (wBytes_c zA zH) ?_;rintro _ _ ⟨a26,c26,rfl,rfl⟩;generalize hbb:bytesOf (recB xs[i])=bb at htk ⊢;refine O.opE (.p rfl) (.litP (T:=Rp.val) (ys:=[_,_]) underlying28 elem22 zE rfl rfl ⟨⟨rfl,rfl⟩,⟨rfl,rfl⟩,trivial⟩ zE) ?_;rintro _ _ ⟨a27,c27,rfl,rfl⟩;refine O.callB (.p rfl) rfl zB rfl rfl (bs:=[OwnP Rp.val 22 (.slice a27 2 c27) [.slice p.1 (8+so.length) p.2,.slice a26 bb.length c26],OwnP Rp.u8 5 (.slice p.1 (8+so.length) p.2) (be xs.length++so),OwnP Rp.u8 5 (.slice a26 bb.length c26) bb]) zI (fun m hm hd=>wJoin_c (xss:=[be xs.length++so,bb]) ((hm.arr.right hd).rows ⟨hm.tail.arr.right hd,hm.tail.tail.arr.right hd,trivial⟩) (by rw [htk];exact hb3)) ?_;rintro _ _ ⟨a28,c28,rfl,rfl⟩;refine zz 7 ?_;rw [htk,htl];exact S.pw (ih (i+1) ((a28,c28)) zD zD)
 ·clear ih
  have hi:i=xs.length:=by omega
  subst hi;rw [List.take_length];have hl8:8+(sRows xs).length=(sB xs).length:=by simp [sB]
  rw [hl8];refine zz 6 ?_;exact S.rt results281 rfl hR ⟨hright,p.1,p.2,rfl,rfl⟩
noncomputable def sOut (l:List RecT):List UInt8:=if SRight l then sB l else []
noncomputable def sErr (l:List RecT):Int:=if SRight l then 0 else 4
theorem sTried_c {r:Fr} {first cap:Array Value} {xs:List RecT} (con:Con prog 281 (first++#[]++cap) r [] (RetP (fun v η=>SRight xs∧∃ a c,v=.slice a (sB xs).length c∧η=[OwnP Rp.u8 5 (.slice a (sB xs).length c) (sB xs)]) (fun ch η=>∃ z,ch=errP 39 z∧(¬ SRight xs∧z=4)∧η=[]))) (h1:(Value.func (.func 281) first cap).oneCell' =true:=by rfl) :
  Con prog 280 #[.func (.func 281) first cap] r [] (Ret fun v η=>∃ a c,v=.tuple #[.slice a (sOut xs).length c,.int .i64 (sErr xs)]∧η=[OwnP Rp.u8 5 (.slice a (sOut xs).length c) (sOut xs)]) :=
 (triedSB_c zB h1 (fun _ _ h=>by obtain ⟨_,_,_,rfl,_⟩:=h;rfl) con).post fun e η h w g hw=>by
  cases e with
  |returned v =>
   rcases h with ⟨u,⟨hs,a,c,rfl,rfl⟩,rfl⟩|⟨z,⟨hs,rfl⟩,rfl,rfl⟩
   ·exact ⟨_,⟨a,c,by simp [sOut,sErr,hs],rfl⟩,by simpa [sOut,hs] using hw⟩
   ·exact ⟨_,⟨none,0,by simp [sOut,sErr,hs],rfl⟩,by simp only [sOut,hs,if_false];exact hw.imp fun m x=>⟨Fr.emp,m,Fr.emp_disj _,Fr.emp_sub _,Fr.sub_refl _,ownP_nil _,x⟩⟩
  |panicked _=>exact h.elim
  |outgrown=>exact h.elim
theorem sPut_c {r:Fr} {va:Value} {xs:List RecT} (ha:Arr RecRp r va xs) (hl:xs.length≤1000000000) :
  Con prog 240 #[va] r [] (Ret fun v η=>∃ a c,v=.tuple #[.slice a (sOut xs).length c,.int .i64 (sErr xs)]∧η=[OwnP Rp.u8 5 (.slice a (sOut xs).length c) (sOut xs)]):=by
 refine Con.o func240 fun g hg R hR=>?_;have ha:=ha.mono hg;obtain ⟨a1,c1,rfl⟩:=ha.shape;refine S.seq<|S.region rfl<|O.opE (.p rfl) (.box (cs:=[_]) rfl rfl) ?_;rintro _ _ ⟨b1,rfl,rfl⟩;refine zz 4 ?_;refine S.frzO zC fun g hs hm hb1=>?_;replace hg:=zfs hg hs;replace hR:=melted hR hm
 try replace ha:=ha.mono hs
 clear hs hm;refine zz 2 ?_;refine O.call0 (.p rfl) rfl zB rfl rfl ((sTried_c (sput1_c hb1 ha hl))) ?_;rintro _ _ ⟨a5,c5,rfl,rfl⟩;refine O.q 4 rfl<|O.nil<|S.ret2 results240 rfl rfl fun w hw=>Holds.end_ hR hw ?_;exact pk ⟨a5,c5,rfl,rfl⟩
theorem triedSP_ret {g:Gr} {be bx:Nat} {x:Value} {z:Int} {T1 T2:TypeId} {w:World} {R:Ending→World→Prop} {η:List SProp} (hw:Holds w g (obj bx T1 [x]::obj be T2 [.int .i64 z]::η)) (hR:∀ w,Holds w g (obj bx T1 [x]::obj be T2 [.int .i64 z]::η)→R (.returned (.tuple #[x,.int .i64 z])) w) :
  CallsD prog 369 #[.pointer (some ⟨be,0,none⟩),.pointer (some ⟨bx,0,none⟩)] .returning w (DPost2 prog g bx be 311 39 R):=by
 refine (callsD_rec (R:=fun e w=>(∃ v,e=.returned v)∧Holds w g (obj bx T1 [x]::obj be T2 [.int .i64 z]::η)) [.pointer (some ⟨be,0,none⟩),.pointer (some ⟨bx,0,none⟩)] rfl func369 rfl rfl rfl rfl hw ?_).mono ?_
 rotate_left
 ·rintro e u' w' ⟨rfl,⟨v,rfl⟩,h⟩
  exact ⟨⟨v,rfl⟩,rfl,T1,T2,_,_,_,_,η,h,LoadsAs.flat flat311,LoadsAs.flat flat39,hR w' h⟩
 refine S.seq<|S.region rfl<|O.q 1 rfl<|O.op (.p rfl) (.neqIN underlying20 rfl)<|O.nil<|S.condF rfl<|S.skip<|S.end0 results369 fun w hw=>?_;exact ⟨⟨_,rfl⟩,hw⟩
theorem triedSP_pan {g:Gr} {be bx:Nat} {x:Value} {z z' :Int} {T1 T2:TypeId} {w:World} {R:Ending→World→Prop} {η:List SProp} (hw:Holds w g (obj bx T1 [x]::obj be T2 [.int .i64 z']::η))
  (hR:∀ w,Holds w g (obj bx T1 [.pointer none]::obj be T2 [.int .i64 z]::η)→R (.returned (.tuple #[.pointer none,.int .i64 z])) w) :
  CallsD prog 369 #[.pointer (some ⟨be,0,none⟩),.pointer (some ⟨bx,0,none⟩)] (.panicking (errP 39 z)) w (DPost2 prog g bx be 311 39 R):=by
 refine (callsD_rec (R:=fun e w=>(∃ v,e=.returned v)∧Holds w g (obj bx T1 [.pointer none]::obj be T2 [.int .i64 z]::η)) [.pointer (some ⟨be,0,none⟩),.pointer (some ⟨bx,0,none⟩)] rfl func369 rfl rfl rfl rfl hw ?_).mono ?_
 rotate_left
 ·rintro e u' w' ⟨rfl,⟨v,rfl⟩,h⟩
  exact ⟨⟨v,rfl⟩,rfl,T1,T2,_,_,_,_,η,h,LoadsAs.flat flat311,LoadsAs.flat flat39,hR w' h⟩
 refine zz 3 ?_;refine O.op (.p rfl) (.neqIV underlying20 rfl)<|zz 10 ?_;refine O.op (.p rfl) (.assertYes underlying39 rfl)<|zz 20 ?_;refine O.nil<|S.end0 results369 fun w hw=>?_;exact ⟨⟨_,rfl⟩,hw.picks zM⟩
theorem triedSP_c {r:Fr} {f:Nat} {first cap:Array Value} {K:Value→List SProp→Prop} {X:Int→Prop} (hc:callable prog f=true) (hf1:(Value.func (.func f) first cap).oneCell' =true) (hK1:∀ u ζ,K u ζ→u.oneCell' =true)
  (con:Con prog f (first++#[]++cap) r [] (RetP K (fun ch η=>∃ z,ch=errP 39 z∧X z∧η=[]))) :
  Con prog 353 #[.func (.func f) first cap] r [] (Ret fun v η=>(∃ u,K u η∧v=.tuple #[u,.int .i64 0])∨(∃ z,X z∧η=[]∧v=.tuple #[.pointer none,.int .i64 z])):=by
 refine Con.of (n:=7) [.func (.func f) first cap] rfl func353 rfl rfl rfl fun g hg R hR=>?_;refine S.seq<|S.region rfl<|O.opE (.p rfl) (.alloc (cs:=[.pointer none]) zeroValue311 rfl) ?_;rintro _ _ ⟨b2,rfl,rfl⟩;refine O.opE (.p rfl) (.alloc (cs:=[.int .i64 0]) zeroValue39 rfl) ?_;rintro _ _ ⟨b3,rfl,rfl⟩;refine zz 4 ?_;refine O.defer rfl rfl rfl rfl<|zz 4 ?_;refine O.callP0D (.p rfl) rfl hc rfl rfl (con.sub hg) (fun a ch η' w hF hX hW=>by (obtain ⟨z,rfl,hx,rfl⟩:=hX;exact leavesCell2 results353 hF rfl rfl zG zB (triedSP_pan (hW.picks zM) fun w hw=>Holds.end_ hR hw ⟨_,.inr ⟨z,hx,rfl,rfl⟩,zM⟩))) ?_;rintro v6 _ hk6;have hone:=hK1 _ _ hk6;refine O.perm (List.perm_append_comm) ?_;simp only [List.cons_append,List.nil_append];refine zz 2 ?_;refine O.nil<|S.retL fun a w hf hd hw=>?_;exact leavesCell2 results353 hf rfl rfl zG zB (triedSP_ret (hw.picks zM) fun w hw=>Holds.end_ hR hw ⟨_,.inl ⟨_,hk6,rfl⟩,zM⟩)
theorem sright1_c {r:Fr} {p:Nat} {va:Value} {xs:List RecT} (hp:At r ⟨p,0,none⟩ [va]) (ha:Arr RecRp r va xs) (hl:xs.length≤100000000000) :
  Con prog 354 (#[]++#[]++#[.pointer (some ⟨p,0,none⟩)]) r [] (RetP (fun v η=>SRight xs∧∃ b,v=.pointer (some ⟨b,0,none⟩)∧η=[RowP r 315 317 5 b xs]) (fun ch η=>∃ z,ch=errP 39 z∧(¬ SRight xs∧z=4)∧η=[])):=by
 refine Con.of (n:=4) [.pointer (some ⟨p,0,none⟩)] rfl func354 rfl rfl rfl fun g hg R hR=>?_;have hp:=hp.mono hg;obtain ⟨a1,c1,rfl⟩:=ha.shape;refine zz 7 ?_;refine O.callP0 (.p rfl) rfl zB rfl rfl (((rowOf_c ha hl).sub hg)) (fun ch η' w hX hW=>by (obtain ⟨hb,rfl,rfl⟩:=hX;exact hR _ _ w ⟨4,rfl,⟨hb,rfl⟩,rfl⟩ hW.drop_all)) ?_;rintro _ _ ⟨hright,b3,rfl,rfl⟩;refine zz 2 ?_;exact S.rt results354 rfl hR ⟨hright,b3,rfl,rfl⟩
theorem sRight_c {r:Fr} {va:Value} {xs:List RecT} (ha:Arr RecRp r va xs) (hl:xs.length≤100000000000) :
  Con prog 335 #[va] r [] (Ret fun v η=>v=.bool (decide (SRight xs))∧η=[]):=by
 refine Con.o func335 fun g hg R hR=>?_;have ha:=ha.mono hg;obtain ⟨a1,c1,rfl⟩:=ha.shape;refine S.seq<|S.region rfl<|O.opE (.p rfl) (.box (cs:=[_]) rfl rfl) ?_;rintro _ _ ⟨b1,rfl,rfl⟩;refine zz 3 ?_;refine S.frzO zC fun g hs hm hb1=>?_;replace hg:=zfs hg hs;replace hR:=melted hR hm
 try replace ha:=ha.mono hs
 clear hs hm;have con:=triedSP_c zB (first:=#[]) (cap:=#[.pointer (some ⟨b1,0,none⟩)]) rfl (fun _ _ h=>by obtain ⟨_,_,rfl,_⟩:=h;rfl) (sright1_c hb1 ha hl)
 by_cases e:SRight xs
 ·
  refine zz 2 ?_;refine O.call0 (.p rfl) rfl zB rfl rfl ((con.mono (Ret.imp (K' :=fun v η=>∃ b,v=.tuple #[.pointer (some ⟨b,0,none⟩),.int .i64 0]∧η=[RowP g.h 315 317 5 b xs]) fun v η h=>by rcases h with ⟨_,⟨_,b,rfl,h3⟩,rfl⟩|⟨_,⟨h2,_⟩,_⟩;exact ⟨b,rfl,h3⟩;exact absurd e h2))) ?_;rintro _ _ ⟨b7,rfl,rfl⟩;refine zz 12 ?_;exact S.rt results335 rfl hR ⟨by simp [e],rfl⟩
 ·
  refine zz 2 ?_;refine O.v0 (.p rfl) rfl zB rfl rfl ((con.mono (Ret.imp (K' :=fun v η=>v=.tuple #[.pointer none,.int .i64 4]∧η=[]) fun v η h=>by rcases h with ⟨_,⟨h2,_⟩,_⟩|⟨_,⟨_,rfl⟩,rfl,rfl⟩;exact absurd h2 e;exact ⟨rfl,rfl⟩))) ?_;refine zz 12 ?_;exact S.rt results335 rfl hR ⟨by simp [e],rfl⟩
theorem pshape_c {r:Fr} {cs:List Value} {x:RootT} (h:RootRp.rel r cs x):Con prog 297 #[.agg cs.toArray] r [] (Ret fun v η=>v=.bool (rootShape x)∧η=[]):=by
 obtain ⟨xa3,xa4,xc3,xc4,rfl,k0,k1,k2,k3,k4⟩:=RootRp.sh h;refine Con.o func297 fun g hg R hR=>?_;refine S.seq<|S.region rfl<|O.opE (.p rfl) (.box (cs:=[_,_,_,_,_]) rfl rfl) ?_;rintro _ _ ⟨b1,rfl,rfl⟩;refine zz 9 ?_
 refine O.cs 7 rfl (fun h7=>?_) fun h7=>?_
 ·refine zz 6 ?_
  refine O.cs 13 rfl (fun h13=>?_) fun h13=>?_
  ·refine zz 6 ?_
   refine O.cs 19 rfl (fun h19=>?_) fun h19=>?_
   ·refine zz 6 ?_
    refine O.cs 25 rfl (fun h25=>?_) fun h25=>?_
    ·refine zz 6 ?_
     refine O.cs 31 rfl (fun h31=>?_) fun h31=>?_
     ·refine zz 6 ?_
      refine O.cs 37 rfl (fun h37=>?_) fun h37=>?_
      ·refine zz 8 ?_
       refine S.ret results297 rfl fun w hw=>Holds.end_ hR hw ?_
       first|exact ⟨_,⟨congrArg _ (zdf zD).symm,rfl⟩,zM⟩|exact ⟨_,⟨congrArg _ (decide_eq_decide.2 zD),rfl⟩,zM⟩
      ·refine O.q 7 rfl<|O.nil<|S.ret results297 rfl fun w hw=>Holds.end_ hR hw ?_
       first|exact ⟨_,⟨congrArg _ (zdf zD).symm,rfl⟩,zM⟩|exact ⟨_,⟨congrArg _ (decide_eq_decide.2 zD),rfl⟩,zM⟩
     ·refine O.q 13 rfl<|O.nil<|S.ret results297 rfl fun w hw=>Holds.end_ hR hw ?_
      first|exact ⟨_,⟨congrArg _ (zdf zD).symm,rfl⟩,zM⟩|exact ⟨_,⟨congrArg _ (decide_eq_decide.2 zD),rfl⟩,zM⟩
    ·refine O.q 19 rfl<|O.nil<|S.ret results297 rfl fun w hw=>Holds.end_ hR hw ?_
     first|exact ⟨_,⟨congrArg _ (zdf zD).symm,rfl⟩,zM⟩|exact ⟨_,⟨congrArg _ (decide_eq_decide.2 zD),rfl⟩,zM⟩
   ·refine O.q 25 rfl<|O.nil<|S.ret results297 rfl fun w hw=>Holds.end_ hR hw ?_
    first|exact ⟨_,⟨congrArg _ (zdf zD).symm,rfl⟩,zM⟩|exact ⟨_,⟨congrArg _ (decide_eq_decide.2 zD),rfl⟩,zM⟩
  ·refine O.q 31 rfl<|O.nil<|S.ret results297 rfl fun w hw=>Holds.end_ hR hw ?_
   first|exact ⟨_,⟨congrArg _ (zdf zD).symm,rfl⟩,zM⟩|exact ⟨_,⟨congrArg _ (decide_eq_decide.2 zD),rfl⟩,zM⟩
 ·refine O.q 37 rfl<|O.nil<|S.ret results297 rfl fun w hw=>Holds.end_ hR hw ?_
  first|exact ⟨_,⟨congrArg _ (zdf zD).symm,rfl⟩,zM⟩|exact ⟨_,⟨congrArg _ (decide_eq_decide.2 zD),rfl⟩,zM⟩
theorem pright_c {r:Fr} {cs:List Value} {x:RootT} (h:RootRp.rel r cs x):Con prog 272 #[.agg cs.toArray] r [] (Ret fun v η=>v=.bool (rootOk x)∧η=[]):=by
 obtain ⟨xa3,xa4,xc3,xc4,rfl,k0,k1,k2,k3,k4⟩:=RootRp.sh h;refine Con.o func272 fun g hg R hR=>?_;have h:=h.mono hg
 cases e:rootShape x with
 |false =>
  refine S.seq<|S.region rfl<|O.opE (.p rfl) (.box (cs:=[_,_,_,_,_]) rfl rfl) ?_;rintro _ _ ⟨b1,rfl,rfl⟩;refine zz 5 ?_;refine O.v0 (.p rfl) rfl zB rfl rfl (pshape_c h) ?_;refine O.sF 4 rfl (by exact e)<|zz 9 ?_;exact S.rt results272 rfl hR ⟨by simp [rootOk,e],rfl⟩
 |true =>
  refine S.seq<|S.region rfl<|O.opE (.p rfl) (.box (cs:=[_,_,_,_,_]) rfl rfl) ?_;rintro _ _ ⟨b1,rfl,rfl⟩;refine zz 5 ?_;refine O.v0 (.p rfl) rfl zB rfl rfl (pshape_c h) ?_;refine O.sT 4 rfl (by exact e)<|zz 9 ?_;exact S.rt results272 rfl hR ⟨by simp [rootOk,e];omega,rfl⟩
theorem tRight_c {r:Fr} {cs:List Value} {x:RootT} (h:RootRp.rel r cs x):Con prog 302 #[.agg cs.toArray] r [] (Ret fun v η=>v=.bool (rootOk x)∧η=[]):=by
 obtain ⟨xa3,xa4,xc3,xc4,rfl,k0,k1,k2,k3,k4⟩:=RootRp.sh h;refine Con.o func302 fun g hg R hR=>?_;have h:=h.mono hg;refine S.seq<|S.region rfl<|O.opE (.p rfl) (.box (cs:=[_,_,_,_,_]) rfl rfl) ?_;rintro _ _ ⟨b1,rfl,rfl⟩;refine zz 5 ?_;refine O.op (.p rfl) (.build (cs:=[_,_,_,_,_]) underlying309 rfl rfl rfl rfl rfl)<|O.v0 (.p rfl) rfl zB rfl rfl (pright_c h) ?_;refine zz 2 ?_;exact S.rt results302 rfl hR ⟨rfl,rfl⟩
theorem tmust_c {r:Fr} (b:Bool) (z:Int):Con prog 271 #[.bool b,.int .i64 z] r [] (RetP (fun v η=>b=true∧v=.tuple #[]∧η=[]) (fun ch η=>b=false∧ch=errP 39 z∧η=[])):=by
 refine Con.o func271 fun g hg R hR=>?_;refine zz 3 ?_;refine O.op (.p rfl) ((by first|exact .notD rfl|exact .not rfl))<|zz 1 ?_;refine S.cd rfl (fun h5=>?_) fun h5=>?_
 ·refine zz 2 ?_
  refine O.op (.p rfl) (.mkIface underlying39 rfl)<|O.panic rfl rfl (fun w hw=>?_);exact hR _ [] w ⟨by simpa using h5,rfl,rfl⟩ hw
 ·refine S.skip<|S.end0 results271 fun w hw=>hR _ _ w ?_ hw
  exact ⟨by simpa using h5,rfl,rfl⟩
theorem numbers_c {r:Fr} {va:Value} {l:List Int} (ha:Arr Rp.i64 r va l) (hl:l.length≤1000000000):Con prog 298 #[va] r [] (Ret fun v η=>∃ a c,v=.slice a (l.map be).flatten.length c∧η=[OwnP Rp.u8 5 (.slice a (l.map be).flatten.length c) (l.map be).flatten]):=by
 refine Con.o func298 fun g hg R hR=>?_;have ha:=ha.mono hg;obtain ⟨a1,c1,rfl⟩:=ha.shape;have hlen:∀ m:List Int,(m.map be).flatten.length=8*m.length:=by
  intro m
  induction m with
  |nil=>rfl
  |cons a m ih=>rw [List.map_cons,zfc,zla,ih,be_length,zlc];omega
 refine S.addNil (T:=Rp.u8) (e:=5) ?_;refine zz 16 ?_;refine S.loopK2 (ι:=Nat) (κ:=Option Addr × Nat) (fun i p=>i≤l.length) (fun i p=>[(8,.int .i64 (i:Int)),(3,.slice p.1 ((l.take i).map be).flatten.length p.2)]) [(6,_),(7,_)] (fun i p=>[OwnP Rp.u8 5 (.slice p.1 ((l.take i).map be).flatten.length p.2) ((l.take i).map be).flatten]) (fun i p=>l.length - i) (0) ((none,0)) zG zq zq rfl fun i p hx ih=>?_;have hm1:=meltRefl (g:=g);refine zz 5 ?_;refine S.cd rfl (fun h9=>?_) fun h9=>?_
 ·have hi:i<l.length:=by omega
  have htk:((l.take i).map be).flatten++be l[i]=((l.take (i+1)).map be).flatten:=by rw [ztg hi,List.map_append,List.flatten_append];simp
  have hb:=hlen (l.take i);rw [zlt,Nat.min_eq_left hx] at hb;generalize ((l.take i).map be).flatten=so at htk hb ⊢;refine zz 5 ?_;refine O.ia (.p rfl) underlying60 size3 rfl rfl rfl zA (h:=fun p10 cs10 hp10 hr10=>?_);obtain ⟨rfl,hz10⟩:=hr10;refine zz 6 ?_;refine O.call0 (.p rfl) rfl zB rfl rfl (wNumber_c _) ?_;rintro _ _ ⟨a14,c14,rfl,rfl⟩;refine O.frzA zC fun g hs hm ha14=>?_;replace hg:=zfs hg hs;replace hR:=melted hR hm
  try replace hp10:=hp10.mono hs
  replace hm1:=meltTrans hm1 hm;clear hs hm;refine O.opE (.p rfl) (.appendP (T:=Rp.u8) pure_u8 underlying22 elem5 zE rfl rfl zC zA zH zH) ?_;rintro _ _ ⟨a15,c15,rfl,rfl⟩;refine zz 7 ?_;rw [← zla,htk];exact S.melt hm1 (S.pw (ih (i+1) ((a15,c15)) zD zD))
 ·clear ih
  have hi:i=l.length:=by omega
  subst hi;rw [List.take_length];refine zz 6 ?_;exact S.rt results298 rfl hR ⟨p.1,p.2,rfl,rfl⟩
theorem ptext_c {r:Fr} {cs:List Value} {x:RootT} (h:RootRp.rel r cs x) (hs:rootShape x=true):Con prog 273 #[.agg cs.toArray] r [] (Ret fun v η=>∃ a c,v=.slice a (rootText x).length c∧η=[OwnP Rp.u8 5 (.slice a (rootText x).length c) (rootText x)]):=by
 have hl:=rootText_length hs;have hnum:([x.1,x.2.1,x.2.2.1].map be).flatten=be x.1++(be x.2.1++be x.2.2.1):=by simp
 have hfl:[[2],be x.1++(be x.2.1++be x.2.2.1),x.2.2.2.1].flatten=rootText x:=by simp [rootText]
 obtain ⟨xa3,xa4,xc3,xc4,rfl,k0,k1,k2,k3,k4⟩:=RootRp.sh h;refine Con.o func273 fun g hg R hR=>?_;have h:=h.mono hg;have k3:=k3.mono hg;refine S.seq<|S.region rfl<|O.opE (.p rfl) (.box (cs:=[_,_,_,_,_]) rfl rfl) ?_;rintro _ _ ⟨b1,rfl,rfl⟩;refine zz 3 ?_;refine S.frzO zC fun g hs hm hbx=>?_;replace hg:=zfs hg hs;replace hR:=melted hR hm
 try replace h:=h.mono hs
 try replace k3:=k3.mono hs
 clear hs hm;refine S.regionJ (L:=[1,2,3,4,5,6,7,8,9,12,13,14,0,10,11,15,16,17]) (fun (s:Option Addr × Nat)=>[(2,.slice s.1 (rootText x).length s.2)]) [] (fun (s:Option Addr × Nat)=>[OwnP Rp.u8 5 (.slice s.1 (rootText x).length s.2) (rootText x)]) (.nil) F.mixed zB (fun kk key=>?_) (fun s=>?_)
 ·refine zz 12 ?_
  refine OD.alt2 0 10 [10,11,15,16,17] [0,11,15,16,17] zB rfl rfl ?_ ?_
  ·refine ODt.litP (T:=Rp.u8) (ys:=[2]) (.p rfl) zB underlying22 elem5 zE rfl rfl ⟨rfl,trivial⟩ zE (fun a3 c3=>?_)
   refine OD.litP (T:=Rp.i64) (ys:=[_,_,_]) (.p rfl) zB underlying60 elem3 zE rfl rfl ⟨⟨rfl,by first|assumption|(constructor<;>omega)⟩,⟨rfl,by first|assumption|(constructor<;>omega)⟩,⟨rfl,by first|assumption|(constructor<;>omega)⟩,trivial⟩ zE (fun a13 c13=>?_);refine OD.callB (.p rfl) zB rfl zB rfl rfl (bs:=[OwnP Rp.i64 3 (.slice a13 3 c13) [x.1,x.2.1,x.2.2.1]]) zI (fun m hm hd=>numbers_c (hm.arr.right hd) zG) ?_;rintro _ _ ⟨a14,c14,rfl,rfl⟩;rw [hnum];refine OD.litP (T:=Rp.val) (ys:=[_,_,_]) (.p rfl) zB underlying28 elem22 zE rfl rfl ⟨⟨rfl,rfl⟩,⟨rfl,rfl⟩,⟨rfl,rfl⟩,trivial⟩ zE (fun a18 c18=>?_);refine OD.callB (.p rfl) zB rfl zB rfl rfl (bs:=[OwnP Rp.val 22 (.slice a18 3 c18) [.slice a3 1 c3,.slice a14 (be x.1++(be x.2.1++be x.2.2.1)).length c14,.slice xa3 x.2.2.2.1.length xc3],OwnP Rp.u8 5 (.slice a3 1 c3) [2],OwnP Rp.u8 5 (.slice a14 (be x.1++(be x.2.1++be x.2.2.1)).length c14) (be x.1++(be x.2.1++be x.2.2.1))]) zI (fun m hm hd=>wJoin_c (xss:=[[2],be x.1++(be x.2.1++be x.2.2.1),x.2.2.2.1]) ((hm.arr.right hd).rows ⟨hm.tail.arr.right hd,hm.tail.tail.arr.right hd,k3.left,trivial⟩) (by rw [hfl];omega)) ?_;rintro _ _ ⟨a19,c19,rfl,rfl⟩;rw [hfl];refine OD.q 1 rfl<|ODx.nil<|S.pk ?_ (S.weaken (Sub.app zq (.nil)) (key (a19,c19)))
   try dsimp only
   repeat (first|exact zpa|exact zpn|(apply zpc;focus (repeat (first|exact zh|apply zt)))|apply zps)
  ·refine ODt.litP (T:=Rp.i64) (ys:=[_,_,_]) (.p rfl) zB underlying60 elem3 zE rfl rfl ⟨⟨rfl,by first|assumption|(constructor<;>omega)⟩,⟨rfl,by first|assumption|(constructor<;>omega)⟩,⟨rfl,by first|assumption|(constructor<;>omega)⟩,trivial⟩ zE (fun a13 c13=>?_)
   refine OD.alt2 0 11 [11,15,16,17] [0,15,16,17] zB rfl rfl ?_ ?_
   ·refine ODt.litP (T:=Rp.u8) (ys:=[2]) (.p rfl) zB underlying22 elem5 zE rfl rfl ⟨rfl,trivial⟩ zE (fun a3 c3=>?_)
    refine OD.callB (.p rfl) zB rfl zB rfl rfl (bs:=[OwnP Rp.i64 3 (.slice a13 3 c13) [x.1,x.2.1,x.2.2.1]]) zI (fun m hm hd=>numbers_c (hm.arr.right hd) zG) ?_;rintro _ _ ⟨a14,c14,rfl,rfl⟩;rw [hnum];refine OD.litP (T:=Rp.val) (ys:=[_,_,_]) (.p rfl) zB underlying28 elem22 zE rfl rfl ⟨⟨rfl,rfl⟩,⟨rfl,rfl⟩,⟨rfl,rfl⟩,trivial⟩ zE (fun a18 c18=>?_);refine OD.callB (.p rfl) zB rfl zB rfl rfl (bs:=[OwnP Rp.val 22 (.slice a18 3 c18) [.slice a3 1 c3,.slice a14 (be x.1++(be x.2.1++be x.2.2.1)).length c14,.slice xa3 x.2.2.2.1.length xc3],OwnP Rp.u8 5 (.slice a3 1 c3) [2],OwnP Rp.u8 5 (.slice a14 (be x.1++(be x.2.1++be x.2.2.1)).length c14) (be x.1++(be x.2.1++be x.2.2.1))]) zI (fun m hm hd=>wJoin_c (xss:=[[2],be x.1++(be x.2.1++be x.2.2.1),x.2.2.2.1]) ((hm.arr.right hd).rows ⟨hm.tail.arr.right hd,hm.tail.tail.arr.right hd,k3.left,trivial⟩) (by rw [hfl];omega)) ?_;rintro _ _ ⟨a19,c19,rfl,rfl⟩;rw [hfl];refine OD.q 1 rfl<|ODx.nil<|S.pk ?_ (S.weaken (Sub.app zq (.nil)) (key (a19,c19)))
    try dsimp only
    repeat (first|exact zpa|exact zpn|(apply zpc;focus (repeat (first|exact zh|apply zt)))|apply zps)
   ·refine ODt.callB (.p rfl) zB rfl zB rfl rfl (bs:=[OwnP Rp.i64 3 (.slice a13 3 c13) [x.1,x.2.1,x.2.2.1]]) zI (fun m hm hd=>numbers_c (hm.arr.right hd) zG) ?_
    rintro _ _ ⟨a14,c14,rfl,rfl⟩;rw [hnum];refine OD.litP (T:=Rp.u8) (ys:=[2]) (.p rfl) zB underlying22 elem5 zE rfl rfl ⟨rfl,trivial⟩ zE (fun a3 c3=>?_);refine OD.litP (T:=Rp.val) (ys:=[_,_,_]) (.p rfl) zB underlying28 elem22 zE rfl rfl ⟨⟨rfl,rfl⟩,⟨rfl,rfl⟩,⟨rfl,rfl⟩,trivial⟩ zE (fun a18 c18=>?_);refine OD.callB (.p rfl) zB rfl zB rfl rfl (bs:=[OwnP Rp.val 22 (.slice a18 3 c18) [.slice a3 1 c3,.slice a14 (be x.1++(be x.2.1++be x.2.2.1)).length c14,.slice xa3 x.2.2.2.1.length xc3],OwnP Rp.u8 5 (.slice a3 1 c3) [2],OwnP Rp.u8 5 (.slice a14 (be x.1++(be x.2.1++be x.2.2.1)).length c14) (be x.1++(be x.2.1++be x.2.2.1))]) zI (fun m hm hd=>wJoin_c (xss:=[[2],be x.1++(be x.2.1++be x.2.2.1),x.2.2.2.1]) ((hm.arr.right hd).rows ⟨hm.tail.arr.right hd,hm.tail.tail.arr.right hd,k3.left,trivial⟩) (by rw [hfl];omega)) ?_;rintro _ _ ⟨a19,c19,rfl,rfl⟩;rw [hfl];refine OD.q 1 rfl<|ODx.nil<|S.pk ?_ (S.weaken (Sub.app zq (.nil)) (key (a19,c19)))
    try dsimp only
    repeat (first|exact zpa|exact zpn|(apply zpc;focus (repeat (first|exact zh|apply zt)))|apply zps)
 exact S.rt results273 rfl hR ⟨s.1,s.2,rfl,rfl⟩
theorem tput1_c {r:Fr} {b:Nat} {cs:List Value} {x:RootT} (hb:At r ⟨b,0,none⟩ cs) (h:RootRp.rel r cs x) :
  Con prog 270 (#[]++#[]++#[.pointer (some ⟨b,0,none⟩)]) r [] (RetP (fun v η=>rootOk x=true∧∃ a c,v=.slice a (rootB x).length c∧η=[OwnP Rp.u8 5 (.slice a (rootB x).length c) (rootB x)]) (fun ch η=>∃ z,ch=errP 39 z∧(rootOk x=false∧z=4)∧η=[])):=by
 obtain ⟨xa3,xa4,xc3,xc4,rfl,k0,k1,k2,k3,k4⟩:=RootRp.sh h;refine Con.of (n:=15) [.pointer (some ⟨b,0,none⟩)] rfl func270 rfl rfl rfl fun g hg R hR=>?_;have hb:=hb.mono hg;have h:=h.mono hg;have k4:=k4.mono hg
 cases e:rootOk x with
 |false =>
  refine zz 6 ?_;refine O.op (.p rfl) (.loadAgg isAgg27 zB rfl hb) ?_;refine O.op (.p rfl) (.build (cs:=[_,_,_,_,_]) underlying309 rfl rfl rfl rfl rfl)<|O.opE (.p rfl) (.alloc (cs:=[.int .i64 0,.int .i64 0,.int .i64 0,.slice none 0 0,.slice none 0 0]) zeroValue309 rfl) ?_;rintro _ _ ⟨b2,rfl,rfl⟩;refine zz 5 ?_;refine O.v0 (.p rfl) rfl zB rfl rfl (pright_c h) ?_;refine O.sF 6 rfl (by exact e) ?_;refine O.callP0 (.p rfl) rfl zB rfl rfl (tmust_c _ _) (fun ch η' w hX hW=>by (obtain ⟨hb,rfl,rfl⟩:=hX;exact hR _ _ w ⟨4,rfl,⟨e,rfl⟩,rfl⟩ hW.drop_all)) ?_;rintro _ _ ⟨hb7,rfl,rfl⟩;exact absurd hb7 zG
 |true =>
  have hl:=rootB_length e;have hfl:[rootText x,x.2.2.2.2.1].flatten=rootB x:=by simp [rootB]
  refine zz 6 ?_;refine O.op (.p rfl) (.loadAgg isAgg27 zB rfl hb) ?_;refine O.op (.p rfl) (.build (cs:=[_,_,_,_,_]) underlying309 rfl rfl rfl rfl rfl)<|O.opE (.p rfl) (.alloc (cs:=[.int .i64 0,.int .i64 0,.int .i64 0,.slice none 0 0,.slice none 0 0]) zeroValue309 rfl) ?_;rintro _ _ ⟨b2,rfl,rfl⟩;refine zz 5 ?_;refine O.v0 (.p rfl) rfl zB rfl rfl (pright_c h) ?_;refine O.sT 6 rfl (by exact e) ?_;refine O.callP0 (.p rfl) rfl zB rfl rfl (tmust_c _ _) (fun ch η' w hX hW=>by (exact absurd hX.1 zG)) ?_;rintro _ _ ⟨hb7,rfl,rfl⟩;refine O.nil<|S.seq<|S.frzO zC fun g hs hm hb2=>?_;replace hg:=zfs hg hs;replace hR:=melted hR hm
  try replace hb:=hb.mono hs
  try replace h:=h.mono hs
  try replace k4:=k4.mono hs
  clear hs hm;refine S.regionD (L:=[0,2,3,4,1,5,6,7]) F.mixed zB ?_;refine .quiet (.p rfl) rfl (fun _=>.loadAgg isAgg309 zB rfl hb2) ?_;refine zz 3 ?_;refine OD.call0 (.p rfl) zB rfl zB rfl rfl ((ptext_c h (rootOk_iff.1 e).1)) ?_;rintro _ _ ⟨a9,c9,rfl,rfl⟩;refine OD.litP (T:=Rp.val) (ys:=[_,_]) (.p rfl) zB underlying28 elem22 zE rfl rfl ⟨⟨rfl,rfl⟩,⟨rfl,rfl⟩,trivial⟩ zE (fun a13 c13=>?_);refine OD.callB (.p rfl) zB rfl zB rfl rfl (bs:=[OwnP Rp.val 22 (.slice a13 2 c13) [.slice a9 (rootText x).length c9,.slice xa4 x.2.2.2.2.1.length xc4],OwnP Rp.u8 5 (.slice a9 (rootText x).length c9) (rootText x)]) zI (fun m hm hd=>wJoin_c (xss:=[rootText x,x.2.2.2.2.1]) ((hm.arr.right hd).rows ⟨hm.tail.arr.right hd,k4.left,trivial⟩) (by rw [hfl];omega)) ?_;rintro _ _ ⟨a14,c14,rfl,rfl⟩;rw [hfl];refine zz 2 ?_;exact S.rt results270 rfl hR ⟨e,a14,c14,rfl,rfl⟩
theorem tTried_c {r:Fr} {first cap:Array Value} {x:RootT} (con:Con prog 270 (first++#[]++cap) r [] (RetP (fun v η=>rootOk x=true∧∃ a c,v=.slice a (rootB x).length c∧η=[OwnP Rp.u8 5 (.slice a (rootB x).length c) (rootB x)]) (fun ch η=>∃ z,ch=errP 39 z∧(rootOk x=false∧z=4)∧η=[]))) (h1:(Value.func (.func 270) first cap).oneCell' =true:=by rfl) :
  Con prog 269 #[.func (.func 270) first cap] r [] (Ret fun v η=>∃ a c,v=.tuple #[.slice a (rootOut x).length c,.int .i64 (rootErr x)]∧η=[OwnP Rp.u8 5 (.slice a (rootOut x).length c) (rootOut x)]) :=
 (triedRB_c zB h1 (fun _ _ h=>by obtain ⟨_,_,_,rfl,_⟩:=h;rfl) con).post fun e η h w g hw=>by
  cases e with
  |returned v =>
   rcases h with ⟨u,⟨hs,a,c,rfl,rfl⟩,rfl⟩|⟨z,⟨hs,rfl⟩,rfl,rfl⟩
   ·exact ⟨_,⟨a,c,by simp [rootOut,rootErr,hs],rfl⟩,by simpa [rootOut,hs] using hw⟩
   ·exact ⟨_,⟨none,0,by simp [rootOut,rootErr,hs],rfl⟩,by simp only [rootOut,hs];exact hw.imp fun m x=>⟨Fr.emp,m,Fr.emp_disj _,Fr.emp_sub _,Fr.sub_refl _,ownP_nil _,x⟩⟩
  |panicked _=>exact h.elim
  |outgrown=>exact h.elim
theorem tPut_c {r:Fr} {cs:List Value} {x:RootT} (h:RootRp.rel r cs x) :
  Con prog 233 #[.agg cs.toArray] r [] (Ret fun v η=>∃ a c,v=.tuple #[.slice a (rootOut x).length c,.int .i64 (rootErr x)]∧η=[OwnP Rp.u8 5 (.slice a (rootOut x).length c) (rootOut x)]):=by
 obtain ⟨xa3,xa4,xc3,xc4,rfl,k0,k1,k2,k3,k4⟩:=RootRp.sh h;refine Con.o func233 fun g hg R hR=>?_;have h:=h.mono hg;refine S.seq<|S.region rfl<|O.opE (.p rfl) (.box (cs:=[_,_,_,_,_]) rfl rfl) ?_;rintro _ _ ⟨b1,rfl,rfl⟩;refine zz 4 ?_;refine S.frzO zC fun g hs hm hb1=>?_;replace hg:=zfs hg hs;replace hR:=melted hR hm
 try replace h:=h.mono hs
 clear hs hm;refine zz 2 ?_;refine O.call0 (.p rfl) rfl zB rfl rfl ((tTried_c (tput1_c hb1 h))) ?_;rintro _ _ ⟨a5,c5,rfl,rfl⟩;refine O.q 4 rfl<|O.nil<|S.ret2 results233 rfl rfl fun w hw=>Holds.end_ hR hw ?_;exact pk ⟨a5,c5,rfl,rfl⟩
theorem indexRoot_c {r:Fr} {va:Value} {xs:List RootT} {f:FuncId} {first cap:Array Value} (ha:Arr RootRp r va xs) (hc:callable prog f=true) (q:RootT→Bool)
  (con:∀ cs x,x∈xs→RootRp.rel r cs x→Con prog f (first++#[.agg cs.toArray]++cap) r [] (Ret fun v η=>v=.bool (q x)∧η=[])) :
  Con prog 372 #[va,.func (.func f) first cap] r [] (Ret fun v η=>∃ k:Int,v=.int .i64 k∧(0≤k↔xs.any q=true)∧η=[]):=by
 have har:=ha;refine Con.of (n:=19) [va,.func (.func f) first cap] rfl func372 rfl rfl rfl fun g hg R hR=>?_;have ha:=ha.mono hg;have hbd:=ha.bound;obtain ⟨a1,c1,rfl⟩:=ha.shape;refine zz 12 ?_;refine S.loopK (ι:=Nat) (fun i=>i≤xs.length∧(xs.take i).any q=false) (fun i=>[(8,.int .i64 (i:Int))]) [(0,_),(1,_),(7,_)] (fun i=>[]) (fun i=>xs.length - i) (0) (by exact ⟨by simp,by simp⟩) zq zq rfl fun i hx ih=>?_;have hm1:=meltRefl (g:=g);obtain ⟨hx1,hx2⟩:=hx;refine zz 5 ?_;refine S.cd rfl (fun h9=>?_) fun h9=>?_
 ·have hi:i<xs.length:=by omega
  cases e:q xs[i] with
  |true =>
   have hy:xs.any q=true:=List.any_eq_true.2 ⟨xs[i],List.getElem_mem hi,e⟩;clear ih;refine zz 13 ?_;refine O.iy har hg (h:=fun p14 cs14 hp14 hrr14=>?_);have hr14:=Rp.rel.mono hrr14 hg;obtain ⟨ta3_14,ta4_14,tc3_14,tc4_14,rfl,ho0_14,ho1_14,ho2_14,ha3_14,ha4_14⟩:=RootRp.sh hr14;refine O.op (.p rfl) (.loadAgg isAgg27 zB rfl hp14) ?_;refine O.v0 (.p rfl) rfl hc rfl rfl (((con _ _ (List.getElem_mem hi) hrr14).sub hg)) ?_;refine O.sT 16 rfl (by exact e) ?_;refine zz 7 ?_;exact S.rt results372 rfl hR ⟨(i:Int),rfl,⟨fun _=>hy,fun _=>by omega⟩,rfl⟩
  |false =>
   refine zz 13 ?_;refine O.iy har hg (h:=fun p14 cs14 hp14 hrr14=>?_);have hr14:=Rp.rel.mono hrr14 hg;obtain ⟨ta3_14,ta4_14,tc3_14,tc4_14,rfl,ho0_14,ho1_14,ho2_14,ha3_14,ha4_14⟩:=RootRp.sh hr14;refine O.op (.p rfl) (.loadAgg isAgg27 zB rfl hp14) ?_;refine O.v0 (.p rfl) rfl hc rfl rfl (((con _ _ (List.getElem_mem hi) hrr14).sub hg)) ?_;refine O.sF 16 rfl (by exact e)<|zz 8 ?_;exact S.wk (ih (i+1) (by exact ⟨by omega,by rw [ztg hi,List.any_append,hx2];simp [e]⟩) zD)
 ·clear ih
  have hi:i=xs.length:=by omega
  subst hi;rw [List.take_length] at hx2;refine zz 5 ?_;exact S.rt results372 rfl hR ⟨-1,rfl,⟨fun h=>absurd h zE,fun h=>by rw [hx2] at h;cases h⟩,rfl⟩
theorem containsRoot_c {r:Fr} {va:Value} {xs:List RootT} {f:FuncId} {first cap:Array Value} (ha:Arr RootRp r va xs) (hc:callable prog f=true) (q:RootT→Bool)
  (con:∀ cs x,x∈xs→RootRp.rel r cs x→Con prog f (first++#[.agg cs.toArray]++cap) r [] (Ret fun v η=>v=.bool (q x)∧η=[])) (h1:(Value.func (.func f) first cap).oneCell' =true) :
  Con prog 362 #[va,.func (.func f) first cap] r [] (Ret fun v η=>v=.bool (xs.any q)∧η=[]):=by
 refine Con.of (n:=9) [va,.func (.func f) first cap] rfl func362 rfl rfl rfl fun g hg R hR=>?_;refine zz 8 ?_;refine O.call0 (.p rfl) rfl zB rfl rfl (((indexRoot_c ha hc q con).sub hg)) ?_;rintro v7 _ ⟨k7,rfl,hk7,rfl⟩;refine zz 3 ?_;exact S.rt results362 rfl hR ⟨congrArg _ (by rw [Bool.eq_iff_iff,decide_eq_true_iff];exact hk7),rfl⟩
theorem all1_c {r:Fr} {b:Nat} {cs:List Value} {x:RootT} (hb:At r ⟨b,0,none⟩ [.func (.func 302) #[] #[]]) (h:RootRp.rel r cs x) :
  Con prog 363 (#[]++#[.agg cs.toArray]++#[.pointer (some ⟨b,0,none⟩)]) r [] (Ret fun v η=>v=.bool (!rootOk x)∧η=[]):=by
 obtain ⟨xa3,xa4,xc3,xc4,rfl,k0,k1,k2,k3,k4⟩:=RootRp.sh h;refine Con.of (n:=8) [.agg #[.int .i64 x.1,.int .i64 x.2.1,.int .i64 x.2.2.1,.slice xa3 x.2.2.2.1.length xc3,.slice xa4 x.2.2.2.2.1.length xc4],.pointer (some ⟨b,0,none⟩)] rfl func363 rfl rfl rfl fun g hg R hR=>?_;have h:=h.mono hg;have hb:=hb.mono hg;refine S.seq<|S.region rfl<|O.opE (.p rfl) (.box (cs:=[_,_,_,_,_]) rfl rfl) ?_;rintro _ _ ⟨b2,rfl,rfl⟩;refine zz 6 ?_;refine O.v0 (.p rfl) rfl zB rfl rfl (tRight_c h) ?_;refine zz 3 ?_;exact S.rt results363 rfl hR ⟨rfl,rfl⟩
theorem eall_c {r:Fr} {va:Value} {l:List RootT} (ha:Arr RootRp r va l) :
  Con prog 348 #[.func (.func 302) #[] #[],va] r [] (Ret fun v η=>v=.bool (l.all rootOk)∧η=[]):=by
 refine Con.o func348 fun g hg R hR=>?_;have ha:=ha.mono hg;obtain ⟨a1,c1,rfl⟩:=ha.shape;refine S.seq<|S.region rfl<|O.opE (.p rfl) (.box (cs:=[_]) rfl rfl) ?_;rintro _ _ ⟨b2,rfl,rfl⟩;refine zz 3 ?_;refine S.frzO zC fun g hs hm hb2=>?_;replace hg:=zfs hg hs;replace hR:=melted hR hm
 try replace ha:=ha.mono hs
 clear hs hm;refine zz 3 ?_;refine O.v0 (.p rfl) rfl zB rfl rfl ((containsRoot_c ha zB (fun x=>!rootOk x) (fun cs x _ h=>all1_c hb2 h) rfl)) ?_;refine zz 3 ?_;exact S.rt results348 rfl hR ⟨by rw [List.all_eq_not_any_not],rfl⟩
theorem bcompare_c {r:Fr} {va vb:Value} {xs ys:List UInt8} (ha:Arr Rp.u8 r va xs) (hb:Arr Rp.u8 r vb ys):Con prog 349 #[va,vb] r [] (Ret fun v η=>v=.int .i64 (Lib.compareBytes xs ys)∧η=[]):=by
 refine Con.o func349 fun g hg R hR=>?_;have ha:=ha.mono hg;have hb:=hb.mono hg;obtain ⟨a1,c1,rfl⟩:=ha.shape;obtain ⟨a2,c2,rfl⟩:=hb.shape;refine zz 8 ?_;refine O.op (.p rfl) (.compareExt func364 zB rfl zB zB rfl rfl rfl ha hb)<|zz 2 ?_;exact S.rt results349 rfl hR ⟨rfl,rfl⟩
theorem pairOf_c {r:Fr} {cs:List Value} {e:EvdT} (h:EvdRp.rel r cs e):Con prog 327 #[.agg cs.toArray] r [] (Ret fun v η=>v=.agg cs.toArray∧η=[]):=by
 obtain ⟨xa3,xa4,xa8,xa9,xc3,xc4,xc8,xc9,rfl,_⟩:=EvdRp.sh h;refine Con.o func327 fun g hg R hR=>?_;refine S.seq<|S.region rfl<|O.opE (.p rfl) (.box (cs:=[_,_,_,_,_,_,_,_,_,_]) rfl rfl) ?_;rintro _ _ ⟨b1,rfl,rfl⟩;refine O.opE (.p rfl) (.alloc (cs:=[.int .i64 0,.int .i64 0,.int .i64 0,.slice none 0 0,.slice none 0 0,.int .i64 0,.int .i64 0,.int .i64 0,.slice none 0 0,.slice none 0 0]) zeroValue347 rfl) ?_;rintro _ _ ⟨b2,rfl,rfl⟩;refine zz 7 ?_;refine O.op (.p rfl) (.build (cs:=[_,_,_,_,_,_,_,_,_,_]) underlying347 rfl rfl rfl rfl rfl) ?_;refine zz 1 ?_;refine O.nil<|S.retCellAgg results327 isAgg347 zB rfl zC fun w hw=>Holds.end_ hR hw ?_;exact pk ⟨rfl,rfl⟩
theorem EvdRp.two {h:Fr} {e:EvdT} {a3 a4 a8 a9:Option Addr} {c3 c4 c8 c9:Nat} (r:EvdRp.rel h [.int .i64 e.1.1,.int .i64 e.1.2.1,.int .i64 e.1.2.2.1,.slice a3 e.1.2.2.2.1.length c3,.slice a4 e.1.2.2.2.2.1.length c4,.int .i64 e.2.1.1,.int .i64 e.2.1.2.1,.int .i64 e.2.1.2.2.1,.slice a8 e.2.1.2.2.2.1.length c8,.slice a9 e.2.1.2.2.2.2.1.length c9] e) :
  RootRp.rel h [.int .i64 e.1.1,.int .i64 e.1.2.1,.int .i64 e.1.2.2.1,.slice a3 e.1.2.2.2.1.length c3,.slice a4 e.1.2.2.2.2.1.length c4] e.1∧RootRp.rel h [.int .i64 e.2.1.1,.int .i64 e.2.1.2.1,.int .i64 e.2.1.2.2.1,.slice a8 e.2.1.2.2.2.1.length c8,.slice a9 e.2.1.2.2.2.2.1.length c9] e.2.1:=by
 obtain ⟨v3,v4,v8,v9,hc,h0,h1,h2,h3,h4,h5,h6,h7,h8,h9⟩:=EvdRp.open r
 injection hc with _ hc;injection hc with _ hc;injection hc with _ hc;injection hc with e3 hc;injection hc with e4 hc
 injection hc with _ hc;injection hc with _ hc;injection hc with _ hc;injection hc with e8 hc;injection hc with e9 hc
 subst e3 e4 e8 e9;exact ⟨RootRp.mk h0 h1 h2 h3 h4,RootRp.mk h5 h6 h7 h8 h9⟩
theorem eorder_c {r:Fr} {cs:List Value} {e:EvdT} (h:EvdRp.rel r cs e):Con prog 328 #[.agg cs.toArray] r [] (Ret fun v η=>v=.int .i64 (evOrder e.1 e.2.1)∧η=[]):=by
 obtain ⟨xa3,xa4,xa8,xa9,xc3,xc4,xc8,xc9,rfl,_,_,_,k3,_,_,_,_,k8,_⟩:=EvdRp.sh h;obtain ⟨h1,h2⟩:=EvdRp.two h;refine Con.o func328 fun g hg R hR=>?_;have h1:=h1.mono hg;have h2:=h2.mono hg;have k3:=k3.mono hg;have k8:=k8.mono hg;refine S.seq<|S.region rfl<|O.opE (.p rfl) (.box (cs:=[_,_,_,_,_,_,_,_,_,_]) rfl rfl) ?_;rintro _ _ ⟨b1,rfl,rfl⟩;refine zz 6 ?_;refine O.opE (.p rfl) (.alloc (cs:=[.int .i64 0,.int .i64 0,.int .i64 0,.slice none 0 0,.slice none 0 0]) zeroValue27 rfl) ?_;rintro _ _ ⟨b3,rfl,rfl⟩;refine zz 1 ?_;refine O.nil<|S.seq<|S.seq<|S.objIs (b:=b3) (cs' :=[.int .i64 e.2.1.1,.int .i64 e.2.1.2.1,.int .i64 e.2.1.2.2.1,.slice xa8 e.2.1.2.2.2.1.length xc8,.slice xa9 e.2.1.2.2.2.2.1.length xc9]) zC rfl ?_
 cases ea:[e.1,e.2.1].all rootOk with
 |false =>
  have e0:evOrder e.1 e.2.1=0:=if_neg fun q=>by
   simp only [List.all_cons,q.1,q.2.1,List.all_nil] at ea
   cases ea
  refine zz 4 ?_;refine O.opE (.p rfl) (.litP (T:=(Rp.cells 5)) (ys:=[_,_]) underlying237 elem27 zE rfl rfl ⟨⟨rfl,rfl,by first|(simp;done)|(intro v hv;simp [Value.cells] at hv;rcases hv with rfl|rfl<;>rfl)|(refine List.forall_mem_cons.2 ⟨rfl,?_⟩;repeat (first|exact (fun _ h=>absurd h List.not_mem_nil)|refine List.forall_mem_cons.2 ⟨rfl,?_⟩))⟩,⟨rfl,rfl,by first|(simp;done)|(intro v hv;simp [Value.cells] at hv;rcases hv with rfl|rfl<;>rfl)|(refine List.forall_mem_cons.2 ⟨rfl,?_⟩;repeat (first|exact (fun _ h=>absurd h List.not_mem_nil)|refine List.forall_mem_cons.2 ⟨rfl,?_⟩))⟩,trivial⟩ zE) ?_;rintro _ _ ⟨a9,c9,rfl,rfl⟩;refine O.frzA zC fun g hs hm ha9=>?_;replace hg:=zfs hg hs;replace hR:=melted hR hm
  try replace h1:=h1.mono hs
  try replace h2:=h2.mono hs
  try replace k3:=k3.mono hs
  try replace k8:=k8.mono hs
  clear hs hm;refine O.v0 (.p rfl) rfl zB rfl rfl ((eall_c (l:=[e.1,e.2.1]) (Arr.ofCells ha9 ⟨h1,h2,trivial⟩ rfl))) ?_;refine O.sF 10 rfl (by exact ea) ?_;refine zz 31 ?_;exact S.rt results328 rfl hR ⟨by rw [e0],rfl⟩
 |true =>
  have e1:rootOk e.1=true∧rootOk e.2.1=true:=by simpa using ea
  refine zz 4 ?_;refine O.opE (.p rfl) (.litP (T:=(Rp.cells 5)) (ys:=[_,_]) underlying237 elem27 zE rfl rfl ⟨⟨rfl,rfl,by first|(simp;done)|(intro v hv;simp [Value.cells] at hv;rcases hv with rfl|rfl<;>rfl)|(refine List.forall_mem_cons.2 ⟨rfl,?_⟩;repeat (first|exact (fun _ h=>absurd h List.not_mem_nil)|refine List.forall_mem_cons.2 ⟨rfl,?_⟩))⟩,⟨rfl,rfl,by first|(simp;done)|(intro v hv;simp [Value.cells] at hv;rcases hv with rfl|rfl<;>rfl)|(refine List.forall_mem_cons.2 ⟨rfl,?_⟩;repeat (first|exact (fun _ h=>absurd h List.not_mem_nil)|refine List.forall_mem_cons.2 ⟨rfl,?_⟩))⟩,trivial⟩ zE) ?_;rintro _ _ ⟨a9,c9,rfl,rfl⟩;refine O.frzA zC fun g hs hm ha9=>?_;replace hg:=zfs hg hs;replace hR:=melted hR hm
  try replace h1:=h1.mono hs
  try replace h2:=h2.mono hs
  try replace k3:=k3.mono hs
  try replace k8:=k8.mono hs
  clear hs hm;refine O.v0 (.p rfl) rfl zB rfl rfl ((eall_c (l:=[e.1,e.2.1]) (Arr.ofCells ha9 ⟨h1,h2,trivial⟩ rfl))) ?_;refine O.sT 10 rfl (by exact ea) ?_;refine zz 10 ?_
  refine O.cs 20 rfl (fun h20=>?_) fun h20=>?_
  ·refine zz 21 ?_
   refine S.ret results328 rfl fun w hw=>Holds.end_ hR hw ?_
   first|exact ⟨_,⟨by simp only [evOrder];rw [if_neg (fun q=>absurd q.2.2.1 zF)],rfl⟩,zM⟩|exact ⟨_,⟨by simp only [evOrder];rw [if_neg (fun q=>absurd q.2.2.2.1 zF)],rfl⟩,zM⟩|exact ⟨_,⟨by simp only [evOrder];rw [if_neg (fun q=>absurd q.2.2.2.2 zF)],rfl⟩,zM⟩|exact ⟨_,⟨by simp only [evOrder];rw [if_pos ⟨e1.1,e1.2,Classical.not_not.1 zF,Classical.not_not.1 zF,Classical.not_not.1 zF⟩],rfl⟩,zM⟩
  ·refine zz 8 ?_
   refine O.cs 28 rfl (fun h28=>?_) fun h28=>?_
   ·refine zz 13 ?_
    refine S.ret results328 rfl fun w hw=>Holds.end_ hR hw ?_
    first|exact ⟨_,⟨by simp only [evOrder];rw [if_neg (fun q=>absurd q.2.2.1 zF)],rfl⟩,zM⟩|exact ⟨_,⟨by simp only [evOrder];rw [if_neg (fun q=>absurd q.2.2.2.1 zF)],rfl⟩,zM⟩|exact ⟨_,⟨by simp only [evOrder];rw [if_neg (fun q=>absurd q.2.2.2.2 zF)],rfl⟩,zM⟩|exact ⟨_,⟨by simp only [evOrder];rw [if_pos ⟨e1.1,e1.2,Classical.not_not.1 zF,Classical.not_not.1 zF,Classical.not_not.1 zF⟩],rfl⟩,zM⟩
   ·refine zz 8 ?_
    refine S.cd rfl (fun h35=>?_) fun h35=>?_
    ·refine zz 4 ?_
     refine S.ret results328 rfl fun w hw=>Holds.end_ hR hw ?_
     first|exact ⟨_,⟨by simp only [evOrder];rw [if_neg (fun q=>absurd q.2.2.1 zF)],rfl⟩,zM⟩|exact ⟨_,⟨by simp only [evOrder];rw [if_neg (fun q=>absurd q.2.2.2.1 zF)],rfl⟩,zM⟩|exact ⟨_,⟨by simp only [evOrder];rw [if_neg (fun q=>absurd q.2.2.2.2 zF)],rfl⟩,zM⟩|exact ⟨_,⟨by simp only [evOrder];rw [if_pos ⟨e1.1,e1.2,Classical.not_not.1 zF,Classical.not_not.1 zF,Classical.not_not.1 zF⟩],rfl⟩,zM⟩
    ·refine zz 8 ?_
     refine O.v0 (.p rfl) rfl zB rfl rfl (bcompare_c zA zA) ?_;refine O.q 1 rfl<|O.nil<|S.ret results328 rfl fun w hw=>Holds.end_ hR hw ?_
     first|exact ⟨_,⟨by simp only [evOrder];rw [if_neg (fun q=>absurd q.2.2.1 zF)],rfl⟩,zM⟩|exact ⟨_,⟨by simp only [evOrder];rw [if_neg (fun q=>absurd q.2.2.2.1 zF)],rfl⟩,zM⟩|exact ⟨_,⟨by simp only [evOrder];rw [if_neg (fun q=>absurd q.2.2.2.2 zF)],rfl⟩,zM⟩|exact ⟨_,⟨by simp only [evOrder];rw [if_pos ⟨e1.1,e1.2,Classical.not_not.1 zF,Classical.not_not.1 zF,Classical.not_not.1 zF⟩],rfl⟩,zM⟩
theorem eRight_c {r:Fr} {cs:List Value} {e:EvdT} (h:EvdRp.rel r cs e):Con prog 291 #[.agg cs.toArray] r [] (Ret fun v η=>v=.bool (evdOk e)∧η=[]):=by
 obtain ⟨xa3,xa4,xa8,xa9,xc3,xc4,xc8,xc9,rfl,_⟩:=EvdRp.sh h;refine Con.o func291 fun g hg R hR=>?_;have h:=h.mono hg;refine S.seq<|S.region rfl<|O.opE (.p rfl) (.box (cs:=[_,_,_,_,_,_,_,_,_,_]) rfl rfl) ?_;rintro _ _ ⟨b1,rfl,rfl⟩;refine zz 5 ?_;refine O.v0 (.p rfl) rfl zB rfl rfl (pairOf_c h) ?_;refine O.v0 (.p rfl) rfl zB rfl rfl (eorder_c h) ?_;refine zz 3 ?_;exact S.rt results291 rfl hR ⟨rfl,rfl⟩
theorem ePut_c {r:Fr} {cs:List Value} {e:EvdT} (h:EvdRp.rel r cs e) :
  Con prog 247 #[.agg cs.toArray] r [] (Ret fun v η=>∃ a c,v=.tuple #[.slice a (evdOut e).length c,.int .i64 (evdErr e)]∧η=[OwnP Rp.u8 5 (.slice a (evdOut e).length c) (evdOut e)]):=by
 obtain ⟨xa3,xa4,xa8,xa9,xc3,xc4,xc8,xc9,rfl,_⟩:=EvdRp.sh h;obtain ⟨h1,h2⟩:=EvdRp.two h;refine Con.o func247 fun g hg R hR=>?_;have h:=h.mono hg;have h1:=h1.mono hg;have h2:=h2.mono hg
 cases eo:evdOk e with
 |false =>
  have e1:evdOut e=[]:=by simp [evdOut,eo]
  have e2:evdErr e=4:=by simp [evdErr,eo]
  rw [e1,e2] at hR;refine S.seq<|S.region rfl<|O.opE (.p rfl) (.box (cs:=[_,_,_,_,_,_,_,_,_,_]) rfl rfl) ?_;rintro _ _ ⟨b1,rfl,rfl⟩;refine zz 7 ?_;refine O.v0 (.p rfl) rfl zB rfl rfl (eRight_c h) ?_;refine O.sF 9 rfl (by exact eo) ?_;refine zz 8 ?_;refine S.addNil (T:=Rp.u8) (e:=5) ?_;refine S.ret2 results247 rfl rfl fun w hw=>Holds.end_ hR hw ?_;exact pk ⟨none,0,rfl,rfl⟩
 |true =>
  have e1:evdOut e=evdB e:=by simp [evdOut,eo]
  have e2:evdErr e=0:=by simp [evdErr,eo]
  have ho:=evdOk_iff.1 eo;have o1:rootOut e.1=rootB e.1:=by simp [rootOut,ho.1]
  have o2:rootOut e.2.1=rootB e.2.1:=by simp [rootOut,ho.2.1]
  have l1:=rootB_length ho.1;have l2:=rootB_length ho.2.1;have hl:=evdB_length eo;have hfl:[bytesOf (rootB e.1),bytesOf (rootB e.2.1)].flatten=evdB e:=by simp [evdB]
  rw [e1,e2] at hR;refine S.seq<|S.region rfl<|O.opE (.p rfl) (.box (cs:=[_,_,_,_,_,_,_,_,_,_]) rfl rfl) ?_;rintro _ _ ⟨b1,rfl,rfl⟩;refine zz 7 ?_;refine O.v0 (.p rfl) rfl zB rfl rfl (eRight_c h) ?_;refine O.sT 9 rfl (by exact eo) ?_;refine zz 8 ?_;refine O.call0 (.p rfl) rfl zB rfl rfl (tPut_c h1) ?_;rintro _ _ ⟨a14,c14,rfl,rfl⟩;rw [o1];refine zz 10 ?_;refine O.call0 (.p rfl) rfl zB rfl rfl (tPut_c h2) ?_;rintro _ _ ⟨a20,c20,rfl,rfl⟩;rw [o2];refine zz 7 ?_;refine S.frzA zC fun g hs hm hone=>?_;replace hg:=zfs hg hs;replace hR:=melted hR hm
  try replace h:=h.mono hs
  try replace h1:=h1.mono hs
  try replace h2:=h2.mono hs
  clear hs hm;refine S.frzA zC fun g hs hm htwo=>?_;replace hg:=zfs hg hs;replace hR:=melted hR hm
  try replace h:=h.mono hs
  try replace h1:=h1.mono hs
  try replace h2:=h2.mono hs
  try replace hone:=hone.mono hs
  clear hs hm;refine zz 2 ?_;refine O.call0 (.p rfl) rfl zB rfl rfl (wBytes_c zA zH) ?_;rintro _ _ ⟨a24,c24,rfl,rfl⟩;refine O.q 1 rfl<|O.call0 (.p rfl) rfl zB rfl rfl (wBytes_c zA zH) ?_;rintro _ _ ⟨a26,c26,rfl,rfl⟩;refine O.opE (.p rfl) (.litP (T:=Rp.val) (ys:=[_,_]) underlying28 elem22 zE rfl rfl ⟨⟨rfl,rfl⟩,⟨rfl,rfl⟩,trivial⟩ zE) ?_;rintro _ _ ⟨a27,c27,rfl,rfl⟩;refine O.callB (.p rfl) rfl zB rfl rfl (bs:=[OwnP Rp.val 22 (.slice a27 2 c27) [.slice a24 (bytesOf (rootB e.1)).length c24,.slice a26 (bytesOf (rootB e.2.1)).length c26],OwnP Rp.u8 5 (.slice a24 (bytesOf (rootB e.1)).length c24) (bytesOf (rootB e.1)),OwnP Rp.u8 5 (.slice a26 (bytesOf (rootB e.2.1)).length c26) (bytesOf (rootB e.2.1))]) zI (fun m hm hd=>wJoin_c (xss:=[bytesOf (rootB e.1),bytesOf (rootB e.2.1)]) ((hm.arr.right hd).rows ⟨hm.tail.arr.right hd,hm.tail.tail.arr.right hd,trivial⟩) (by rw [hfl];omega)) ?_;rintro _ _ ⟨a28,c28,rfl,rfl⟩;rw [hfl];refine O.q 2 rfl<|O.nil<|S.ret2 results247 rfl rfl fun w hw=>Holds.end_ hR hw ?_;exact pk ⟨a28,c28,rfl,rfl⟩
end Go.Proofs.YtdjoggpacmpfnaaGreatDoor
