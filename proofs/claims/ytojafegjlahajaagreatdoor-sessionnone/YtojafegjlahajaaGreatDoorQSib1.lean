/- Texts of this proof. -/
import Derived.Test.YtojafegjlahajaaGreatDoorQRec3
open Go Go.Sp Go.Proofs.Tryz
set_option maxRecDepth 100000
set_option maxHeartbeats 1000000
attribute [local irreducible] obj Own OwnP
namespace Go.Proofs.YtojafegjlahajaaGreatDoor
def shp:List PanicEntry:=[{ v:=.iface 44 (.int .i64 4),recovered:=false }]
theorem smust_c {r:Fr} (b:Bool):Con prog 226 #[.bool b] r [] (RetP (fun v η=>b=true∧v=.tuple #[]∧η=[]) (fun ch η=>b=false∧ch=shp∧η=[])):=by
 refine Con.o func226 fun g hg R hR=>?_;refine zz 3 ?_;refine O.op (.p rfl) ((by first|exact .notD rfl|exact .not rfl))<|zz 1 ?_;refine S.cd rfl (fun h3=>?_) fun h3=>?_
 ·refine S.region rfl<|O.op (.p rfl) (.mkIface underlying44 rfl)<|O.panic rfl rfl (fun w hw=>?_)
  exact hR _ [] w ⟨by simpa using h3,rfl,rfl⟩ hw
 ·refine S.skip<|S.end0 results226 fun w hw=>hR _ _ w ?_ hw
  exact ⟨by simpa using h3,rfl,rfl⟩
theorem scompare_c {r:Fr} {cs ds:List Value} {x y:RecT} (h:ItRp.rel r cs x) (h' :ItRp.rel r ds y):Con prog 227 #[.agg cs.toArray,.agg ds.toArray] r [] (Ret fun v η=>v=.int .i64 (cmpR x y)∧η=[]):=by
 obtain ⟨xa3,xa5,xa6,xa7,xc3,xc5,xc6,xc7,rfl,_,_⟩:=ItRp.sh h;obtain ⟨ya3,ya5,ya6,ya7,yc3,yc5,yc6,yc7,rfl,_,_⟩:=ItRp.sh h';refine Con.o func227 fun g hg R hR=>?_;have hc1:=cmpZ_in x.2.1 y.2.1;have hc2:=cmpZ_in x.2.2.1 y.2.2.1;refine S.seq<|S.region rfl<|O.opE (.p rfl) (.box (cs:=[_,_,_,_,_,_,_,_]) rfl rfl) ?_;rintro _ _ ⟨b2,rfl,rfl⟩;refine O.opE (.p rfl) (.box (cs:=[_,_,_,_,_,_,_,_]) rfl rfl) ?_;rintro _ _ ⟨b3,rfl,rfl⟩;refine zz 3 ?_;refine S.frzO zC fun g hs hm hb3=>?_;replace hg:=zfs hg hs;replace hR:=melted hR hm;clear hs hm;refine S.frzO zC fun g hs hm hb2=>?_;replace hg:=zfs hg hs;replace hR:=melted hR hm
 try replace hb3:=hb3.mono hs
 clear hs hm;refine S.regionD (L:=[0,1,2,3,4,5,7,8,9,10,11,12,6,13,14,15,16]) F.mixed zD ?_;refine zz 12 ?_;refine OD.v0 (.p rfl) zD rfl zD rfl rfl (compare_c _ _) ?_;refine OD.v0 (.p rfl) zD rfl zD rfl rfl (compare_c _ _) ?_;refine OD.litP (T:=Rp.i64) (ys:=[_,_]) (.p rfl) zD underlying104 elem3 zE rfl rfl ⟨⟨rfl,by first|assumption|(constructor<;>omega)⟩,⟨rfl,by first|assumption|(constructor<;>omega)⟩,trivial⟩ zE (fun a19 c19=>?_);refine OD.callS (.p rfl) zD rfl zD rfl rfl zC cmpOr_d ?_;rintro _ _ ⟨rfl,rfl⟩;refine OD.q 1 rfl<|ODx.nil<|S.ret results227 rfl fun w hw=>Holds.end_ hR hw ?_;refine ⟨_,⟨congrArg _ ?_,rfl⟩,zN⟩;unfold cmpR firstNZ firstNZ firstNZ
 split
 ·rfl
 ·split
  ·rfl
  ·rename_i h2;exact (Classical.not_not.1 h2).symm
theorem sadd_c {r:Fr} {tR:TypeId} {b:Nat} {va:Value} {xs ys:List RecT} (ha:Arr RecRp r va ys) (h1:oneK xs=true) (hl:xs.length+ys.length≤100000000000) :
  Con prog 225 #[.pointer (some ⟨b,0,none⟩),va] r [RowP r tR 220 5 b xs]
   (RetP (fun v η=>oneK (xs++ys)=true∧v=.tuple #[]∧η=[RowP r tR 220 5 b (xs++ys)]) (fun ch η=>oneK (xs++ys)=false∧ch=shp∧η=[])):=by
 have hrec:=ha;refine Con.o func225 fun g hg R hR=>?_;have ha:=ha.mono hg;obtain ⟨a1,c1,rfl⟩:=ha.shape;refine zz 7 ?_;refine S.conv (B:=RowP r tR 220 5 b xs) (C:=RowP r tR 220 5 b (xs++ys.take 0)) zC (fun m x=>⟨m,Fr.sub_refl _,by rw [List.take_zero,List.append_nil];exact x⟩) ?_;refine S.loopK (ι:=Nat) (fun i=>i≤ys.length∧oneK (xs++ys.take i)=true) (fun i=>[(10,.int .i64 (i:Int))]) [(0,_),(8,_),(9,_)] (fun i=>[RowP r tR 220 5 b (xs++ys.take i)]) (fun i=>ys.length - i) (0) (by exact ⟨by simp,by simpa using h1⟩) zq zq rfl fun i hx ih=>?_;have hm1:=meltRefl (g:=g);obtain ⟨hx1,hx2⟩:=hx;refine zz 5 ?_;refine S.cd rfl (fun h11=>?_) fun h11=>?_
 ·have hi:i<ys.length:=by omega
  have htk:xs++ys.take (i+1)=(xs++ys.take i)++[ys[i]]:=by rw [ztg hi,zaa]
  have hsn:=oneK_snoc (x:=ys[i]) hx2;rw [← htk] at hsn;have hbad:oneK (xs++ys.take (i+1))=false→oneK (xs++ys)=false:=fun q=>by
   rw [Bool.eq_false_iff];intro q2;have:=oneK_take (xs.length+(i+1)) q2;rw [List.take_append,List.take_of_length_le (Nat.le_add_right _ _),Nat.add_sub_cancel_left,q] at this
   cases this
  have hlen:(xs++ys.take i).length=xs.length+i:=by simp;omega
  generalize hzs:xs++ys.take i=zs at hx2 hsn htk hlen ⊢;refine zz 5 ?_;refine O.iy hrec hg (h:=fun p12 cs12 hp12 hrr12=>?_);have hr12:=Rp.rel.mono hrr12 hg;obtain ⟨ra3_12,ra5_12,ra6_12,rc3_12,rc5_12,rc6_12,rfl,ho0_12,ho1_12,ho2_12,ha3_12,ha5_12,ha6_12⟩:=RecRp.sh hr12;refine O.op (.p rfl) (.loadAgg isAgg102 zD rfl hp12) ?_;refine O.opE (.p rfl) (.alloc (cs:=[.string ⟨#[]⟩,.int .i64 0,.int .i64 0,.slice none 0 0,.bool false,.slice none 0 0,.slice none 0 0]) zeroValue102 rfl) ?_;rintro _ _ ⟨b5,rfl,rfl⟩;refine zz 5 ?_;refine O.call0 (.p rfl) rfl zD rfl rfl (rPut_c (by first|assumption|exact Rp.rel.mono zM hg)) ?_;rintro _ _ ⟨a16,c16,rfl,rfl⟩;refine zz 7 ?_;refine S.objIs (b:=b5) (cs' :=[.string (str ys[i].1),.int .i64 ys[i].2.1,.int .i64 ys[i].2.2.1,.slice ra3_12 ys[i].2.2.2.1.length rc3_12,.bool ys[i].2.2.2.2.1,.slice ra5_12 ys[i].2.2.2.2.2.1.length rc5_12,.slice ra6_12 ys[i].2.2.2.2.2.2.1.length rc6_12]) zC rfl ?_
  cases e:recOk ys[i] with
  |false =>
   have hno:oneK (xs++ys)=false:=hbad (by rw [Bool.eq_false_iff];intro q;have:=(hsn.1 q).1;rw [e] at this;cases this);refine S.regionD (L:=.range 24) F.mixed zD ?_;refine zz 2 ?_;refine OD.sF 20 rfl (by simp [recErr,e]) ?_;refine OD.q 21 rfl<|OD.callP0 (.p rfl) zD rfl zD rfl rfl (smust_c _) (fun ch η' w hX hW=>by (obtain ⟨hb,rfl,rfl⟩:=hX;exact hR _ _ w ⟨hno,rfl,rfl⟩ hW.drop_all)) ?_;rintro _ _ ⟨hb42,rfl,rfl⟩;exact absurd hb42 zH
  |true =>
   have eo:recOut ys[i]=recB ys[i]:=by simp [recOut,e]
   rw [eo]
   by_cases h0:zs.length=0
   ·have hyes:=hsn.2 ⟨e,fun h=>absurd h zB⟩
    refine S.frzO zC fun g hs hm hb5=>?_;replace hg:=zfs hg hs;replace hR:=melted hR hm
    try replace ha:=ha.mono hs
    try replace hp12:=hp12.mono hs
    try replace hr12:=hr12.mono hs
    try replace ha3_12:=ha3_12.mono hs
    try replace ha5_12:=ha5_12.mono hs
    try replace ha6_12:=ha6_12.mono hs
    replace hm1:=meltTrans hm1 hm;clear hs hm;have hg_q:=hg;have hR_q:=hR
    try have ha_q:=ha
    try have hp12_q:=hp12
    try have hr12_q:=hr12
    try have ha3_12_q:=ha3_12
    try have ha5_12_q:=ha5_12
    try have ha6_12_q:=ha6_12
    try have hb5_q:=hb5
    refine S.frzH (B:=RowP r tR 220 5 b zs) zC fun gq hsq ⟨mq,hmq,hsmq⟩ hbq=>?_;replace hg:=zfs hg hsq;replace hR:=backR hR hbq
    try replace ha:=ha.mono hsq
    try replace hp12:=hp12.mono hsq
    try replace hr12:=hr12.mono hsq
    try replace ha3_12:=ha3_12.mono hsq
    try replace ha5_12:=ha5_12.mono hsq
    try replace ha6_12:=ha6_12.mono hsq
    try replace hb5:=hb5.mono hsq
    obtain ⟨qa,qc,hqat,hqar⟩:=RowP.read hg hsmq hmq;refine S.regionD (L:=.range 24) F.mixed zD ?_;refine zz 2 ?_;refine OD.sT 20 rfl (by simp [recErr,e]) ?_;refine zz 7 ?_;refine OD.sT 27 rfl (by exact zdt zB) ?_;refine OD.q 14 rfl<|OD.callP0 (.p rfl) zD rfl zD rfl rfl (smust_c _) (fun ch η' w hX hW=>by (exact absurd hX.1 zH)) ?_;rintro _ _ ⟨hb42,rfl,rfl⟩;refine ODx.nil<|S.back hbq ?_;replace hg:=hg_q;replace hR:=hR_q
    try replace ha:=ha_q
    try replace hp12:=hp12_q
    try replace hr12:=hr12_q
    try replace ha3_12:=ha3_12_q
    try replace ha5_12:=ha5_12_q
    try replace ha6_12:=ha6_12_q
    try replace hb5:=hb5_q
    clear hg_q hR_q;refine S.open (A:=RowP r tR 220 5 b zs) zC (fun m x=>x) fun p=>?_;simp only [List.cons_append,List.nil_append];refine S.factS (B:=EachP (ItO r 5) p.2 zs) zC (fun _ z=>EachP.len z) fun hcl=>?_;have hpl:p.2.length≤100000000000:=by omega
    have hg_o:=hg;have hR_o:=hR
    try have ha_o:=ha
    try have hp12_o:=hp12
    try have hr12_o:=hr12
    try have ha3_12_o:=ha3_12
    try have ha5_12_o:=ha5_12
    try have ha6_12_o:=ha6_12
    try have hb5_o:=hb5
    refine S.frzH (B:=obj b tR [.slice p.1.1 zs.length p.1.2]) zC fun go hso ⟨mo,hmo,hsmo⟩ hbo=>?_;replace hg:=zfs hg hso;replace hR:=backR hR hbo
    try replace ha:=ha.mono hso
    try replace hp12:=hp12.mono hso
    try replace hr12:=hr12.mono hso
    try replace ha3_12:=ha3_12.mono hso
    try replace ha5_12:=ha5_12.mono hso
    try replace ha6_12:=ha6_12.mono hso
    try replace hb5:=hb5.mono hso
    have hato:=(obj_at hmo).mono hsmo;refine S.regionD (L:=.range 13) F.mixed zD ?_;refine zz 5 ?_;refine .quiet (.p rfl) rfl (fun _=>.loadAgg isAgg102 zD rfl hb5) ?_;refine OD.q 1 rfl<|.quiet (.p rfl) rfl (fun _=>.build (cs:=[_,_,_,_,_,_,_,_]) underlying220 rfl rfl rfl rfl rfl)<|OD.litP (T:=(Rp.cells 8)) (ys:=[_]) (.p rfl) zD underlying216 elem220 zE rfl rfl ⟨⟨rfl,rfl,by first|(simp;done)|(intro v hv;simp [Value.cells] at hv;rcases hv with rfl|rfl<;>rfl)|(refine List.forall_mem_cons.2 ⟨rfl,?_⟩;repeat (first|exact (fun _ h=>absurd h List.not_mem_nil)|refine List.forall_mem_cons.2 ⟨rfl,?_⟩))⟩,trivial⟩ zE (fun a51 c51=>?_);refine OD.appendO (.p rfl) zD (T:=(Rp.cells 8)) underlying216 elem220 zE rfl rfl zC zC zG zG (fun a52 c52=>?_);refine zz 2 ?_;refine OD.last1 rfl zD (fun _ hw=>hbo hw) flat216 rfl rfl zQ zC zU ?_;replace hg:=hg_o;replace hR:=hR_o
    try replace ha:=ha_o
    try replace hp12:=hp12_o
    try replace hr12:=hr12_o
    try replace ha3_12:=ha3_12_o
    try replace ha5_12:=ha5_12_o
    try replace ha6_12:=ha6_12_o
    try replace hb5:=hb5_o
    clear hg_o hR_o;refine zz 5 ?_;refine S.ownIs (T:=Rp.cells 8) (e:=220) (v' :=.slice a52 (zs++[ys[i]]).length c52) (xs' :=p.2++[[.string (str ys[i].1),.int .i64 ys[i].2.1,.int .i64 ys[i].2.2.1,.slice ra3_12 ys[i].2.2.2.1.length rc3_12,.bool ys[i].2.2.2.2.1,.slice ra5_12 ys[i].2.2.2.2.2.1.length rc5_12,.slice ra6_12 ys[i].2.2.2.2.2.2.1.length rc6_12,.slice a16 (recB ys[i]).length c16]]) zC (by simp [hcl]) zR ?_;refine S.objIs (b:=b) (cs' :=[.slice a52 (zs++[ys[i]]).length c52]) zC (by simp [hcl]) ?_;refine S.conv (B:=OwnP Rp.u8 5 (.slice a16 (recB ys[i]).length c16) (recB ys[i])) (C:=ItO r 5 [.string (str ys[i].1),.int .i64 ys[i].2.1,.int .i64 ys[i].2.2.1,.slice ra3_12 ys[i].2.2.2.1.length rc3_12,.bool ys[i].2.2.2.2.1,.slice ra5_12 ys[i].2.2.2.2.2.1.length rc5_12,.slice ra6_12 ys[i].2.2.2.2.2.2.1.length rc6_12,.slice a16 (recB ys[i]).length c16] ys[i]) zC (fun m x=>⟨m,Fr.sub_refl _,[.string (str ys[i].1),.int .i64 ys[i].2.1,.int .i64 ys[i].2.2.1,.slice ra3_12 ys[i].2.2.2.1.length rc3_12,.bool ys[i].2.2.2.2.1,.slice ra5_12 ys[i].2.2.2.2.2.1.length rc5_12,.slice ra6_12 ys[i].2.2.2.2.2.2.1.length rc6_12],a16,c16,rfl,hrr12,x⟩) ?_
    refine S.each (A:=ItO r 5) (bs:=p.2) (b:=[.string (str ys[i].1),.int .i64 ys[i].2.1,.int .i64 ys[i].2.2.1,.slice ra3_12 ys[i].2.2.2.1.length rc3_12,.bool ys[i].2.2.2.2.1,.slice ra5_12 ys[i].2.2.2.2.2.1.length rc5_12,.slice ra6_12 ys[i].2.2.2.2.2.2.1.length rc6_12,.slice a16 (recB ys[i]).length c16]) (a:=ys[i]) zC zC ?_;refine S.foldS (A:=RowP r tR 220 5 b (zs++[ys[i]])) (bs:=[obj b tR [.slice a52 (zs++[ys[i]]).length c52],OwnP (Rp.cells 8) 220 (.slice a52 (zs++[ys[i]]).length c52) (p.2++[[.string (str ys[i].1),.int .i64 ys[i].2.1,.int .i64 ys[i].2.2.1,.slice ra3_12 ys[i].2.2.2.1.length rc3_12,.bool ys[i].2.2.2.2.1,.slice ra5_12 ys[i].2.2.2.2.2.1.length rc5_12,.slice ra6_12 ys[i].2.2.2.2.2.2.1.length rc6_12,.slice a16 (recB ys[i]).length c16]]),EachP (ItO r 5) (p.2++[[.string (str ys[i].1),.int .i64 ys[i].2.1,.int .i64 ys[i].2.2.1,.slice ra3_12 ys[i].2.2.2.1.length rc3_12,.bool ys[i].2.2.2.2.1,.slice ra5_12 ys[i].2.2.2.2.2.1.length rc5_12,.slice ra6_12 ys[i].2.2.2.2.2.2.1.length rc6_12,.slice a16 (recB ys[i]).length c16]]) (zs++[ys[i]])]) zI (fun m x=>⟨((a52,c52),p.2++[[.string (str ys[i].1),.int .i64 ys[i].2.1,.int .i64 ys[i].2.2.1,.slice ra3_12 ys[i].2.2.2.1.length rc3_12,.bool ys[i].2.2.2.2.1,.slice ra5_12 ys[i].2.2.2.2.2.1.length rc5_12,.slice ra6_12 ys[i].2.2.2.2.2.2.1.length rc6_12,.slice a16 (recB ys[i]).length c16]]),x⟩) ?_;rw [← htk];exact S.melt hm1 (S.pw (ih (i+1) (by exact ⟨by omega,hyes⟩) zB))
   ·by_cases hk:ys[i].1=(zs[0]'zB).1
    ·have hyes:=hsn.2 ⟨e,fun h=>hk⟩
     refine S.frzO zC fun g hs hm hb5=>?_;replace hg:=zfs hg hs;replace hR:=melted hR hm
     try replace ha:=ha.mono hs
     try replace hp12:=hp12.mono hs
     try replace hr12:=hr12.mono hs
     try replace ha3_12:=ha3_12.mono hs
     try replace ha5_12:=ha5_12.mono hs
     try replace ha6_12:=ha6_12.mono hs
     replace hm1:=meltTrans hm1 hm;clear hs hm;have hg_q:=hg;have hR_q:=hR
     try have ha_q:=ha
     try have hp12_q:=hp12
     try have hr12_q:=hr12
     try have ha3_12_q:=ha3_12
     try have ha5_12_q:=ha5_12
     try have ha6_12_q:=ha6_12
     try have hb5_q:=hb5
     refine S.frzH (B:=RowP r tR 220 5 b zs) zC fun gq hsq ⟨mq,hmq,hsmq⟩ hbq=>?_;replace hg:=zfs hg hsq;replace hR:=backR hR hbq
     try replace ha:=ha.mono hsq
     try replace hp12:=hp12.mono hsq
     try replace hr12:=hr12.mono hsq
     try replace ha3_12:=ha3_12.mono hsq
     try replace ha5_12:=ha5_12.mono hsq
     try replace ha6_12:=ha6_12.mono hsq
     try replace hb5:=hb5.mono hsq
     obtain ⟨qa,qc,hqat,hqar⟩:=RowP.read hg hsmq hmq;refine S.regionD (L:=.range 24) F.mixed zD ?_;refine zz 2 ?_;refine OD.sT 20 rfl (by simp [recErr,e]) ?_;refine zz 7 ?_;refine OD.sF 27 rfl (by exact zdf zB) ?_;refine zz 5 ?_;refine OD.ia (.g rfl rfl) underlying216 size220 rfl rfl (show _=(((0):Nat):Int) by omega) zA (h:=fun p33 cs33 hp33 hr33=>?_);obtain ⟨ia3_33,ia5_33,ia6_33,ia7_33,ic3_33,ic5_33,ic6_33,ic7_33,rfl,hr1_33,ha7_33⟩:=ItRp.sh hr33;refine zz 5 ?_;refine .quiet (.g rfl rfl) rfl (fun _=>.eqlS rfl rfl)<|OD.sT 39 rfl (by simp [hk]) ?_;refine OD.q 2 rfl<|OD.callP0 (.p rfl) zD rfl zD rfl rfl (smust_c _) (fun ch η' w hX hW=>by (exact absurd hX.1 zH)) ?_;rintro _ _ ⟨hb42,rfl,rfl⟩;refine ODx.nil<|S.back hbq ?_;replace hg:=hg_q;replace hR:=hR_q
     try replace ha:=ha_q
     try replace hp12:=hp12_q
     try replace hr12:=hr12_q
     try replace ha3_12:=ha3_12_q
     try replace ha5_12:=ha5_12_q
     try replace ha6_12:=ha6_12_q
     try replace hb5:=hb5_q
     clear hg_q hR_q;refine S.open (A:=RowP r tR 220 5 b zs) zC (fun m x=>x) fun p=>?_;simp only [List.cons_append,List.nil_append];refine S.factS (B:=EachP (ItO r 5) p.2 zs) zC (fun _ z=>EachP.len z) fun hcl=>?_;have hpl:p.2.length≤100000000000:=by omega
     have hg_o:=hg;have hR_o:=hR
     try have ha_o:=ha
     try have hp12_o:=hp12
     try have hr12_o:=hr12
     try have ha3_12_o:=ha3_12
     try have ha5_12_o:=ha5_12
     try have ha6_12_o:=ha6_12
     try have hb5_o:=hb5
     refine S.frzH (B:=obj b tR [.slice p.1.1 zs.length p.1.2]) zC fun go hso ⟨mo,hmo,hsmo⟩ hbo=>?_;replace hg:=zfs hg hso;replace hR:=backR hR hbo
     try replace ha:=ha.mono hso
     try replace hp12:=hp12.mono hso
     try replace hr12:=hr12.mono hso
     try replace ha3_12:=ha3_12.mono hso
     try replace ha5_12:=ha5_12.mono hso
     try replace ha6_12:=ha6_12.mono hso
     try replace hb5:=hb5.mono hso
     have hato:=(obj_at hmo).mono hsmo;refine S.regionD (L:=.range 13) F.mixed zD ?_;refine zz 5 ?_;refine .quiet (.p rfl) rfl (fun _=>.loadAgg isAgg102 zD rfl hb5) ?_;refine OD.q 1 rfl<|.quiet (.p rfl) rfl (fun _=>.build (cs:=[_,_,_,_,_,_,_,_]) underlying220 rfl rfl rfl rfl rfl)<|OD.litP (T:=(Rp.cells 8)) (ys:=[_]) (.p rfl) zD underlying216 elem220 zE rfl rfl ⟨⟨rfl,rfl,by first|(simp;done)|(intro v hv;simp [Value.cells] at hv;rcases hv with rfl|rfl<;>rfl)|(refine List.forall_mem_cons.2 ⟨rfl,?_⟩;repeat (first|exact (fun _ h=>absurd h List.not_mem_nil)|refine List.forall_mem_cons.2 ⟨rfl,?_⟩))⟩,trivial⟩ zE (fun a51 c51=>?_);refine OD.appendO (.p rfl) zD (T:=(Rp.cells 8)) underlying216 elem220 zE rfl rfl zC zC zG zG (fun a52 c52=>?_);refine zz 2 ?_;refine OD.last1 rfl zD (fun _ hw=>hbo hw) flat216 rfl rfl zQ zC zU ?_;replace hg:=hg_o;replace hR:=hR_o
     try replace ha:=ha_o
     try replace hp12:=hp12_o
     try replace hr12:=hr12_o
     try replace ha3_12:=ha3_12_o
     try replace ha5_12:=ha5_12_o
     try replace ha6_12:=ha6_12_o
     try replace hb5:=hb5_o
     clear hg_o hR_o;refine zz 5 ?_;refine S.ownIs (T:=Rp.cells 8) (e:=220) (v' :=.slice a52 (zs++[ys[i]]).length c52) (xs' :=p.2++[[.string (str ys[i].1),.int .i64 ys[i].2.1,.int .i64 ys[i].2.2.1,.slice ra3_12 ys[i].2.2.2.1.length rc3_12,.bool ys[i].2.2.2.2.1,.slice ra5_12 ys[i].2.2.2.2.2.1.length rc5_12,.slice ra6_12 ys[i].2.2.2.2.2.2.1.length rc6_12,.slice a16 (recB ys[i]).length c16]]) zC (by simp [hcl]) zR ?_;refine S.objIs (b:=b) (cs' :=[.slice a52 (zs++[ys[i]]).length c52]) zC (by simp [hcl]) ?_;refine S.conv (B:=OwnP Rp.u8 5 (.slice a16 (recB ys[i]).length c16) (recB ys[i])) (C:=ItO r 5 [.string (str ys[i].1),.int .i64 ys[i].2.1,.int .i64 ys[i].2.2.1,.slice ra3_12 ys[i].2.2.2.1.length rc3_12,.bool ys[i].2.2.2.2.1,.slice ra5_12 ys[i].2.2.2.2.2.1.length rc5_12,.slice ra6_12 ys[i].2.2.2.2.2.2.1.length rc6_12,.slice a16 (recB ys[i]).length c16] ys[i]) zC (fun m x=>⟨m,Fr.sub_refl _,[.string (str ys[i].1),.int .i64 ys[i].2.1,.int .i64 ys[i].2.2.1,.slice ra3_12 ys[i].2.2.2.1.length rc3_12,.bool ys[i].2.2.2.2.1,.slice ra5_12 ys[i].2.2.2.2.2.1.length rc5_12,.slice ra6_12 ys[i].2.2.2.2.2.2.1.length rc6_12],a16,c16,rfl,hrr12,x⟩) ?_
     refine S.each (A:=ItO r 5) (bs:=p.2) (b:=[.string (str ys[i].1),.int .i64 ys[i].2.1,.int .i64 ys[i].2.2.1,.slice ra3_12 ys[i].2.2.2.1.length rc3_12,.bool ys[i].2.2.2.2.1,.slice ra5_12 ys[i].2.2.2.2.2.1.length rc5_12,.slice ra6_12 ys[i].2.2.2.2.2.2.1.length rc6_12,.slice a16 (recB ys[i]).length c16]) (a:=ys[i]) zC zC ?_;refine S.foldS (A:=RowP r tR 220 5 b (zs++[ys[i]])) (bs:=[obj b tR [.slice a52 (zs++[ys[i]]).length c52],OwnP (Rp.cells 8) 220 (.slice a52 (zs++[ys[i]]).length c52) (p.2++[[.string (str ys[i].1),.int .i64 ys[i].2.1,.int .i64 ys[i].2.2.1,.slice ra3_12 ys[i].2.2.2.1.length rc3_12,.bool ys[i].2.2.2.2.1,.slice ra5_12 ys[i].2.2.2.2.2.1.length rc5_12,.slice ra6_12 ys[i].2.2.2.2.2.2.1.length rc6_12,.slice a16 (recB ys[i]).length c16]]),EachP (ItO r 5) (p.2++[[.string (str ys[i].1),.int .i64 ys[i].2.1,.int .i64 ys[i].2.2.1,.slice ra3_12 ys[i].2.2.2.1.length rc3_12,.bool ys[i].2.2.2.2.1,.slice ra5_12 ys[i].2.2.2.2.2.1.length rc5_12,.slice ra6_12 ys[i].2.2.2.2.2.2.1.length rc6_12,.slice a16 (recB ys[i]).length c16]]) (zs++[ys[i]])]) zI (fun m x=>⟨((a52,c52),p.2++[[.string (str ys[i].1),.int .i64 ys[i].2.1,.int .i64 ys[i].2.2.1,.slice ra3_12 ys[i].2.2.2.1.length rc3_12,.bool ys[i].2.2.2.2.1,.slice ra5_12 ys[i].2.2.2.2.2.1.length rc5_12,.slice ra6_12 ys[i].2.2.2.2.2.2.1.length rc6_12,.slice a16 (recB ys[i]).length c16]]),x⟩) ?_;rw [← htk];exact S.melt hm1 (S.pw (ih (i+1) (by exact ⟨by omega,hyes⟩) zB))
    ·have hno:oneK (xs++ys)=false:=hbad (by rw [Bool.eq_false_iff];intro q;exact hk ((hsn.1 q).2 zB))
     refine S.frzO zC fun g hs hm hb5=>?_;replace hg:=zfs hg hs;replace hR:=melted hR hm
     try replace ha:=ha.mono hs
     try replace hp12:=hp12.mono hs
     try replace hr12:=hr12.mono hs
     try replace ha3_12:=ha3_12.mono hs
     try replace ha5_12:=ha5_12.mono hs
     try replace ha6_12:=ha6_12.mono hs
     replace hm1:=meltTrans hm1 hm;clear hs hm;have hg_q:=hg;have hR_q:=hR
     try have ha_q:=ha
     try have hp12_q:=hp12
     try have hr12_q:=hr12
     try have ha3_12_q:=ha3_12
     try have ha5_12_q:=ha5_12
     try have ha6_12_q:=ha6_12
     try have hb5_q:=hb5
     refine S.frzH (B:=RowP r tR 220 5 b zs) zC fun gq hsq ⟨mq,hmq,hsmq⟩ hbq=>?_;replace hg:=zfs hg hsq;replace hR:=backR hR hbq
     try replace ha:=ha.mono hsq
     try replace hp12:=hp12.mono hsq
     try replace hr12:=hr12.mono hsq
     try replace ha3_12:=ha3_12.mono hsq
     try replace ha5_12:=ha5_12.mono hsq
     try replace ha6_12:=ha6_12.mono hsq
     try replace hb5:=hb5.mono hsq
     obtain ⟨qa,qc,hqat,hqar⟩:=RowP.read hg hsmq hmq;refine S.regionD (L:=.range 24) F.mixed zD ?_;refine zz 2 ?_;refine OD.sT 20 rfl (by simp [recErr,e]) ?_;refine zz 7 ?_;refine OD.sF 27 rfl (by exact zdf zB) ?_;refine zz 5 ?_;refine OD.ia (.g rfl rfl) underlying216 size220 rfl rfl (show _=(((0):Nat):Int) by omega) zA (h:=fun p33 cs33 hp33 hr33=>?_);obtain ⟨ia3_33,ia5_33,ia6_33,ia7_33,ic3_33,ic5_33,ic6_33,ic7_33,rfl,hr1_33,ha7_33⟩:=ItRp.sh hr33;refine zz 5 ?_;refine .quiet (.g rfl rfl) rfl (fun _=>.eqlS rfl rfl)<|OD.sF 39 rfl (by simp;exact fun q=>hk q.symm) ?_;refine OD.q 2 rfl<|OD.callP0 (.p rfl) zD rfl zD rfl rfl (smust_c _) (fun ch η' w hX hW=>by (obtain ⟨hb,rfl,rfl⟩:=hX;exact hR _ _ w ⟨hno,rfl,rfl⟩ hW.drop_all)) ?_;rintro _ _ ⟨hb42,rfl,rfl⟩;exact absurd hb42 zH
 ·clear ih
  have hi:i=ys.length:=by omega
  subst hi;rw [List.take_length] at hx2 ⊢;refine S.exit rfl<|S.end0 results225 fun w hw=>Holds.end_ hR hw ?_;exact pk ⟨hx2,rfl,rfl⟩
end Go.Proofs.YtojafegjlahajaaGreatDoor
