/- Texts of this proof. -/
import Derived.Test.YtodhbhanmdfdeaaGreatQRec3
open Go Go.Sp Go.Proofs.Tryz
set_option maxRecDepth 100000
set_option maxHeartbeats 1000000
attribute [local irreducible] obj Own OwnP
namespace Go.Proofs.YtodhbhanmdfdeaaGreat
def shp:List PanicEntry:=[{ v:=.iface 32 (.int .i64 4),recovered:=false }]
theorem smust_c {r:Fr} (b:Bool):Con prog 130 #[.bool b] r [] (RetP (fun v η=>b=true∧v=.tuple #[]∧η=[]) (fun ch η=>b=false∧ch=shp∧η=[])):=by
 refine Con.o func130 fun g hg R hR=>?_;refine zz 3 ?_;refine O.op (.p rfl) ((by first|exact .notD rfl|exact .not rfl)) ?_;refine zz 1 ?_;refine S.cd rfl (fun h3=>?_) fun h3=>?_
 ·refine S.region rfl<|O.op (.p rfl) (.mkIface underlying32 rfl)<|O.panic rfl rfl (fun w hw=>?_)
  exact hR _ [] w ⟨by simpa using h3,rfl,rfl⟩ hw
 ·refine S.skip<|S.end0 results130 fun w hw=>hR _ _ w ?_ hw
  exact ⟨by simpa using h3,rfl,rfl⟩
theorem scompare_c {r:Fr} {cs ds:List Value} {x y:RecT} (h:ItRp.rel r cs x) (h' :ItRp.rel r ds y):Con prog 208 #[.agg cs.toArray,.agg ds.toArray] r [] (Ret fun v η=>v=.int .i64 (cmpR x y)∧η=[]):=by
 obtain ⟨xa3,xa5,xa6,xa7,xc3,xc5,xc6,xc7,rfl,_,_⟩:=ItRp.sh h;obtain ⟨ya3,ya5,ya6,ya7,yc3,yc5,yc6,yc7,rfl,_,_⟩:=ItRp.sh h';refine Con.o func208 fun g hg R hR=>?_;have hc1:=cmpZ_in x.2.1 y.2.1;have hc2:=cmpZ_in x.2.2.1 y.2.2.1;refine S.seq<|S.region rfl<|O.opE (.p rfl) (.box (cs:=[_,_,_,_,_,_,_,_]) rfl rfl) ?_;rintro _ _ ⟨b2,rfl,rfl⟩;refine O.opE (.p rfl) (.box (cs:=[_,_,_,_,_,_,_,_]) rfl rfl) ?_;rintro _ _ ⟨b3,rfl,rfl⟩;refine zz 3 ?_;refine S.frzO zB fun g hs hm hb3=>?_;replace hg:=Fr.sub_trans hg hs;replace hR:=melted hR hm;clear hs hm;refine S.frzO zB fun g hs hm hb2=>?_;replace hg:=Fr.sub_trans hg hs;replace hR:=melted hR hm
 try replace hb3:=hb3.mono hs
 clear hs hm;refine S.regionD (L:=[0,1,2,3,4,5,7,8,9,10,11,12,6,13,14,15,16]) F.mixed zC ?_;refine zz 12 ?_;refine OD.v0 (.p rfl) zC rfl zC rfl rfl (compare_c _ _) ?_;refine OD.v0 (.p rfl) zC rfl zC rfl rfl (compare_c _ _) ?_;refine OD.litP (T:=Rp.i64) (ys:=[_,_]) (.p rfl) zC underlying25 elem3 zE rfl rfl ⟨⟨rfl,by first|assumption|(constructor<;>omega)⟩,⟨rfl,by first|assumption|(constructor<;>omega)⟩,trivial⟩ zE (fun a19 c19=>?_);refine OD.callS (.p rfl) zC rfl zC rfl rfl zB cmpOr_d ?_;rintro _ _ ⟨rfl,rfl⟩;refine OD.q 1 rfl<|ODx.nil<|S.ret results208 rfl fun w hw=>Holds.end_ hR hw ?_;refine ⟨_,⟨congrArg _ ?_,rfl⟩,by repeat (first|exact zpa|exact zpn|(apply zpc;focus (repeat (first|exact zh|apply zt)))|apply zps)⟩;unfold cmpR firstNZ firstNZ firstNZ
 split
 ·rfl
 ·split
  ·rfl
  ·rename_i h2;exact (Classical.not_not.1 h2).symm
theorem sadd_c {r:Fr} {tR:TypeId} {b:Nat} {va:Value} {xs ys:List RecT} (ha:Arr RecRp r va ys) (h1:oneK xs=true) (hl:xs.length+ys.length≤100000000000) :
  Con prog 104 #[.pointer (some ⟨b,0,none⟩),va] r [RowP r tR 158 5 b xs]
   (RetP (fun v η=>oneK (xs++ys)=true∧v=.tuple #[]∧η=[RowP r tR 158 5 b (xs++ys)]) (fun ch η=>oneK (xs++ys)=false∧ch=shp∧η=[])):=by
 have hrec:=ha;refine Con.o func104 fun g hg R hR=>?_;have ha:=ha.mono hg;obtain ⟨a1,c1,rfl⟩:=ha.shape;refine zz 7 ?_;refine S.conv (B:=RowP r tR 158 5 b xs) (C:=RowP r tR 158 5 b (xs++ys.take 0)) zB (fun m x=>⟨m,Fr.sub_refl _,by rw [List.take_zero,List.append_nil];exact x⟩) ?_;refine S.loopK (ι:=Nat) (fun i=>i≤ys.length∧oneK (xs++ys.take i)=true) (fun i=>[(10,.int .i64 (i:Int))]) [(0,_),(8,_),(9,_)] (fun i=>[RowP r tR 158 5 b (xs++ys.take i)]) (fun i=>ys.length - i) (0) (by exact ⟨by simp,by simpa using h1⟩) zq zq rfl fun i hx ih=>?_;have hm1:=meltRefl (g:=g);obtain ⟨hx1,hx2⟩:=hx;refine zz 5 ?_;refine S.cd rfl (fun h11=>?_) fun h11=>?_
 ·have hi:i<ys.length:=by omega
  have htk:xs++ys.take (i+1)=(xs++ys.take i)++[ys[i]]:=by rw [List.take_succ_eq_append_getElem hi,List.append_assoc]
  have hsn:=oneK_snoc (x:=ys[i]) hx2;rw [← htk] at hsn;have hbad:oneK (xs++ys.take (i+1))=false→oneK (xs++ys)=false:=fun q=>by
   rw [Bool.eq_false_iff];intro q2;have:=oneK_take (xs.length+(i+1)) q2;rw [List.take_append,List.take_of_length_le (Nat.le_add_right _ _),Nat.add_sub_cancel_left,q] at this
   cases this
  have hlen:(xs++ys.take i).length=xs.length+i:=by simp;omega
  generalize hzs:xs++ys.take i=zs at hx2 hsn htk hlen ⊢;refine zz 5 ?_;refine O.iy hrec hg (h:=fun p12 cs12 hp12 hrr12=>?_);have hr12:=Rp.rel.mono hrr12 hg;obtain ⟨ra3_12,ra5_12,ra6_12,rc3_12,rc5_12,rc6_12,rfl,ho0_12,ho1_12,ho2_12,ha3_12,ha5_12,ha6_12⟩:=RecRp.sh hr12;refine O.op (.p rfl) (.loadAgg isAgg74 zC rfl hp12) ?_;refine O.opE (.p rfl) (.alloc (cs:=[.string ⟨#[]⟩,.int .i64 0,.int .i64 0,.slice none 0 0,.bool false,.slice none 0 0,.slice none 0 0]) zeroValue74 rfl) ?_;rintro _ _ ⟨b5,rfl,rfl⟩;refine zz 5 ?_;refine O.call0 (.p rfl) rfl zC rfl rfl (rPut_c (by first|assumption|exact Rp.rel.mono zF hg)) ?_;rintro _ _ ⟨a16,c16,rfl,rfl⟩;refine zz 7 ?_;refine S.objIs (b:=b5) (cs' :=[.string (str ys[i].1),.int .i64 ys[i].2.1,.int .i64 ys[i].2.2.1,.slice ra3_12 ys[i].2.2.2.1.length rc3_12,.bool ys[i].2.2.2.2.1,.slice ra5_12 ys[i].2.2.2.2.2.1.length rc5_12,.slice ra6_12 ys[i].2.2.2.2.2.2.1.length rc6_12]) zB rfl ?_
  cases e:recOk ys[i] with
  |false =>
   have hno:oneK (xs++ys)=false:=hbad (by rw [Bool.eq_false_iff];intro q;have:=(hsn.1 q).1;rw [e] at this;cases this);refine S.regionD (L:=.range 24) F.mixed zC ?_;refine zz 2 ?_;refine OD.sF 20 rfl (by simp [recErr,e]) ?_;refine OD.q 21 rfl<|OD.callP0 (.p rfl) zC rfl zC rfl rfl (smust_c _) (fun ch η' w hX hW=>by (obtain ⟨hb,rfl,rfl⟩:=hX;exact hR _ _ w ⟨hno,rfl,rfl⟩ hW.drop_all)) ?_;rintro _ _ ⟨hb42,rfl,rfl⟩;exact absurd hb42 zG
  |true =>
   have eo:recOut ys[i]=recB ys[i]:=by simp [recOut,e]
   rw [eo]
   by_cases h0:zs.length=0
   ·have hyes:=hsn.2 ⟨e,fun h=>absurd h zD⟩
    refine S.frzO zB fun g hs hm hb5=>?_;replace hg:=Fr.sub_trans hg hs;replace hR:=melted hR hm
    try replace ha:=ha.mono hs
    try replace hp12:=hp12.mono hs
    try replace hr12:=hr12.mono hs
    try replace ha3_12:=ha3_12.mono hs
    try replace ha5_12:=ha5_12.mono hs
    try replace ha6_12:=ha6_12.mono hs
    replace hm1:=meltTrans hm1 hm;clear hs hm;have hg_q:=hg;have hR_q:=hR
    try have ha_q:=ha
    try have hp12_q:=hp12
    try have hr12_q:=hr12
    try have ha3_12_q:=ha3_12
    try have ha5_12_q:=ha5_12
    try have ha6_12_q:=ha6_12
    try have hb5_q:=hb5
    refine S.frzH (B:=RowP r tR 158 5 b zs) zB fun gq hsq ⟨mq,hmq,hsmq⟩ hbq=>?_;replace hg:=Fr.sub_trans hg hsq;replace hR:=backR hR hbq
    try replace ha:=ha.mono hsq
    try replace hp12:=hp12.mono hsq
    try replace hr12:=hr12.mono hsq
    try replace ha3_12:=ha3_12.mono hsq
    try replace ha5_12:=ha5_12.mono hsq
    try replace ha6_12:=ha6_12.mono hsq
    try replace hb5:=hb5.mono hsq
    obtain ⟨qa,qc,hqat,hqar⟩:=RowP.read hg hsmq hmq;refine S.regionD (L:=.range 24) F.mixed zC ?_;refine zz 2 ?_;refine OD.sT 20 rfl (by simp [recErr,e]) ?_;refine zz 7 ?_;refine OD.sT 27 rfl (by exact decide_eq_true zD) ?_;refine OD.q 14 rfl<|OD.callP0 (.p rfl) zC rfl zC rfl rfl (smust_c _) (fun ch η' w hX hW=>by (exact absurd hX.1 zG)) ?_;rintro _ _ ⟨hb42,rfl,rfl⟩;refine ODx.nil<|S.back hbq ?_;replace hg:=hg_q;replace hR:=hR_q
    try replace ha:=ha_q
    try replace hp12:=hp12_q
    try replace hr12:=hr12_q
    try replace ha3_12:=ha3_12_q
    try replace ha5_12:=ha5_12_q
    try replace ha6_12:=ha6_12_q
    try replace hb5:=hb5_q
    clear hg_q hR_q;refine S.open (A:=RowP r tR 158 5 b zs) zB (fun m x=>x) fun p=>?_;simp only [List.cons_append,List.nil_append];refine S.factS (B:=EachP (ItO r 5) p.2 zs) zB (fun _ z=>EachP.len z) fun hcl=>?_;have hpl:p.2.length≤100000000000:=by omega
    have hg_o:=hg;have hR_o:=hR
    try have ha_o:=ha
    try have hp12_o:=hp12
    try have hr12_o:=hr12
    try have ha3_12_o:=ha3_12
    try have ha5_12_o:=ha5_12
    try have ha6_12_o:=ha6_12
    try have hb5_o:=hb5
    refine S.frzH (B:=obj b tR [.slice p.1.1 zs.length p.1.2]) zB fun go hso ⟨mo,hmo,hsmo⟩ hbo=>?_;replace hg:=Fr.sub_trans hg hso;replace hR:=backR hR hbo
    try replace ha:=ha.mono hso
    try replace hp12:=hp12.mono hso
    try replace hr12:=hr12.mono hso
    try replace ha3_12:=ha3_12.mono hso
    try replace ha5_12:=ha5_12.mono hso
    try replace ha6_12:=ha6_12.mono hso
    try replace hb5:=hb5.mono hso
    have hato:=(obj_at hmo).mono hsmo;refine S.regionD (L:=.range 13) F.mixed zC ?_;refine zz 5 ?_;refine .quiet (.p rfl) rfl (fun _=>.loadAgg isAgg74 zC rfl hb5) ?_;refine OD.q 1 rfl<|.quiet (.p rfl) rfl (fun _=>.build (cs:=[_,_,_,_,_,_,_,_]) underlying158 rfl rfl rfl rfl rfl)<|OD.litP (T:=(Rp.cells 8)) (ys:=[_]) (.p rfl) zC underlying146 elem158 zE rfl rfl ⟨⟨rfl,rfl,by first|(simp;done)|(intro v hv;simp [Value.cells] at hv;rcases hv with rfl|rfl<;>rfl)|(refine List.forall_mem_cons.2 ⟨rfl,?_⟩;repeat (first|exact (fun _ h=>absurd h List.not_mem_nil)|refine List.forall_mem_cons.2 ⟨rfl,?_⟩))⟩,trivial⟩ zE (fun a51 c51=>?_);refine OD.appendO (.p rfl) zC (T:=(Rp.cells 8)) underlying146 elem158 zE rfl rfl zB zB zI zI (fun a52 c52=>?_);refine zz 2 ?_;refine OD.last1 rfl zC (fun _ hw=>hbo hw) flat146 rfl rfl zU zB (by first|(simp;done)|(simp;omega)) ?_;replace hg:=hg_o;replace hR:=hR_o
    try replace ha:=ha_o
    try replace hp12:=hp12_o
    try replace hr12:=hr12_o
    try replace ha3_12:=ha3_12_o
    try replace ha5_12:=ha5_12_o
    try replace ha6_12:=ha6_12_o
    try replace hb5:=hb5_o
    clear hg_o hR_o;refine zz 5 ?_;refine S.ownIs (T:=Rp.cells 8) (e:=158) (v' :=.slice a52 (zs++[ys[i]]).length c52) (xs' :=p.2++[[.string (str ys[i].1),.int .i64 ys[i].2.1,.int .i64 ys[i].2.2.1,.slice ra3_12 ys[i].2.2.2.1.length rc3_12,.bool ys[i].2.2.2.2.1,.slice ra5_12 ys[i].2.2.2.2.2.1.length rc5_12,.slice ra6_12 ys[i].2.2.2.2.2.2.1.length rc6_12,.slice a16 (recB ys[i]).length c16]]) zB (by simp [hcl]) (by simp [Value.cells]) ?_;refine S.objIs (b:=b) (cs' :=[.slice a52 (zs++[ys[i]]).length c52]) zB (by simp [hcl]) ?_;refine S.conv (B:=OwnP Rp.u8 5 (.slice a16 (recB ys[i]).length c16) (recB ys[i])) (C:=ItO r 5 [.string (str ys[i].1),.int .i64 ys[i].2.1,.int .i64 ys[i].2.2.1,.slice ra3_12 ys[i].2.2.2.1.length rc3_12,.bool ys[i].2.2.2.2.1,.slice ra5_12 ys[i].2.2.2.2.2.1.length rc5_12,.slice ra6_12 ys[i].2.2.2.2.2.2.1.length rc6_12,.slice a16 (recB ys[i]).length c16] ys[i]) zB (fun m x=>⟨m,Fr.sub_refl _,[.string (str ys[i].1),.int .i64 ys[i].2.1,.int .i64 ys[i].2.2.1,.slice ra3_12 ys[i].2.2.2.1.length rc3_12,.bool ys[i].2.2.2.2.1,.slice ra5_12 ys[i].2.2.2.2.2.1.length rc5_12,.slice ra6_12 ys[i].2.2.2.2.2.2.1.length rc6_12],a16,c16,rfl,hrr12,x⟩) ?_
    refine S.each (A:=ItO r 5) (bs:=p.2) (b:=[.string (str ys[i].1),.int .i64 ys[i].2.1,.int .i64 ys[i].2.2.1,.slice ra3_12 ys[i].2.2.2.1.length rc3_12,.bool ys[i].2.2.2.2.1,.slice ra5_12 ys[i].2.2.2.2.2.1.length rc5_12,.slice ra6_12 ys[i].2.2.2.2.2.2.1.length rc6_12,.slice a16 (recB ys[i]).length c16]) (a:=ys[i]) zB zB ?_;refine S.foldS (A:=RowP r tR 158 5 b (zs++[ys[i]])) (bs:=[obj b tR [.slice a52 (zs++[ys[i]]).length c52],OwnP (Rp.cells 8) 158 (.slice a52 (zs++[ys[i]]).length c52) (p.2++[[.string (str ys[i].1),.int .i64 ys[i].2.1,.int .i64 ys[i].2.2.1,.slice ra3_12 ys[i].2.2.2.1.length rc3_12,.bool ys[i].2.2.2.2.1,.slice ra5_12 ys[i].2.2.2.2.2.1.length rc5_12,.slice ra6_12 ys[i].2.2.2.2.2.2.1.length rc6_12,.slice a16 (recB ys[i]).length c16]]),EachP (ItO r 5) (p.2++[[.string (str ys[i].1),.int .i64 ys[i].2.1,.int .i64 ys[i].2.2.1,.slice ra3_12 ys[i].2.2.2.1.length rc3_12,.bool ys[i].2.2.2.2.1,.slice ra5_12 ys[i].2.2.2.2.2.1.length rc5_12,.slice ra6_12 ys[i].2.2.2.2.2.2.1.length rc6_12,.slice a16 (recB ys[i]).length c16]]) (zs++[ys[i]])]) zK (fun m x=>⟨((a52,c52),p.2++[[.string (str ys[i].1),.int .i64 ys[i].2.1,.int .i64 ys[i].2.2.1,.slice ra3_12 ys[i].2.2.2.1.length rc3_12,.bool ys[i].2.2.2.2.1,.slice ra5_12 ys[i].2.2.2.2.2.1.length rc5_12,.slice ra6_12 ys[i].2.2.2.2.2.2.1.length rc6_12,.slice a16 (recB ys[i]).length c16]]),x⟩) ?_;rw [← htk];exact S.melt hm1 (S.pw (ih (i+1) (by exact ⟨by omega,hyes⟩) zD))
   ·by_cases hk:ys[i].1=(zs[0]'zD).1
    ·have hyes:=hsn.2 ⟨e,fun h=>hk⟩
     refine S.frzO zB fun g hs hm hb5=>?_;replace hg:=Fr.sub_trans hg hs;replace hR:=melted hR hm
     try replace ha:=ha.mono hs
     try replace hp12:=hp12.mono hs
     try replace hr12:=hr12.mono hs
     try replace ha3_12:=ha3_12.mono hs
     try replace ha5_12:=ha5_12.mono hs
     try replace ha6_12:=ha6_12.mono hs
     replace hm1:=meltTrans hm1 hm;clear hs hm;have hg_q:=hg;have hR_q:=hR
     try have ha_q:=ha
     try have hp12_q:=hp12
     try have hr12_q:=hr12
     try have ha3_12_q:=ha3_12
     try have ha5_12_q:=ha5_12
     try have ha6_12_q:=ha6_12
     try have hb5_q:=hb5
     refine S.frzH (B:=RowP r tR 158 5 b zs) zB fun gq hsq ⟨mq,hmq,hsmq⟩ hbq=>?_;replace hg:=Fr.sub_trans hg hsq;replace hR:=backR hR hbq
     try replace ha:=ha.mono hsq
     try replace hp12:=hp12.mono hsq
     try replace hr12:=hr12.mono hsq
     try replace ha3_12:=ha3_12.mono hsq
     try replace ha5_12:=ha5_12.mono hsq
     try replace ha6_12:=ha6_12.mono hsq
     try replace hb5:=hb5.mono hsq
     obtain ⟨qa,qc,hqat,hqar⟩:=RowP.read hg hsmq hmq;refine S.regionD (L:=.range 24) F.mixed zC ?_;refine zz 2 ?_;refine OD.sT 20 rfl (by simp [recErr,e]) ?_;refine zz 7 ?_;refine OD.sF 27 rfl (by exact decide_eq_false zD) ?_;refine zz 5 ?_;refine OD.ia (.g rfl rfl) underlying146 size158 rfl rfl (show _=(((0):Nat):Int) by omega) zA (h:=fun p33 cs33 hp33 hr33=>?_);obtain ⟨ia3_33,ia5_33,ia6_33,ia7_33,ic3_33,ic5_33,ic6_33,ic7_33,rfl,hr1_33,ha7_33⟩:=ItRp.sh hr33;refine zz 5 ?_;refine .quiet (.g rfl rfl) rfl (fun _=>.eqlS rfl rfl)<|OD.sT 39 rfl (by simp [hk]) ?_;refine OD.q 2 rfl<|OD.callP0 (.p rfl) zC rfl zC rfl rfl (smust_c _) (fun ch η' w hX hW=>by (exact absurd hX.1 zG)) ?_;rintro _ _ ⟨hb42,rfl,rfl⟩;refine ODx.nil<|S.back hbq ?_;replace hg:=hg_q;replace hR:=hR_q
     try replace ha:=ha_q
     try replace hp12:=hp12_q
     try replace hr12:=hr12_q
     try replace ha3_12:=ha3_12_q
     try replace ha5_12:=ha5_12_q
     try replace ha6_12:=ha6_12_q
     try replace hb5:=hb5_q
     clear hg_q hR_q;refine S.open (A:=RowP r tR 158 5 b zs) zB (fun m x=>x) fun p=>?_;simp only [List.cons_append,List.nil_append];refine S.factS (B:=EachP (ItO r 5) p.2 zs) zB (fun _ z=>EachP.len z) fun hcl=>?_;have hpl:p.2.length≤100000000000:=by omega
     have hg_o:=hg;have hR_o:=hR
     try have ha_o:=ha
     try have hp12_o:=hp12
     try have hr12_o:=hr12
     try have ha3_12_o:=ha3_12
     try have ha5_12_o:=ha5_12
     try have ha6_12_o:=ha6_12
     try have hb5_o:=hb5
     refine S.frzH (B:=obj b tR [.slice p.1.1 zs.length p.1.2]) zB fun go hso ⟨mo,hmo,hsmo⟩ hbo=>?_;replace hg:=Fr.sub_trans hg hso;replace hR:=backR hR hbo
     try replace ha:=ha.mono hso
     try replace hp12:=hp12.mono hso
     try replace hr12:=hr12.mono hso
     try replace ha3_12:=ha3_12.mono hso
     try replace ha5_12:=ha5_12.mono hso
     try replace ha6_12:=ha6_12.mono hso
     try replace hb5:=hb5.mono hso
     have hato:=(obj_at hmo).mono hsmo;refine S.regionD (L:=.range 13) F.mixed zC ?_;refine zz 5 ?_;refine .quiet (.p rfl) rfl (fun _=>.loadAgg isAgg74 zC rfl hb5) ?_;refine OD.q 1 rfl<|.quiet (.p rfl) rfl (fun _=>.build (cs:=[_,_,_,_,_,_,_,_]) underlying158 rfl rfl rfl rfl rfl)<|OD.litP (T:=(Rp.cells 8)) (ys:=[_]) (.p rfl) zC underlying146 elem158 zE rfl rfl ⟨⟨rfl,rfl,by first|(simp;done)|(intro v hv;simp [Value.cells] at hv;rcases hv with rfl|rfl<;>rfl)|(refine List.forall_mem_cons.2 ⟨rfl,?_⟩;repeat (first|exact (fun _ h=>absurd h List.not_mem_nil)|refine List.forall_mem_cons.2 ⟨rfl,?_⟩))⟩,trivial⟩ zE (fun a51 c51=>?_);refine OD.appendO (.p rfl) zC (T:=(Rp.cells 8)) underlying146 elem158 zE rfl rfl zB zB zI zI (fun a52 c52=>?_);refine zz 2 ?_;refine OD.last1 rfl zC (fun _ hw=>hbo hw) flat146 rfl rfl zU zB (by first|(simp;done)|(simp;omega)) ?_;replace hg:=hg_o;replace hR:=hR_o
     try replace ha:=ha_o
     try replace hp12:=hp12_o
     try replace hr12:=hr12_o
     try replace ha3_12:=ha3_12_o
     try replace ha5_12:=ha5_12_o
     try replace ha6_12:=ha6_12_o
     try replace hb5:=hb5_o
     clear hg_o hR_o;refine zz 5 ?_;refine S.ownIs (T:=Rp.cells 8) (e:=158) (v' :=.slice a52 (zs++[ys[i]]).length c52) (xs' :=p.2++[[.string (str ys[i].1),.int .i64 ys[i].2.1,.int .i64 ys[i].2.2.1,.slice ra3_12 ys[i].2.2.2.1.length rc3_12,.bool ys[i].2.2.2.2.1,.slice ra5_12 ys[i].2.2.2.2.2.1.length rc5_12,.slice ra6_12 ys[i].2.2.2.2.2.2.1.length rc6_12,.slice a16 (recB ys[i]).length c16]]) zB (by simp [hcl]) (by simp [Value.cells]) ?_;refine S.objIs (b:=b) (cs' :=[.slice a52 (zs++[ys[i]]).length c52]) zB (by simp [hcl]) ?_;refine S.conv (B:=OwnP Rp.u8 5 (.slice a16 (recB ys[i]).length c16) (recB ys[i])) (C:=ItO r 5 [.string (str ys[i].1),.int .i64 ys[i].2.1,.int .i64 ys[i].2.2.1,.slice ra3_12 ys[i].2.2.2.1.length rc3_12,.bool ys[i].2.2.2.2.1,.slice ra5_12 ys[i].2.2.2.2.2.1.length rc5_12,.slice ra6_12 ys[i].2.2.2.2.2.2.1.length rc6_12,.slice a16 (recB ys[i]).length c16] ys[i]) zB (fun m x=>⟨m,Fr.sub_refl _,[.string (str ys[i].1),.int .i64 ys[i].2.1,.int .i64 ys[i].2.2.1,.slice ra3_12 ys[i].2.2.2.1.length rc3_12,.bool ys[i].2.2.2.2.1,.slice ra5_12 ys[i].2.2.2.2.2.1.length rc5_12,.slice ra6_12 ys[i].2.2.2.2.2.2.1.length rc6_12],a16,c16,rfl,hrr12,x⟩) ?_
     refine S.each (A:=ItO r 5) (bs:=p.2) (b:=[.string (str ys[i].1),.int .i64 ys[i].2.1,.int .i64 ys[i].2.2.1,.slice ra3_12 ys[i].2.2.2.1.length rc3_12,.bool ys[i].2.2.2.2.1,.slice ra5_12 ys[i].2.2.2.2.2.1.length rc5_12,.slice ra6_12 ys[i].2.2.2.2.2.2.1.length rc6_12,.slice a16 (recB ys[i]).length c16]) (a:=ys[i]) zB zB ?_;refine S.foldS (A:=RowP r tR 158 5 b (zs++[ys[i]])) (bs:=[obj b tR [.slice a52 (zs++[ys[i]]).length c52],OwnP (Rp.cells 8) 158 (.slice a52 (zs++[ys[i]]).length c52) (p.2++[[.string (str ys[i].1),.int .i64 ys[i].2.1,.int .i64 ys[i].2.2.1,.slice ra3_12 ys[i].2.2.2.1.length rc3_12,.bool ys[i].2.2.2.2.1,.slice ra5_12 ys[i].2.2.2.2.2.1.length rc5_12,.slice ra6_12 ys[i].2.2.2.2.2.2.1.length rc6_12,.slice a16 (recB ys[i]).length c16]]),EachP (ItO r 5) (p.2++[[.string (str ys[i].1),.int .i64 ys[i].2.1,.int .i64 ys[i].2.2.1,.slice ra3_12 ys[i].2.2.2.1.length rc3_12,.bool ys[i].2.2.2.2.1,.slice ra5_12 ys[i].2.2.2.2.2.1.length rc5_12,.slice ra6_12 ys[i].2.2.2.2.2.2.1.length rc6_12,.slice a16 (recB ys[i]).length c16]]) (zs++[ys[i]])]) zK (fun m x=>⟨((a52,c52),p.2++[[.string (str ys[i].1),.int .i64 ys[i].2.1,.int .i64 ys[i].2.2.1,.slice ra3_12 ys[i].2.2.2.1.length rc3_12,.bool ys[i].2.2.2.2.1,.slice ra5_12 ys[i].2.2.2.2.2.1.length rc5_12,.slice ra6_12 ys[i].2.2.2.2.2.2.1.length rc6_12,.slice a16 (recB ys[i]).length c16]]),x⟩) ?_;rw [← htk];exact S.melt hm1 (S.pw (ih (i+1) (by exact ⟨by omega,hyes⟩) zD))
    ·have hno:oneK (xs++ys)=false:=hbad (by rw [Bool.eq_false_iff];intro q;exact hk ((hsn.1 q).2 zD))
     refine S.frzO zB fun g hs hm hb5=>?_;replace hg:=Fr.sub_trans hg hs;replace hR:=melted hR hm
     try replace ha:=ha.mono hs
     try replace hp12:=hp12.mono hs
     try replace hr12:=hr12.mono hs
     try replace ha3_12:=ha3_12.mono hs
     try replace ha5_12:=ha5_12.mono hs
     try replace ha6_12:=ha6_12.mono hs
     replace hm1:=meltTrans hm1 hm;clear hs hm;have hg_q:=hg;have hR_q:=hR
     try have ha_q:=ha
     try have hp12_q:=hp12
     try have hr12_q:=hr12
     try have ha3_12_q:=ha3_12
     try have ha5_12_q:=ha5_12
     try have ha6_12_q:=ha6_12
     try have hb5_q:=hb5
     refine S.frzH (B:=RowP r tR 158 5 b zs) zB fun gq hsq ⟨mq,hmq,hsmq⟩ hbq=>?_;replace hg:=Fr.sub_trans hg hsq;replace hR:=backR hR hbq
     try replace ha:=ha.mono hsq
     try replace hp12:=hp12.mono hsq
     try replace hr12:=hr12.mono hsq
     try replace ha3_12:=ha3_12.mono hsq
     try replace ha5_12:=ha5_12.mono hsq
     try replace ha6_12:=ha6_12.mono hsq
     try replace hb5:=hb5.mono hsq
     obtain ⟨qa,qc,hqat,hqar⟩:=RowP.read hg hsmq hmq;refine S.regionD (L:=.range 24) F.mixed zC ?_;refine zz 2 ?_;refine OD.sT 20 rfl (by simp [recErr,e]) ?_;refine zz 7 ?_;refine OD.sF 27 rfl (by exact decide_eq_false zD) ?_;refine zz 5 ?_;refine OD.ia (.g rfl rfl) underlying146 size158 rfl rfl (show _=(((0):Nat):Int) by omega) zA (h:=fun p33 cs33 hp33 hr33=>?_);obtain ⟨ia3_33,ia5_33,ia6_33,ia7_33,ic3_33,ic5_33,ic6_33,ic7_33,rfl,hr1_33,ha7_33⟩:=ItRp.sh hr33;refine zz 5 ?_;refine .quiet (.g rfl rfl) rfl (fun _=>.eqlS rfl rfl)<|OD.sF 39 rfl (by simp;exact fun q=>hk q.symm) ?_;refine OD.q 2 rfl<|OD.callP0 (.p rfl) zC rfl zC rfl rfl (smust_c _) (fun ch η' w hX hW=>by (obtain ⟨hb,rfl,rfl⟩:=hX;exact hR _ _ w ⟨hno,rfl,rfl⟩ hW.drop_all)) ?_;rintro _ _ ⟨hb42,rfl,rfl⟩;exact absurd hb42 zG
 ·clear ih
  have hi:i=ys.length:=by omega
  subst hi;rw [List.take_length] at hx2 ⊢;refine S.exit rfl<|S.end0 results104 fun w hw=>Holds.end_ hR hw ?_;exact pk ⟨hx2,rfl,rfl⟩
theorem indexIt_c {r:Fr} {va:Value} {xs:List RecT} {f:FuncId} {first cap:Array Value} (ha:Arr ItRp r va xs) (hc:callable prog f=true) (q:RecT→Bool)
  (con:∀ cs x,x∈xs→ItRp.rel r cs x→Con prog f (first++#[.agg cs.toArray]++cap) r [] (Ret fun v η=>v=.bool (q x)∧η=[])) :
  Con prog 323 #[va,.func (.func f) first cap] r [] (Ret fun v η=>∃ k:Int,v=.int .i64 k∧(0≤k↔xs.any q=true)∧η=[]):=by
 have har:=ha;refine Con.of (n:=19) [va,.func (.func f) first cap] rfl func323 rfl rfl rfl fun g hg R hR=>?_;have ha:=ha.mono hg;have hbd:=ha.bound;obtain ⟨a1,c1,rfl⟩:=ha.shape;refine zz 12 ?_;refine S.loopK (ι:=Nat) (fun i=>i≤xs.length∧(xs.take i).any q=false) (fun i=>[(8,.int .i64 (i:Int))]) [(0,_),(1,_),(7,_)] (fun i=>[]) (fun i=>xs.length - i) (0) (by exact ⟨by simp,by simp⟩) zq zq rfl fun i hx ih=>?_;have hm1:=meltRefl (g:=g);obtain ⟨hx1,hx2⟩:=hx;refine zz 5 ?_;refine S.cd rfl (fun h9=>?_) fun h9=>?_
 ·have hi:i<xs.length:=by omega
  cases e:q xs[i] with
  |true =>
   have hy:xs.any q=true:=List.any_eq_true.2 ⟨xs[i],List.getElem_mem hi,e⟩;clear ih;refine zz 13 ?_;refine O.iy har hg (h:=fun p14 cs14 hp14 hrr14=>?_);have hr14:=Rp.rel.mono hrr14 hg;obtain ⟨ia3_14,ia5_14,ia6_14,ia7_14,ic3_14,ic5_14,ic6_14,ic7_14,rfl,hr1_14,ha7_14⟩:=ItRp.sh hr14;refine O.op (.p rfl) (.loadAgg isAgg158 zC rfl hp14) ?_;refine O.v0 (.p rfl) rfl hc rfl rfl (((con _ _ (List.getElem_mem hi) hrr14).sub hg)) ?_;refine O.sT 16 rfl (by exact e) ?_;refine zz 7 ?_;exact S.rt results323 rfl hR ⟨(i:Int),rfl,⟨fun _=>hy,fun _=>by omega⟩,rfl⟩
  |false =>
   refine zz 13 ?_;refine O.iy har hg (h:=fun p14 cs14 hp14 hrr14=>?_);have hr14:=Rp.rel.mono hrr14 hg;obtain ⟨ia3_14,ia5_14,ia6_14,ia7_14,ic3_14,ic5_14,ic6_14,ic7_14,rfl,hr1_14,ha7_14⟩:=ItRp.sh hr14;refine O.op (.p rfl) (.loadAgg isAgg158 zC rfl hp14) ?_;refine O.v0 (.p rfl) rfl hc rfl rfl (((con _ _ (List.getElem_mem hi) hrr14).sub hg)) ?_;refine O.sF 16 rfl (by exact e) ?_;refine zz 8 ?_;exact S.wk (ih (i+1) (by exact ⟨by omega,by rw [List.take_succ_eq_append_getElem hi,List.any_append,hx2];simp [e]⟩) zD)
 ·clear ih
  have hi:i=xs.length:=by omega
  subst hi;rw [List.take_length] at hx2;refine zz 5 ?_;exact S.rt results323 rfl hR ⟨-1,rfl,⟨fun h=>absurd h zE,fun h=>by rw [hx2] at h;cases h⟩,rfl⟩
theorem containsIt_c {r:Fr} {va:Value} {xs:List RecT} {f:FuncId} {first cap:Array Value} (ha:Arr ItRp r va xs) (hc:callable prog f=true) (q:RecT→Bool)
  (con:∀ cs x,x∈xs→ItRp.rel r cs x→Con prog f (first++#[.agg cs.toArray]++cap) r [] (Ret fun v η=>v=.bool (q x)∧η=[])) (h1:(Value.func (.func f) first cap).oneCell' =true) :
  Con prog 283 #[va,.func (.func f) first cap] r [] (Ret fun v η=>v=.bool (xs.any q)∧η=[]):=by
 refine Con.of (n:=9) [va,.func (.func f) first cap] rfl func283 rfl rfl rfl fun g hg R hR=>?_;refine zz 8 ?_;refine O.call0 (.p rfl) rfl zC rfl rfl (((indexIt_c ha hc q con).sub hg)) ?_;rintro v7 _ ⟨k7,rfl,hk7,rfl⟩;refine zz 3 ?_;exact S.rt results283 rfl hR ⟨congrArg _ (by rw [Bool.eq_iff_iff,decide_eq_true_iff];exact hk7),rfl⟩
theorem under1_c {r:Fr} {b:Nat} {cs ds:List Value} {x y:RecT} (hx:At r ⟨b,0,none⟩ cs) (h:ItRp.rel r cs x) (h' :ItRp.rel r ds y) :
  Con prog 284 (#[]++#[.agg ds.toArray]++#[.pointer (some ⟨b,0,none⟩)]) r [] (Ret fun v η=>v=.bool (decide (cmpR x y≠0) && over y x)∧η=[]):=by
 obtain ⟨xa3,xa5,xa6,xa7,xc3,xc5,xc6,xc7,rfl,hx1,_⟩:=ItRp.sh h;obtain ⟨ya3,ya5,ya6,ya7,yc3,yc5,yc6,yc7,rfl,hy1,_⟩:=ItRp.sh h';refine Con.of (n:=15) [.agg #[.string (str y.1),.int .i64 y.2.1,.int .i64 y.2.2.1,.slice ya3 y.2.2.2.1.length yc3,.bool y.2.2.2.2.1,.slice ya5 y.2.2.2.2.2.1.length yc5,.slice ya6 y.2.2.2.2.2.2.1.length yc6,.slice ya7 (recB y).length yc7],.pointer (some ⟨b,0,none⟩)] rfl func284 rfl rfl rfl fun g hg R hR=>?_;have hx:=hx.mono hg;have h:=h.mono hg;have h' :=h'.mono hg;have hx1:=hx1.mono hg;have hy1:=hy1.mono hg
 by_cases e:cmpR x y=0
 ·
  refine S.seq<|S.region rfl<|O.opE (.p rfl) (.box (cs:=[_,_,_,_,_,_,_,_]) rfl rfl) ?_;rintro _ _ ⟨b2,rfl,rfl⟩;refine zz 4 ?_;refine O.op (.p rfl) (.loadAgg isAgg158 zC rfl hx) ?_;refine zz 1 ?_;refine O.v0 (.p rfl) rfl zC rfl rfl (scompare_c h h') ?_;refine zz 1 ?_;refine O.sF 7 rfl (by simp [e]) ?_;refine zz 9 ?_;exact S.rt results284 rfl hR ⟨by simp [e],rfl⟩
 ·
  refine S.seq<|S.region rfl<|O.opE (.p rfl) (.box (cs:=[_,_,_,_,_,_,_,_]) rfl rfl) ?_;rintro _ _ ⟨b2,rfl,rfl⟩;refine zz 4 ?_;refine O.op (.p rfl) (.loadAgg isAgg158 zC rfl hx) ?_;refine zz 1 ?_;refine O.v0 (.p rfl) rfl zC rfl rfl (scompare_c h h') ?_;refine zz 1 ?_;refine O.sT 7 rfl (by simp [e]) ?_;refine zz 3 ?_;refine O.op (.g rfl rfl) (.fieldAddr fld158x0 rfl)<|O.op (.g rfl rfl) (.loadAgg (cs:=[.string (str x.1),.int .i64 x.2.1,.int .i64 x.2.2.1,.slice xa3 x.2.2.2.1.length xc3,.bool x.2.2.2.2.1,.slice xa5 x.2.2.2.2.2.1.length xc5,.slice xa6 x.2.2.2.2.2.2.1.length xc6]) isAgg74 zC rfl (hx.take 7)) ?_;refine O.v0 (.g rfl rfl) rfl zC rfl rfl (rOver_c hy1 hx1) ?_;refine zz 3 ?_;exact S.rt results284 rfl hR ⟨by simp [e],rfl⟩
theorem sunder_c {r:Fr} {b:Nat} {xs:List RecT} {cs:List Value} {x:RecT} (hrow:RowA r b xs) (h:ItRp.rel r cs x) :
  Con prog 212 #[.pointer (some ⟨b,0,none⟩),.agg cs.toArray] r [] (Ret fun v η=>v=.bool (underR xs x)∧η=[]):=by
 obtain ⟨xa3,xa5,xa6,xa7,xc3,xc5,xc6,xc7,rfl,hx1,_⟩:=ItRp.sh h;obtain ⟨qa,qc,hat,har⟩:=hrow;refine Con.o func212 fun g hg R hR=>?_;have h:=h.mono hg;have hat:=hat.mono hg;have har:=har.mono hg;refine S.seq<|S.region rfl<|O.opE (.p rfl) (.box (cs:=[_,_,_,_,_,_,_,_]) rfl rfl) ?_;rintro _ _ ⟨b3,rfl,rfl⟩;refine zz 3 ?_;refine S.frzO zB fun g hs hm hb3=>?_;replace hg:=Fr.sub_trans hg hs;replace hR:=melted hR hm
 try replace h:=h.mono hs
 try replace hat:=hat.mono hs
 try replace har:=har.mono hs
 clear hs hm;refine zz 3 ?_;refine O.op (.p rfl) (.fieldAddr fld148x0 rfl) ?_;refine zz 2 ?_;refine O.v0 (.p rfl) rfl zC rfl rfl ((containsIt_c har zC (fun y=>decide (cmpR x y≠0) && over y x) (fun cs y hy hr=>under1_c hb3 h hr) rfl)) ?_;refine zz 2 ?_;exact S.rt results212 rfl hR ⟨rfl,rfl⟩
theorem rowOf_c {r:Fr} {va:Value} {xs:List RecT} (ha:Arr RecRp r va xs) (hl:xs.length≤100000000000) :
  Con prog 116 #[va] r [] (RetP (fun v η=>SRight xs∧∃ b,v=.pointer (some ⟨b,0,none⟩)∧η=[RowP r 148 158 5 b xs]) (fun ch η=>¬ SRight xs∧ch=shp∧η=[])):=by
 have har:=ha;refine Con.o func116 fun g hg R hR=>?_;have ha:=ha.mono hg;obtain ⟨a1,c1,rfl⟩:=ha.shape;refine zz 6 ?_;refine O.op (.p rfl) (.build (cs:=[_]) underlying148 rfl rfl rfl rfl rfl)<|O.opE (.p rfl) (.box (cs:=[_]) rfl rfl) ?_;rintro _ _ ⟨b7,rfl,rfl⟩;refine zz 3 ?_;refine S.conv (B:=obj b7 148 [.slice none 0 0]) (C:=RowP r 148 158 5 b7 []) zB (fun m x=>⟨m,Fr.sub_refl _,RowP.nil x⟩) ?_;refine zz 3 ?_;refine O.callPS (.p rfl) rfl zC rfl rfl zB ((sadd_c har rfl (by simpa using hl)).sub hg) (fun ch η' w hX hW=>by (obtain ⟨hb,rfl,rfl⟩:=hX;exact hR _ _ w ⟨fun q=>(by rw [List.nil_append,q.1] at hb;cases hb),rfl,rfl⟩ hW.drop_all)) ?_;rintro _ _ ⟨hone,rfl,rfl⟩;refine O.nil (S.seq (S.seq ?_));rw [List.nil_append] at hone;have hg_q:=hg;have hR_q:=hR
 try have ha_q:=ha
 refine S.frzH (B:=RowP r 148 158 5 b7 xs) zB fun gq hsq ⟨mq,hmq,hsmq⟩ hbq=>?_;replace hg:=Fr.sub_trans hg hsq;replace hR:=backR hR hbq
 try replace ha:=ha.mono hsq
 have hrow:=RowP.read hg hsmq hmq;obtain ⟨qa,qc,hqat,hqar⟩:=id hrow;refine zz 3 ?_;refine O.op (.p rfl) (.fieldAddr fld148x0 rfl) ?_;refine zz 5 ?_;refine S.loopK (ι:=Nat) (fun i=>i≤xs.length∧∀ j (h:j<xs.length),j<i→(∀ h0:0<j,cmpR xs[j-1] xs[j]<0)∧underR xs xs[j]=false) (fun i=>[(16,.int .i64 (i:Int))]) [(3,_),(14,_),(15,_)] (fun i=>[]) (fun i=>xs.length - i) (0) (by exact ⟨by simp,fun j _ h=>absurd h zD⟩) zq zq rfl fun i hx ih=>?_;have hm1:=meltRefl (g:=gq);obtain ⟨hx1,hx2⟩:=hx;refine zz 5 ?_;refine S.cd rfl (fun h17=>?_) fun h17=>?_
 ·have hi:i<xs.length:=by omega
  have hnext:((∀ h0:0<i,cmpR xs[i-1] xs[i]<0)∧underR xs xs[i]=false)→∀ j (h:j<xs.length),j<i+1→(∀ h0:0<j,cmpR xs[j-1] xs[j]<0)∧underR xs xs[j]=false:=by
   intro q j h hj
   by_cases e:j=i
   ·subst e;exact q
   ·exact hx2 j h zD
  refine zz 6 ?_;refine O.ia (.p rfl) underlying146 size158 rfl rfl rfl zA (h:=fun p19 cs19 hp19 hr19=>?_);obtain ⟨ia3_19,ia5_19,ia6_19,ia7_19,ic3_19,ic5_19,ic6_19,ic7_19,rfl,hr1_19,ha7_19⟩:=ItRp.sh hr19;refine O.op (.p rfl) (.loadAgg isAgg158 zC rfl hp19) ?_;refine O.opE (.p rfl) (.alloc (cs:=[.string ⟨#[]⟩,.int .i64 0,.int .i64 0,.slice none 0 0,.bool false,.slice none 0 0,.slice none 0 0,.slice none 0 0]) zeroValue158 rfl) ?_;rintro _ _ ⟨b5,rfl,rfl⟩;refine zz 2 ?_;refine O.nil<|S.objIs (b:=b5) (cs' :=[.string (str xs[i].1),.int .i64 xs[i].2.1,.int .i64 xs[i].2.2.1,.slice ia3_19 xs[i].2.2.2.1.length ic3_19,.bool xs[i].2.2.2.2.1,.slice ia5_19 xs[i].2.2.2.2.2.1.length ic5_19,.slice ia6_19 xs[i].2.2.2.2.2.2.1.length ic6_19,.slice ia7_19 (recB xs[i]).length ic7_19]) zB rfl ?_;refine S.frzO zB fun g hs hm hb5=>?_;replace hg:=Fr.sub_trans hg hs;replace hR:=melted hR hm
  try replace ha:=ha.mono hs
  try replace hqat:=hqat.mono hs
  try replace hqar:=hqar.mono hs
  try replace hrow:=hrow.mono hs
  try replace hp19:=hp19.mono hs
  try replace ha7_19:=ha7_19.mono hs
  try replace hr19:=hr19.mono hs
  try replace hr1_19:=hr1_19.mono hs
  replace hm1:=meltTrans hm1 hm;clear hs hm
  by_cases h0:i=0
  ·cases eu:underR xs xs[i] with
   |true =>
    have hno:¬ SRight xs:=fun q=>by have:=(q.2 i hi).2;rw [eu] at this;cases this
    clear ih;refine S.regionD (L:=.range 22) F.mixed zC ?_;refine zz 2 ?_;refine OD.sT 22 rfl (by exact decide_eq_true zD) ?_;refine OD.q 15 rfl<|.quiet (.g rfl rfl) rfl (fun _=>.loadAgg isAgg158 zC rfl hb5) ?_;refine OD.v0 (.g rfl rfl) zC rfl zC rfl rfl (sunder_c hrow hr19) ?_;refine OD.sT 39 rfl (by exact eu) ?_;refine zz 2 ?_;refine OD.callP0 (.p rfl) zC rfl zC rfl rfl (smust_c _) (fun ch η' w hX hW=>by (obtain ⟨hb,rfl,rfl⟩:=hX;exact hR _ _ w ⟨hno,rfl,rfl⟩ hW.drop_all)) ?_;rintro _ _ ⟨hb42,rfl,rfl⟩;exact absurd hb42 zG
   |false =>
    refine S.regionD (L:=.range 22) F.mixed zC ?_;refine zz 2 ?_;refine OD.sT 22 rfl (by exact decide_eq_true zD) ?_;refine OD.q 15 rfl<|.quiet (.g rfl rfl) rfl (fun _=>.loadAgg isAgg158 zC rfl hb5) ?_;refine OD.v0 (.g rfl rfl) zC rfl zC rfl rfl (sunder_c hrow hr19) ?_;refine OD.sF 39 rfl (by exact eu) ?_;refine zz 2 ?_;refine OD.callP0 (.p rfl) zC rfl zC rfl rfl (smust_c _) (fun ch η' w hX hW=>by (exact absurd hX.1 zG)) ?_;rintro _ _ ⟨hb42,rfl,rfl⟩;refine zz 6 ?_;exact S.melt hm1 (S.wk (ih (i+1) (by exact ⟨by omega,hnext ⟨fun h1=>absurd h1 zD,eu⟩⟩) zD))
  ·have hi1:i - 1<xs.length:=by omega
   by_cases hc:cmpR xs[i-1] xs[i]<0
   ·cases eu:underR xs xs[i] with
    |true =>
     have hno:¬ SRight xs:=fun q=>by have:=(q.2 i hi).2;rw [eu] at this;cases this
     clear ih;refine S.regionD (L:=.range 22) F.mixed zC ?_;refine zz 2 ?_;refine OD.sF 22 rfl (by exact decide_eq_false zD) ?_;refine zz 7 ?_;refine OD.ia (.g rfl rfl) underlying146 size158 rfl rfl (show _=(((i - 1):Nat):Int) by omega) zA (h:=fun p30 cs30 hp30 hr30=>?_);obtain ⟨ia3_30,ia5_30,ia6_30,ia7_30,ic3_30,ic5_30,ic6_30,ic7_30,rfl,hr1_30,ha7_30⟩:=ItRp.sh hr30;refine .quiet (.g rfl rfl) rfl (fun _=>.loadAgg isAgg158 zC rfl hp30) ?_;refine .quiet (.g rfl rfl) rfl (fun _=>.loadAgg isAgg158 zC rfl hb5) ?_;refine OD.v0 (.g rfl rfl) zC rfl zC rfl rfl (scompare_c hr30 hr19) ?_;refine zz 1 ?_;refine OD.sT 34 rfl (by exact decide_eq_true hc) ?_;refine OD.q 3 rfl<|.quiet (.g rfl rfl) rfl (fun _=>.loadAgg isAgg158 zC rfl hb5) ?_;refine OD.v0 (.g rfl rfl) zC rfl zC rfl rfl (sunder_c hrow hr19) ?_;refine OD.sT 39 rfl (by exact eu) ?_;refine zz 2 ?_;refine OD.callP0 (.p rfl) zC rfl zC rfl rfl (smust_c _) (fun ch η' w hX hW=>by (obtain ⟨hb,rfl,rfl⟩:=hX;exact hR _ _ w ⟨hno,rfl,rfl⟩ hW.drop_all)) ?_;rintro _ _ ⟨hb42,rfl,rfl⟩;exact absurd hb42 zG
    |false =>
     refine S.regionD (L:=.range 22) F.mixed zC ?_;refine zz 2 ?_;refine OD.sF 22 rfl (by exact decide_eq_false zD) ?_;refine zz 7 ?_;refine OD.ia (.g rfl rfl) underlying146 size158 rfl rfl (show _=(((i - 1):Nat):Int) by omega) zA (h:=fun p30 cs30 hp30 hr30=>?_);obtain ⟨ia3_30,ia5_30,ia6_30,ia7_30,ic3_30,ic5_30,ic6_30,ic7_30,rfl,hr1_30,ha7_30⟩:=ItRp.sh hr30;refine .quiet (.g rfl rfl) rfl (fun _=>.loadAgg isAgg158 zC rfl hp30) ?_;refine .quiet (.g rfl rfl) rfl (fun _=>.loadAgg isAgg158 zC rfl hb5) ?_;refine OD.v0 (.g rfl rfl) zC rfl zC rfl rfl (scompare_c hr30 hr19) ?_;refine zz 1 ?_;refine OD.sT 34 rfl (by exact decide_eq_true hc) ?_;refine OD.q 3 rfl<|.quiet (.g rfl rfl) rfl (fun _=>.loadAgg isAgg158 zC rfl hb5) ?_;refine OD.v0 (.g rfl rfl) zC rfl zC rfl rfl (sunder_c hrow hr19) ?_;refine OD.sF 39 rfl (by exact eu) ?_;refine zz 2 ?_;refine OD.callP0 (.p rfl) zC rfl zC rfl rfl (smust_c _) (fun ch η' w hX hW=>by (exact absurd hX.1 zG)) ?_;rintro _ _ ⟨hb42,rfl,rfl⟩;refine zz 6 ?_;exact S.melt hm1 (S.wk (ih (i+1) (by exact ⟨by omega,hnext ⟨fun _=>hc,eu⟩⟩) zD))
   ·have hno:¬ SRight xs:=fun q=>hc ((q.2 i hi).1 zD)
    clear ih;refine S.regionD (L:=.range 22) F.mixed zC ?_;refine zz 2 ?_;refine OD.sF 22 rfl (by exact decide_eq_false zD) ?_;refine zz 7 ?_;refine OD.ia (.g rfl rfl) underlying146 size158 rfl rfl (show _=(((i - 1):Nat):Int) by omega) zA (h:=fun p30 cs30 hp30 hr30=>?_);obtain ⟨ia3_30,ia5_30,ia6_30,ia7_30,ic3_30,ic5_30,ic6_30,ic7_30,rfl,hr1_30,ha7_30⟩:=ItRp.sh hr30;refine .quiet (.g rfl rfl) rfl (fun _=>.loadAgg isAgg158 zC rfl hp30) ?_;refine .quiet (.g rfl rfl) rfl (fun _=>.loadAgg isAgg158 zC rfl hb5) ?_;refine OD.v0 (.g rfl rfl) zC rfl zC rfl rfl (scompare_c hr30 hr19) ?_;refine zz 1 ?_;refine OD.sF 34 rfl (by exact decide_eq_false hc) ?_;refine OD.q 7 rfl<|OD.callP0 (.p rfl) zC rfl zC rfl rfl (smust_c _) (fun ch η' w hX hW=>by (obtain ⟨hb,rfl,rfl⟩:=hX;exact hR _ _ w ⟨hno,rfl,rfl⟩ hW.drop_all)) ?_;rintro _ _ ⟨hb42,rfl,rfl⟩;exact absurd hb42 zG
 ·clear ih
  have hi:i=xs.length:=by omega
  subst hi;refine S.exit rfl<|S.seq<|S.back hbq ?_;replace hg:=hg_q;replace hR:=hR_q
  try replace ha:=ha_q
  clear hg_q hR_q;refine zz 4 ?_;exact S.rt results116 rfl hR ⟨⟨hone,fun j h=>hx2 j h h⟩,b7,rfl,rfl⟩
end Go.Proofs.YtodhbhanmdfdeaaGreat
