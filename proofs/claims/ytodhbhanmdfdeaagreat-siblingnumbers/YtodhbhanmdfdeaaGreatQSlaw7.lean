/- Texts of this proof. -/
import Derived.Test.YtodhbhanmdfdeaaGreatQCopyrec
import Derived.Test.YtodhbhanmdfdeaaGreatQSpJoin5
open Go Go.Sp Go.Proofs.Tryz
set_option maxRecDepth 100000
set_option maxHeartbeats 1000000
attribute [local irreducible] obj Own OwnP
namespace Go.Proofs.YtodhbhanmdfdeaaGreat
theorem jGetY {l:List RecT} (h:oneK l=true):joinO l=joinL l∧joinE l=0:=by
 have:jGet l=some (joinL l):=by rw [jGet,if_pos h]
 exact ⟨by simp [joinO,this],by simp [joinE,this]⟩
theorem jGetN {l:List RecT} (h:¬ oneK l=true):joinO l=[]∧joinE l=4:=by
 have:jGet l=none:=by rw [jGet,if_neg h]
 exact ⟨by simp [joinO,this],by simp [joinE,this]⟩
theorem addK {xs:List RecT} {i:Nat} (hi:i<xs.length):xs.take i++[xs[i]]=xs.take (i+1):=(List.take_succ_eq_append_getElem hi).symm
theorem r9join_c {r:Fr} {va:Value} {ss:List (List RecT)} (ha:Arr (Rp.slice RecRp) r va ss) (hl:ss.flatten.length≤100000000000) :
  Con prog 39 #[va] r [] (Ret fun v η=>∃ a c,v=.tuple #[.slice a (joinO ss.flatten).length c,.int .i64 (joinE ss.flatten)]∧η=[ListP (RecG tys) 74 (.slice a (joinO ss.flatten).length c) (joinO ss.flatten)]):=by
 have har:=ha;refine Con.o func39 fun g hg R hR=>?_;have ha:=ha.mono hg;have hbd:=ha.bound;obtain ⟨a1,c1,rfl⟩:=ha.shape;refine zz 15 ?_;refine S.addNil (T:=Rp.on r RecRp) (e:=74) ?_;refine S.loopK2 (ι:=Nat) (κ:=Option Addr × Nat) (fun i s=>i≤ss.length) (fun i s=>[(5,.int .i64 (i:Int)),(4,.slice s.1 (ss.take i).flatten.length s.2)]) [(0,_)] (fun i s=>[OwnP (Rp.on r RecRp) 74 (.slice s.1 (ss.take i).flatten.length s.2) (ss.take i).flatten]) (fun i s=>ss.length - i) (0) ((none,0)) zG zq zq rfl fun i s hx ih=>?_;have hm1:=meltRefl (g:=g);refine zz 8 ?_;refine S.cd rfl (fun h19=>?_) fun h19=>?_
 ·have hi:i<ss.length:=by omega
  have hst:=flat_take hi;have hf1:=flats_le (ss:=ss) (i+1);have hf2:(ss.take i).flatten.length+ss[i].length≤100000000000:=by rw [hst,List.length_append] at hf1;omega
  refine zz 7 ?_;refine O.iy har hg (h:=fun p25 cs25 hp25 hrr25=>?_);have hr25:=Rp.rel.mono hrr25 hg;obtain ⟨v25,rfl,ha25⟩:=hrr25;have ho25:=ha25.on hg;obtain ⟨a25,c25,rfl⟩:=ha25.shape;refine zz 1 ?_;refine O.opE (.p rfl) (.appendP (T:=Rp.on r RecRp) (pure_on _ _) underlying47 elem74 (show 0<7 by decide) rfl rfl zB ho25 zI zI) ?_;rintro _ _ ⟨a27,c27,rfl,rfl⟩;refine zz 3 ?_;rw [show (ss.take i).flatten.length+ss[i].length=(ss.take (i+1)).flatten.length from by rw [hst,List.length_append],← hst];refine zz 5 ?_;exact S.wk (ih (i+1) ((a27,c27)) zD zD)
 ·clear ih
  have hi:i=ss.length:=by omega
  subst hi;rw [List.take_length];generalize hxs:ss.flatten=xs at hl ⊢;refine S.frz (A:=OwnP (Rp.on r RecRp) 74 (.slice s.1 xs.length s.2) xs) zB fun g hs hm ⟨_,x',s'⟩=>?_;have hall:=(fun s x=>(OwnP.arr x).mono s) s' x';clear x' s';replace hg:=Fr.sub_trans hg hs;replace hR:=melted hR hm
  try replace ha:=ha.mono hs
  replace hm1:=meltTrans hm1 hm;clear hs hm;have hallR:=Arr.off hg hall
  cases e:oneK xs with
  |false =>
   obtain ⟨e1,e2⟩:=jGetN (l:=xs) (by simp [e]);rw [hxs,e1,e2] at hR;refine zz 5 ?_;refine O.v0 (.p rfl) rfl zC rfl rfl ((r9one_c hallR)) ?_;refine O.sF 29 rfl (by exact e) ?_;refine zz 8 ?_;refine S.listNil (RecG tys) 74 ?_;refine S.ret2 results39 rfl rfl fun w hw=>Holds.end_ hR hw ?_;exact pk ⟨none,0,rfl,rfl⟩
  |true =>
   obtain ⟨e1,e2⟩:=jGetY (l:=xs) e;rw [hxs,e1,e2] at hR;have hok:=oneK_all e;have hmem:∀ {k:Nat} (hk:k<xs.length),recOk xs[k]=true:=fun hk=>hok _ (List.getElem_mem hk);refine zz 5 ?_;refine O.v0 (.p rfl) rfl zC rfl rfl ((r9one_c hallR)) ?_;refine O.sT 29 rfl (by exact e) ?_;refine zz 14 ?_;refine S.addNil (T:=Rp.on r RecRp) (e:=74) ?_;refine S.loopK3 (ι:=Nat) (κ:=Option Addr × Nat) (υ:=List RecT) (fun i p L=>i≤xs.length∧Least (xs.take i) L∧L.length≤i) (fun i p L=>[(7,.int .i64 (i:Int)),(6,.slice p.1 L.length p.2)]) [(4,_)] (fun i p L=>[OwnP (Rp.on r RecRp) 74 (.slice p.1 L.length p.2) L]) (fun i p L=>xs.length - i) (0) ((none,0)) ([]) (by exact ⟨by simp,Least.nil,Nat.le_refl _⟩) zq zq rfl fun i p L hx ih=>?_;have hm2:=meltRefl (g:=g);obtain ⟨hx1,hLe,hLl⟩:=hx;refine zz 8 ?_;refine S.cd rfl (fun h34=>?_) fun h34=>?_
   ·have hi:i<xs.length:=by omega
    have htk:=addK hi;have hg_o:=hg;have hR_o:=hR
    try have ha_o:=ha
    try have hall_o:=hall
    try have hall_o:=hall
    try have hallR_o:=hallR
    refine S.frzH (B:=OwnP (Rp.on r RecRp) 74 (.slice p.1 L.length p.2) L) zB fun go hso ⟨mo,hmo,hsmo⟩ hbo=>?_;replace hg:=Fr.sub_trans hg hso;replace hR:=backR hR hbo
    try replace ha:=ha.mono hso
    try replace hall:=hall.mono hso
    try replace hall:=hall.mono hso
    try replace hallR:=hallR.mono hso
    have hLa:=Arr.off hg ((OwnP.arr hmo).mono hsmo);refine zz 13 ?_;refine S.loopK2 (ι:=Nat) (κ:=Int) (fun j a=>j≤L.length∧atOf L xs[i] j a) (fun j a=>[(9,.int .i64 (j:Int)),(8,.int .i64 a)]) [(4,_),(6,_),(7,_)] (fun j a=>[]) (fun j a=>L.length - j) (0) (-1) (by exact ⟨by simp,.inl ⟨rfl,fun _ _ q=>absurd q zD⟩⟩) zq zq rfl fun j a hx ih=>?_;have hm3:=meltRefl (g:=go);obtain ⟨hj1,hat⟩:=hx;refine zz 8 ?_;refine S.cd rfl (fun h40=>?_) fun h40=>?_
    ·have hj:j<L.length:=by omega
     by_cases d1:L[j].2.1=xs[i].2.1
     ·by_cases d2:L[j].2.2.1=xs[i].2.2.1
      ·
       refine S.skip<|S.seq<|S.block<|S.seq<|S.regionD (L:=.range 24) F.mixed zC<|OD.q 2 rfl<|OD.ia (.p rfl) underlying47 size74 rfl rfl rfl zA (h:=fun p45 cs45 hp45 hr45=>?_);obtain ⟨ra3_45,ra5_45,ra6_45,rc3_45,rc5_45,rc6_45,rfl,ho0_45,ho1_45,ho2_45,ha3_45,ha5_45,ha6_45⟩:=RecRp.sh hr45;refine zz 2 ?_;refine OD.q 2 rfl<|OD.ia (.p rfl) underlying47 size74 rfl rfl rfl zA (h:=fun p50 cs50 hp50 hr50=>?_);obtain ⟨ra3_50,ra5_50,ra6_50,rc3_50,rc5_50,rc6_50,rfl,ho0_50,ho1_50,ho2_50,ha3_50,ha5_50,ha6_50⟩:=RecRp.sh hr50;refine zz 3 ?_;refine OD.sT 53 rfl (by exact decide_eq_true d1) ?_;refine OD.q 3 rfl<|OD.ia (.g rfl rfl) underlying47 size74 rfl rfl rfl zA (h:=fun p57 cs57 hp57 hr57=>?_);obtain ⟨ra3_57,ra5_57,ra6_57,rc3_57,rc5_57,rc6_57,rfl,ho0_57,ho1_57,ho2_57,ha3_57,ha5_57,ha6_57⟩:=RecRp.sh hr57;refine zz 2 ?_;refine OD.q 2 rfl<|OD.ia (.g rfl rfl) underlying47 size74 rfl rfl rfl zA (h:=fun p62 cs62 hp62 hr62=>?_);obtain ⟨ra3_62,ra5_62,ra6_62,rc3_62,rc5_62,rc6_62,rfl,ho0_62,ho1_62,ho2_62,ha3_62,ha5_62,ha6_62⟩:=RecRp.sh hr62;refine zz 3 ?_;refine OD.sT 65 rfl (by exact decide_eq_true d2) ?_;refine zz 13 ?_;exact S.wk (ih (j+1) ((j:Int)) (by exact ⟨by omega,atOf_yes hj (cmpR_z.2 ⟨d1.symm,d2.symm⟩)⟩) zD)
      ·
       refine S.skip<|S.seq<|S.block<|S.seq<|S.regionD (L:=.range 24) F.mixed zC<|OD.q 2 rfl<|OD.ia (.p rfl) underlying47 size74 rfl rfl rfl zA (h:=fun p45 cs45 hp45 hr45=>?_);obtain ⟨ra3_45,ra5_45,ra6_45,rc3_45,rc5_45,rc6_45,rfl,ho0_45,ho1_45,ho2_45,ha3_45,ha5_45,ha6_45⟩:=RecRp.sh hr45;refine zz 2 ?_;refine OD.q 2 rfl<|OD.ia (.p rfl) underlying47 size74 rfl rfl rfl zA (h:=fun p50 cs50 hp50 hr50=>?_);obtain ⟨ra3_50,ra5_50,ra6_50,rc3_50,rc5_50,rc6_50,rfl,ho0_50,ho1_50,ho2_50,ha3_50,ha5_50,ha6_50⟩:=RecRp.sh hr50;refine zz 3 ?_;refine OD.sT 53 rfl (by exact decide_eq_true d1) ?_;refine OD.q 3 rfl<|OD.ia (.g rfl rfl) underlying47 size74 rfl rfl rfl zA (h:=fun p57 cs57 hp57 hr57=>?_);obtain ⟨ra3_57,ra5_57,ra6_57,rc3_57,rc5_57,rc6_57,rfl,ho0_57,ho1_57,ho2_57,ha3_57,ha5_57,ha6_57⟩:=RecRp.sh hr57;refine zz 2 ?_;refine OD.q 2 rfl<|OD.ia (.g rfl rfl) underlying47 size74 rfl rfl rfl zA (h:=fun p62 cs62 hp62 hr62=>?_);obtain ⟨ra3_62,ra5_62,ra6_62,rc3_62,rc5_62,rc6_62,rfl,ho0_62,ho1_62,ho2_62,ha3_62,ha5_62,ha6_62⟩:=RecRp.sh hr62;refine zz 3 ?_;refine OD.sF 65 rfl (by exact decide_eq_false d2) ?_;refine zz 10 ?_;exact S.wk (ih (j+1) (a) (by exact ⟨by omega,atOf_no hj (fun q=>d2 (cmpR_z.1 q).2.symm) hat⟩) zD)
     ·
      refine S.skip<|S.seq<|S.block<|S.seq<|S.regionD (L:=.range 24) F.mixed zC<|OD.q 2 rfl<|OD.ia (.p rfl) underlying47 size74 rfl rfl rfl zA (h:=fun p45 cs45 hp45 hr45=>?_);obtain ⟨ra3_45,ra5_45,ra6_45,rc3_45,rc5_45,rc6_45,rfl,ho0_45,ho1_45,ho2_45,ha3_45,ha5_45,ha6_45⟩:=RecRp.sh hr45;refine zz 2 ?_;refine OD.q 2 rfl<|OD.ia (.p rfl) underlying47 size74 rfl rfl rfl zA (h:=fun p50 cs50 hp50 hr50=>?_);obtain ⟨ra3_50,ra5_50,ra6_50,rc3_50,rc5_50,rc6_50,rfl,ho0_50,ho1_50,ho2_50,ha3_50,ha5_50,ha6_50⟩:=RecRp.sh hr50;refine zz 3 ?_;refine OD.sF 53 rfl (by exact decide_eq_false d1) ?_;refine zz 22 ?_;exact S.wk (ih (j+1) (a) (by exact ⟨by omega,atOf_no hj (fun q=>d1 (cmpR_z.1 q).1.symm) hat⟩) zD)
    ·clear ih
     have hj:j=L.length:=by omega
     subst hj
     rcases hat with ⟨rfl,q2⟩|⟨k,hk,_,rfl,q3⟩
     ·have hle:=hLe.new (x:=xs[i]) fun y hy=>by
       obtain ⟨k,hk,rfl⟩:=List.mem_iff_getElem.1 hy;exact q2 k hk hk
      rw [htk] at hle;refine zz 5 ?_;refine O.sT 69 rfl zE ?_;refine O.nil<|S.condT rfl<|S.back hbo ?_;replace hg:=hg_o;replace hR:=hR_o
      try replace ha:=ha_o
      try replace hall:=hall_o
      try replace hall:=hall_o
      try replace hallR:=hallR_o
      clear hg_o hR_o;refine zz 4 ?_;refine O.idx' (.p rfl) underlying47 size74 rfl rfl rfl hall (show 0<7 by decide) zI (fun p73 cs73 hp73 hr73=>?_);refine O.op (.p rfl) (.loadAgg isAgg74 (by rw [RecRp.len hr73];kernel_rfl) rfl hp73) ?_;refine O.opE (.p rfl) (.litP (T:=Rp.on r RecRp) (ys:=[xs[i]]) underlying47 elem74 (show 0<7 by decide) rfl rfl ⟨hr73,trivial⟩ (show 1*7≤16777216 by decide)) ?_;rintro _ _ ⟨a75,c75,rfl,rfl⟩;refine O.opE (.p rfl) (.appendO (T:=Rp.on r RecRp) underlying47 elem74 (show 0<7 by decide) rfl rfl zB zB zI zI) ?_;rintro _ _ ⟨a76,c76,rfl,rfl⟩;refine zz 3 ?_;rw [show L.length+[xs[i]].length=(L++[xs[i]]).length from by simp];refine zz 5 ?_;exact S.wk (ih (i+1) ((a76,c76)) (L++[xs[i]]) (by exact ⟨by omega,hle,by simp;omega⟩) zD)
     ·have hkd:=hmem hi
      have hbe:∀ {y:RecT},recOk y=true→recOut y=recB y:=fun h=>by simp [recOut,h]
      have hLok:∀ y∈L,recOk y=true:=fun y hy=>hok _ (List.mem_of_mem_take ((hLe.2 y).1 hy).1);have hkk:=hLok _ (List.getElem_mem hk)
      by_cases hlt:recB xs[i]<recB L[k]
      ·have hle:=hLe.put hk q3 hlt
       rw [htk] at hle;refine zz 5 ?_;refine O.sF 69 rfl (by exact decide_eq_false zD) ?_;refine O.nil<|S.condF rfl<|S.seq<|S.regionD (L:=[0,1,2,3,5,6,7,8,4,9,10]) F.mixed zC<|OD.q 2 rfl<|OD.ia (.p rfl) underlying47 size74 rfl rfl rfl zA (h:=fun p79 cs79 hp79 hr79=>?_);obtain ⟨ra3_79,ra5_79,ra6_79,rc3_79,rc5_79,rc6_79,rfl,ho0_79,ho1_79,ho2_79,ha3_79,ha5_79,ha6_79⟩:=RecRp.sh hr79;refine .quiet (.p rfl) rfl (fun _=>.loadAgg isAgg74 zC rfl hp79) ?_;refine OD.q 2 rfl<|OD.ia (.p rfl) underlying47 size74 rfl rfl (show _=(((k):Nat):Int) by omega) zA (h:=fun p84 cs84 hp84 hr84=>?_);obtain ⟨ra3_84,ra5_84,ra6_84,rc3_84,rc5_84,rc6_84,rfl,ho0_84,ho1_84,ho2_84,ha3_84,ha5_84,ha6_84⟩:=RecRp.sh hr84;refine .quiet (.p rfl) rfl (fun _=>.loadAgg isAgg74 zC rfl hp84) ?_;refine OD.v0 (.p rfl) zC rfl zC rfl rfl ((r9text_c (by first|assumption|exact Rp.rel.mono zF hg))) ?_;refine OD.v0 (.p rfl) zC rfl zC rfl rfl ((r9text_c (by first|assumption|exact Rp.rel.mono zF hg))) ?_;refine .quiet (.p rfl) rfl (fun _=>.lssS rfl rfl)<|OD.sT 87 rfl (by rw [lssS_eq,hbe hkd,hbe hkk];exact decide_eq_true hlt) ?_;refine ODx.nil<|S.condT rfl<|S.back hbo ?_;replace hg:=hg_o;replace hR:=hR_o
       try replace ha:=ha_o
       try replace hall:=hall_o
       try replace hall:=hall_o
       try replace hallR:=hallR_o
       clear hg_o hR_o;refine zz 5 ?_;refine O.idx' (.p rfl) underlying47 size74 rfl rfl rfl hall (show 0<7 by decide) zI (fun p92 cs92 hp92 hr92=>?_);refine O.op (.p rfl) (.loadAgg isAgg74 (by rw [RecRp.len hr92];kernel_rfl) rfl hp92) ?_;refine O.opE (.p rfl) (.idxOwn (T:=(Rp.on r RecRp)) underlying47 size74 rfl rfl (show _=(((k):Nat):Int) by omega) zB zL) ?_;rintro _ _ ⟨p94,rfl,hp94,rfl⟩;refine O.opU rfl (.storeOwn (T:=Rp.on r RecRp) (a:=xs[i]) size74 rfl hp94 rfl zB zD hr92) ?_;refine zz 2 ?_;rw [show L.length=(L.set k xs[i]).length from by simp];refine zz 5 ?_;exact S.wk (ih (i+1) (p) (L.set k xs[i]) (by exact ⟨by omega,hle,by simp;omega⟩) zD)
      ·have hle:=hLe.keep (fun y hy=>hok y (by rw [htk] at hy;exact List.mem_of_mem_take hy)) hk q3 hlt
       rw [htk] at hle;refine zz 5 ?_;refine O.sF 69 rfl (by exact decide_eq_false zD) ?_;refine O.nil<|S.condF rfl<|S.seq<|S.regionD (L:=[0,1,2,3,5,6,7,8,4,9,10]) F.mixed zC<|OD.q 2 rfl<|OD.ia (.p rfl) underlying47 size74 rfl rfl rfl zA (h:=fun p79 cs79 hp79 hr79=>?_);obtain ⟨ra3_79,ra5_79,ra6_79,rc3_79,rc5_79,rc6_79,rfl,ho0_79,ho1_79,ho2_79,ha3_79,ha5_79,ha6_79⟩:=RecRp.sh hr79;refine .quiet (.p rfl) rfl (fun _=>.loadAgg isAgg74 zC rfl hp79) ?_;refine OD.q 2 rfl<|OD.ia (.p rfl) underlying47 size74 rfl rfl (show _=(((k):Nat):Int) by omega) zA (h:=fun p84 cs84 hp84 hr84=>?_);obtain ⟨ra3_84,ra5_84,ra6_84,rc3_84,rc5_84,rc6_84,rfl,ho0_84,ho1_84,ho2_84,ha3_84,ha5_84,ha6_84⟩:=RecRp.sh hr84;refine .quiet (.p rfl) rfl (fun _=>.loadAgg isAgg74 zC rfl hp84) ?_;refine OD.v0 (.p rfl) zC rfl zC rfl rfl ((r9text_c (by first|assumption|exact Rp.rel.mono zF hg))) ?_;refine OD.v0 (.p rfl) zC rfl zC rfl rfl ((r9text_c (by first|assumption|exact Rp.rel.mono zF hg))) ?_;refine .quiet (.p rfl) rfl (fun _=>.lssS rfl rfl)<|OD.sF 87 rfl (by rw [lssS_eq,hbe hkd,hbe hkk];exact decide_eq_false hlt) ?_;refine zz 4 ?_;refine S.back hbo ?_;replace hg:=hg_o;replace hR:=hR_o
       try replace ha:=ha_o
       try replace hall:=hall_o
       try replace hall:=hall_o
       try replace hallR:=hallR_o
       clear hg_o hR_o;refine zz 5 ?_;exact S.wk (ih (i+1) (p) (L) (by exact ⟨by omega,hle,by omega⟩) zD)
   ·clear ih
    have hi:i=xs.length:=by omega
    subst hi;rw [List.take_length] at hLe;have hLok:∀ y∈L,recOk y=true:=fun y hy=>hok _ ((hLe.2 y).1 hy).1;refine S.frz (A:=OwnP (Rp.on r RecRp) 74 (.slice p.1 L.length p.2) L) zB fun g hs hm ⟨_,x',s'⟩=>?_;have hLa:=(fun s x=>Arr.off (Fr.sub_trans hg hs) ((OwnP.arr x).mono s)) s' x';clear x' s';replace hg:=Fr.sub_trans hg hs;replace hR:=melted hR hm
    try replace ha:=ha.mono hs
    try replace hall:=hall.mono hs
    try replace hall:=hall.mono hs
    try replace hallR:=hallR.mono hs
    replace hm1:=meltTrans hm1 hm;replace hm2:=meltTrans hm2 hm;clear hs hm;refine zz 11 ?_;refine S.listNil (RecG tys) 74 ?_;refine S.loopK3 (ι:=Nat) (κ:=Option Addr × Nat) (υ:=List RecT) (fun i q o=>i≤L.length∧Outs L i o∧o.length≤i) (fun i q o=>[(11,.int .i64 (i:Int)),(10,.slice q.1 o.length q.2)]) [(6,_)] (fun i q o=>[ListP (RecG tys) 74 (.slice q.1 o.length q.2) o]) (fun i q o=>L.length - i) (0) ((none,0)) ([]) (by exact ⟨by simp,Outs.nil _,Nat.le_refl _⟩) zq zq rfl fun i q o hx ih=>?_;have hm3:=meltRefl (g:=g);obtain ⟨hx1,hOu,hOl⟩:=hx;refine zz 8 ?_;refine S.cd rfl (fun h98=>?_) fun h98=>?_
    ·have hi:i<L.length:=by omega
     have hoki:=hLok _ (List.getElem_mem hi);refine zz 13 ?_;refine S.loopK2 (ι:=Nat) (κ:=Bool) (fun j u=>j≤L.length∧undAt L i j u) (fun j u=>[(13,.int .i64 (j:Int)),(12,.bool u)]) [(6,_),(10,_),(11,_)] (fun j u=>[ListP (RecG tys) 74 (.slice q.1 o.length q.2) o]) (fun j u=>L.length - j) (0) (false) (by exact ⟨by simp,undAt_0 _ _⟩) zq zq rfl fun j u hx ih=>?_;have hm4:=meltRefl (g:=g);obtain ⟨hj1,hun⟩:=hx;refine zz 8 ?_;refine S.cd rfl (fun h104=>?_) fun h104=>?_
     ·have hj:j<L.length:=by omega
      have hst:=undAt_step hi hj hun
      cases u with
      |true =>
       refine S.skip<|S.seq<|S.block<|S.regionD (L:=.range 18) F.mixed zC<|OD.q 1 rfl<|OD.sT 107 rfl (by rfl) ?_;refine zz 24 ?_;exact S.wk (ih (j+1) (true) (by exact ⟨by omega,by simpa using hst⟩) zD)
      |false =>
       by_cases hij:i=j
       ·
        refine S.skip<|S.seq<|S.block<|S.regionD (L:=.range 18) F.mixed zC<|OD.q 1 rfl<|OD.sF 107 rfl (by rfl) ?_;refine zz 4 ?_;refine OD.sF 111 rfl (by exact decide_eq_false zD) ?_;refine zz 20 ?_;exact S.wk (ih (j+1) (false) (by exact ⟨by omega,by simpa [hij] using hst⟩) zD)
       ·
        refine S.skip<|S.seq<|S.block<|S.regionD (L:=.range 18) F.mixed zC<|OD.q 1 rfl<|OD.sF 107 rfl (by rfl) ?_;refine zz 4 ?_;refine OD.sT 111 rfl (by exact decide_eq_true zD) ?_;refine OD.q 3 rfl<|OD.ia (.g rfl rfl) underlying47 size74 rfl rfl rfl zA (h:=fun p115 cs115 hp115 hr115=>?_);obtain ⟨ra3_115,ra5_115,ra6_115,rc3_115,rc5_115,rc6_115,rfl,ho0_115,ho1_115,ho2_115,ha3_115,ha5_115,ha6_115⟩:=RecRp.sh hr115;refine .quiet (.g rfl rfl) rfl (fun _=>.loadAgg isAgg74 zC rfl hp115) ?_;refine OD.q 2 rfl<|OD.ia (.g rfl rfl) underlying47 size74 rfl rfl rfl zA (h:=fun p119 cs119 hp119 hr119=>?_);obtain ⟨ra3_119,ra5_119,ra6_119,rc3_119,rc5_119,rc6_119,rfl,ho0_119,ho1_119,ho2_119,ha3_119,ha5_119,ha6_119⟩:=RecRp.sh hr119;refine .quiet (.g rfl rfl) rfl (fun _=>.loadAgg isAgg74 zC rfl hp119) ?_;refine OD.v0 (.g rfl rfl) zC rfl zC rfl rfl ((r8over_c (by first|assumption|exact Rp.rel.mono zF hg) (by first|assumption|exact Rp.rel.mono zF hg))) ?_;refine zz 10 ?_;exact S.wk (ih (j+1) (over L[j] L[i]) (by exact ⟨by omega,by simpa [hij] using hst⟩) zD)
     ·clear ih
      have hj:j=L.length:=by omega
      subst hj;obtain ⟨hno,hyes⟩:=undAt_all hLe hi hun
      cases u with
      |true =>
       have hsk:=hOu.skip hi (hyes rfl);refine zz 5 ?_;refine O.sT 124 rfl (by rfl) ?_;refine zz 8 ?_;exact S.wk (ih (i+1) (q) (o) (by exact ⟨by omega,hsk,by omega⟩) zD)
      |false =>
       have hnov:=hno rfl;have hg_y:=hg;have hR_y:=hR
       try have ha_y:=ha
       try have hall_y:=hall
       try have hall_y:=hall
       try have hallR_y:=hallR
       try have hLa_y:=hLa
       try have hLa_y:=hLa
       refine S.frzH (B:=ListP (RecG tys) 74 (.slice q.1 o.length q.2) o) zB fun gy hsy ⟨my,hmy,hsmy⟩ hby=>?_;replace hg:=Fr.sub_trans hg hsy;replace hR:=backR hR hby
       try replace ha:=ha.mono hsy
       try replace hall:=hall.mono hsy
       try replace hall:=hall.mono hsy
       try replace hallR:=hallR.mono hsy
       try replace hLa:=hLa.mono hsy
       try replace hLa:=hLa.mono hsy
       have hOa:=(ListP.arr hmy).mono hsmy;refine zz 5 ?_;refine O.sF 124 rfl (by rfl) ?_;refine zz 9 ?_;refine S.loopK (ι:=Nat) (fun m=>m≤o.length∧∀ k (hk:k<o.length),k<m→cmpR o[k] L[i]<0) (fun m=>[(14,.int .i64 (m:Int))]) [(6,_),(10,_),(11,_)] (fun m=>[]) (fun m=>o.length - m) (0) (by exact ⟨by simp,fun _ _ q=>absurd q zD⟩) zq zq rfl fun m hx ih=>?_;have hm5:=meltRefl (g:=gy);obtain ⟨hmA,hmB⟩:=hx
       by_cases hm:m<o.length
       ·by_cases hah:cmpR o[m] L[i]<0
        ·
         refine zz 2 ?_;refine S.regionD (L:=.range 15) F.mixed zC ?_;refine zz 4 ?_;refine OD.sT 128 rfl (by exact decide_eq_true zD) ?_;refine OD.q 3 rfl<|OD.ia (.g rfl rfl) underlying47 size74 rfl rfl rfl zA (h:=fun p132 cs132 hp132 hr132=>?_);obtain ⟨ra3_132,ra5_132,ra6_132,rc3_132,rc5_132,rc6_132,rfl,ho0_132,ho1_132,ho2_132,ha3_132,ha5_132,ha6_132⟩:=RecRp.sh hr132;refine .quiet (.g rfl rfl) rfl (fun _=>.loadAgg isAgg74 zC rfl hp132) ?_;refine OD.q 2 rfl<|OD.ia (.g rfl rfl) underlying47 size74 rfl rfl rfl zA (h:=fun p136 cs136 hp136 hr136=>?_);obtain ⟨ra3_136,ra5_136,ra6_136,rc3_136,rc5_136,rc6_136,rfl,ho0_136,ho1_136,ho2_136,ha3_136,ha5_136,ha6_136⟩:=RecRp.sh hr136;refine .quiet (.g rfl rfl) rfl (fun _=>.loadAgg isAgg74 zC rfl hp136) ?_;refine OD.v0 (.g rfl rfl) zC rfl zC rfl rfl (r9ahead_c (by first|assumption|exact Rp.rel.mono zF hg) (by first|assumption|exact Rp.rel.mono zF hg)) ?_;refine OD.sT 138 rfl (by exact decide_eq_true hah) ?_;refine zz 11 ?_;exact S.wk (ih (m+1) (by exact ⟨by omega,fun k hk q=>(Nat.lt_or_eq_of_le (Nat.le_of_lt_succ q)).elim (fun c=>hmB k hk c) (fun c=>by subst c;exact hah)⟩) zD)
        ·clear ih
         have hput:=hOu.put hLe hi hnov hmA hmB (fun _=>hah);refine zz 2 ?_;refine S.regionD (L:=.range 15) F.mixed zC ?_;refine zz 4 ?_;refine OD.sT 128 rfl (by exact decide_eq_true zD) ?_;refine OD.q 3 rfl<|OD.ia (.g rfl rfl) underlying47 size74 rfl rfl rfl zA (h:=fun p132 cs132 hp132 hr132=>?_);obtain ⟨ra3_132,ra5_132,ra6_132,rc3_132,rc5_132,rc6_132,rfl,ho0_132,ho1_132,ho2_132,ha3_132,ha5_132,ha6_132⟩:=RecRp.sh hr132;refine .quiet (.g rfl rfl) rfl (fun _=>.loadAgg isAgg74 zC rfl hp132) ?_;refine OD.q 2 rfl<|OD.ia (.g rfl rfl) underlying47 size74 rfl rfl rfl zA (h:=fun p136 cs136 hp136 hr136=>?_);obtain ⟨ra3_136,ra5_136,ra6_136,rc3_136,rc5_136,rc6_136,rfl,ho0_136,ho1_136,ho2_136,ha3_136,ha5_136,ha6_136⟩:=RecRp.sh hr136;refine .quiet (.g rfl rfl) rfl (fun _=>.loadAgg isAgg74 zC rfl hp136) ?_;refine OD.v0 (.g rfl rfl) zC rfl zC rfl rfl (r9ahead_c (by first|assumption|exact Rp.rel.mono zF hg) (by first|assumption|exact Rp.rel.mono zF hg)) ?_;refine OD.sF 138 rfl (by exact decide_eq_false hah) ?_;refine zz 5 ?_;refine S.back hby ?_;replace hg:=hg_y;replace hR:=hR_y
         try replace ha:=ha_y
         try replace hall:=hall_y
         try replace hall:=hall_y
         try replace hallR:=hallR_y
         try replace hLa:=hLa_y
         try replace hLa:=hLa_y
         clear hg_y hR_y;refine S.listOpen (k' :=7) rfl zB fun css hcl=>?_;rw [← hcl];refine S.factS (B:=OwnP (Rp.cells 7) 74 (.slice q.1 css.length q.2) css) zB (fun _ x=>x.room) fun hroom=>?_;have hg_z:=hg;have hR_z:=hR
         try have ha_z:=ha
         try have hall_z:=hall
         try have hall_z:=hall
         try have hallR_z:=hallR
         try have hLa_z:=hLa
         try have hLa_z:=hLa
         refine S.frzH (B:=OwnP (Rp.cells 7) 74 (.slice q.1 css.length q.2) css) zB fun gz hsz ⟨mz,hmz,hsmz⟩ hbz=>?_;replace hg:=Fr.sub_trans hg hsz;replace hR:=backR hR hbz
         try replace ha:=ha.mono hsz
         try replace hall:=hall.mono hsz
         try replace hall:=hall.mono hsz
         try replace hallR:=hallR.mono hsz
         try replace hLa:=hLa.mono hsz
         try replace hLa:=hLa.mono hsz
         have hcs:=(OwnP.arr hmz).mono hsmz;refine S.region rfl<|O.opE (.p rfl) (.litP (T:=(Rp.cells 7)) (ys:=[]) underlying47 elem74 zE rfl rfl trivial zE) ?_;rintro _ _ ⟨a142,c142,rfl,rfl⟩;refine O.q 2 rfl<|O.sliceFrom (a:=m) (.p rfl) underlying47 size74 rfl rfl zF zI zI (fun u145 ha145=>?_);obtain ⟨a145,c145,rfl⟩:=ha145.shape;refine O.opE (.p rfl) (.appendP (T:=Rp.cells 7) (pure_cells 7) underlying47 elem74 zE rfl rfl zB ha145 zI zI) ?_;rintro _ _ ⟨a146,c146,rfl,rfl⟩;refine O.q 1 rfl<|O.nil<|S.back hbz ?_;replace hg:=hg_z;replace hR:=hR_z
         try replace ha:=ha_z
         try replace hall:=hall_z
         try replace hall:=hall_z
         try replace hallR:=hallR_z
         try replace hLa:=hLa_z
         try replace hLa:=hLa_z
         clear hg_z hR_z;refine S.frz (A:=OwnP (Rp.cells 7) 74 (.slice a146 ((List.nil (α:=List Value)).length+(css.drop m).length) c146) ([]++css.drop m)) zB fun g hs hm ⟨_,x',s'⟩=>?_;have hrest:=(fun s x=>(OwnP.arr x).mono s) s' x';clear x' s';replace hg:=Fr.sub_trans hg hs;replace hR:=melted hR hm
         try replace ha:=ha.mono hs
         try replace hall:=hall.mono hs
         try replace hall:=hall.mono hs
         try replace hallR:=hallR.mono hs
         try replace hLa:=hLa.mono hs
         try replace hLa:=hLa.mono hs
         replace hm1:=meltTrans hm1 hm;replace hm2:=meltTrans hm2 hm;replace hm3:=meltTrans hm3 hm;replace hm4:=meltTrans hm4 hm;clear hs hm;refine S.conv (B:=OwnP (Rp.cells 7) 74 (.slice q.1 css.length q.2) css) (C:=OwnP (Rp.cells 7) 74 (.slice q.1 m q.2) (css.take m)) zB (fun h x=>⟨h,Fr.sub_refl _,OwnP.take (ys:=css.drop m) zJ (by rw [List.take_append_drop];exact x)⟩) ?_;refine S.regionD (L:=[0,1,2,3,4,5,6,10,7,8,9,11,12]) F.mixed zC ?_;refine OD.q 2 rfl<|.quiet (.p rfl) rfl (fun _=>.sliceTo0 (T:=Rp.cells 7) (q:=m) underlying47 size74 rfl rfl rfl zD)<|OD.q 2 rfl<|OD.ia (.p rfl) underlying47 size74 rfl rfl rfl zA (h:=fun p152 cs152 hp152 hr152=>?_);obtain ⟨ra3_152,ra5_152,ra6_152,rc3_152,rc5_152,rc6_152,rfl,ho0_152,ho1_152,ho2_152,ha3_152,ha5_152,ha6_152⟩:=RecRp.sh hr152;refine .quiet (.p rfl) rfl (fun _=>.loadAgg isAgg74 zC rfl hp152) ?_;refine OD.q 1 rfl<|OD.call0 (.p rfl) zC rfl zC rfl rfl ((copyRecord_c (by first|assumption|exact Rp.rel.mono zF hg) hoki)) ?_;rintro _ _ ⟨a3,c3,a5,c5,a6,c6,rfl,rfl⟩
         refine OD.litP (T:=(Rp.cells 7)) (ys:=[_]) (.p rfl) zC underlying47 elem74 zE rfl rfl ⟨⟨rfl,rfl,by first|(simp;done)|(intro v hv;simp [Value.cells] at hv;rcases hv with rfl|rfl<;>rfl)|(refine List.forall_mem_cons.2 ⟨rfl,?_⟩;repeat (first|exact (fun _ h=>absurd h List.not_mem_nil)|refine List.forall_mem_cons.2 ⟨rfl,?_⟩))⟩,trivial⟩ zE (fun a155 c155=>?_);refine OD.appendO (.p rfl) zC (T:=(Rp.cells 7)) underlying47 elem74 zE rfl rfl zB zB zI zI (fun a156 c156=>?_);refine OD.appendP (.p rfl) zC (T:=(Rp.cells 7)) (pure_cells 7) underlying47 elem74 zE rfl rfl zB zA zI zI (fun a158 c158=>?_);refine zz 3 ?_;refine S.slot 10 (v' :=.slice a158 (o.take m++[L[i]]++o.drop m).length c158) rfl (congrArg (fun n=>Value.slice a158 n c158) (by simp only [List.length_append,List.length_take,List.length_drop,List.length_singleton,List.length_nil,List.length_cons,hcl];omega)) ?_;refine S.ownIs (T:=Rp.cells 7) (e:=74) (v' :=.slice a158 (o.take m++[L[i]]++o.drop m).length c158) (xs' :=css.take m++[recV L[i] (.slice a3 L[i].2.2.2.1.length c3) (.slice a5 L[i].2.2.2.2.2.1.length c5) (.slice a6 L[i].2.2.2.2.2.2.1.length c6)]++css.drop m) .here (congrArg (fun n=>Value.slice a158 n c158) (by simp only [List.length_append,List.length_take,List.length_drop,List.length_singleton,List.length_nil,List.length_cons,hcl];omega)) rfl ?_
         refine S.foldS (A:=ListP (RecG tys) 74 (.slice a158 (o.take m++[L[i]]++o.drop m).length c158) (o.take m++[L[i]]++o.drop m)) (bs:=[OwnP (Rp.cells 7) 74 (.slice a158 (o.take m++[L[i]]++o.drop m).length c158) (css.take m++[recV L[i] (.slice a3 L[i].2.2.2.1.length c3) (.slice a5 L[i].2.2.2.2.2.1.length c5) (.slice a6 L[i].2.2.2.2.2.2.1.length c6)]++css.drop m),(RecG tys).own (recV L[i] (.slice a3 L[i].2.2.2.1.length c3) (.slice a5 L[i].2.2.2.2.2.1.length c5) (.slice a6 L[i].2.2.2.2.2.2.1.length c6)) L[i],EachP (RecG tys).own css o]) zK (fun mm h=>listIns rfl hmA hcl h) ?_;refine zz 5 ?_;exact S.melt hm3 (S.wk (ih (i+1) ((a158,c158)) (o.take m++[L[i]]++o.drop m) (by exact ⟨by omega,hput,by simp;omega⟩) zD))
       ·clear ih
        have hput:=hOu.put hLe hi hnov hmA hmB (fun q=>absurd q hm);refine zz 2 ?_;refine S.regionD (L:=.range 15) F.mixed zC ?_;refine zz 4 ?_;refine OD.sF 128 rfl (by exact decide_eq_false zD) ?_;refine zz 15 ?_;refine S.back hby ?_;replace hg:=hg_y;replace hR:=hR_y
        try replace ha:=ha_y
        try replace hall:=hall_y
        try replace hall:=hall_y
        try replace hallR:=hallR_y
        try replace hLa:=hLa_y
        try replace hLa:=hLa_y
        clear hg_y hR_y;refine S.listOpen (k' :=7) rfl zB fun css hcl=>?_;rw [← hcl];refine S.factS (B:=OwnP (Rp.cells 7) 74 (.slice q.1 css.length q.2) css) zB (fun _ x=>x.room) fun hroom=>?_;have hg_z:=hg;have hR_z:=hR
        try have ha_z:=ha
        try have hall_z:=hall
        try have hall_z:=hall
        try have hallR_z:=hallR
        try have hLa_z:=hLa
        try have hLa_z:=hLa
        refine S.frzH (B:=OwnP (Rp.cells 7) 74 (.slice q.1 css.length q.2) css) zB fun gz hsz ⟨mz,hmz,hsmz⟩ hbz=>?_;replace hg:=Fr.sub_trans hg hsz;replace hR:=backR hR hbz
        try replace ha:=ha.mono hsz
        try replace hall:=hall.mono hsz
        try replace hall:=hall.mono hsz
        try replace hallR:=hallR.mono hsz
        try replace hLa:=hLa.mono hsz
        try replace hLa:=hLa.mono hsz
        have hcs:=(OwnP.arr hmz).mono hsmz;refine S.region rfl<|O.opE (.p rfl) (.litP (T:=(Rp.cells 7)) (ys:=[]) underlying47 elem74 zE rfl rfl trivial zE) ?_;rintro _ _ ⟨a142,c142,rfl,rfl⟩;refine O.q 2 rfl<|O.sliceFrom (a:=m) (.p rfl) underlying47 size74 rfl rfl zF zI zI (fun u145 ha145=>?_);obtain ⟨a145,c145,rfl⟩:=ha145.shape;refine O.opE (.p rfl) (.appendP (T:=Rp.cells 7) (pure_cells 7) underlying47 elem74 zE rfl rfl zB ha145 zI zI) ?_;rintro _ _ ⟨a146,c146,rfl,rfl⟩;refine O.q 1 rfl<|O.nil<|S.back hbz ?_;replace hg:=hg_z;replace hR:=hR_z
        try replace ha:=ha_z
        try replace hall:=hall_z
        try replace hall:=hall_z
        try replace hallR:=hallR_z
        try replace hLa:=hLa_z
        try replace hLa:=hLa_z
        clear hg_z hR_z;refine S.frz (A:=OwnP (Rp.cells 7) 74 (.slice a146 ((List.nil (α:=List Value)).length+(css.drop m).length) c146) ([]++css.drop m)) zB fun g hs hm ⟨_,x',s'⟩=>?_;have hrest:=(fun s x=>(OwnP.arr x).mono s) s' x';clear x' s';replace hg:=Fr.sub_trans hg hs;replace hR:=melted hR hm
        try replace ha:=ha.mono hs
        try replace hall:=hall.mono hs
        try replace hall:=hall.mono hs
        try replace hallR:=hallR.mono hs
        try replace hLa:=hLa.mono hs
        try replace hLa:=hLa.mono hs
        replace hm1:=meltTrans hm1 hm;replace hm2:=meltTrans hm2 hm;replace hm3:=meltTrans hm3 hm;replace hm4:=meltTrans hm4 hm;clear hs hm;refine S.conv (B:=OwnP (Rp.cells 7) 74 (.slice q.1 css.length q.2) css) (C:=OwnP (Rp.cells 7) 74 (.slice q.1 m q.2) (css.take m)) zB (fun h x=>⟨h,Fr.sub_refl _,OwnP.take (ys:=css.drop m) zJ (by rw [List.take_append_drop];exact x)⟩) ?_;refine S.regionD (L:=[0,1,2,3,4,5,6,10,7,8,9,11,12]) F.mixed zC ?_;refine OD.q 2 rfl<|.quiet (.p rfl) rfl (fun _=>.sliceTo0 (T:=Rp.cells 7) (q:=m) underlying47 size74 rfl rfl rfl zD)<|OD.q 2 rfl<|OD.ia (.p rfl) underlying47 size74 rfl rfl rfl zA (h:=fun p152 cs152 hp152 hr152=>?_);obtain ⟨ra3_152,ra5_152,ra6_152,rc3_152,rc5_152,rc6_152,rfl,ho0_152,ho1_152,ho2_152,ha3_152,ha5_152,ha6_152⟩:=RecRp.sh hr152;refine .quiet (.p rfl) rfl (fun _=>.loadAgg isAgg74 zC rfl hp152) ?_;refine OD.q 1 rfl<|OD.call0 (.p rfl) zC rfl zC rfl rfl ((copyRecord_c (by first|assumption|exact Rp.rel.mono zF hg) hoki)) ?_;rintro _ _ ⟨a3,c3,a5,c5,a6,c6,rfl,rfl⟩
        refine OD.litP (T:=(Rp.cells 7)) (ys:=[_]) (.p rfl) zC underlying47 elem74 zE rfl rfl ⟨⟨rfl,rfl,by first|(simp;done)|(intro v hv;simp [Value.cells] at hv;rcases hv with rfl|rfl<;>rfl)|(refine List.forall_mem_cons.2 ⟨rfl,?_⟩;repeat (first|exact (fun _ h=>absurd h List.not_mem_nil)|refine List.forall_mem_cons.2 ⟨rfl,?_⟩))⟩,trivial⟩ zE (fun a155 c155=>?_);refine OD.appendO (.p rfl) zC (T:=(Rp.cells 7)) underlying47 elem74 zE rfl rfl zB zB zI zI (fun a156 c156=>?_);refine OD.appendP (.p rfl) zC (T:=(Rp.cells 7)) (pure_cells 7) underlying47 elem74 zE rfl rfl zB zA zI zI (fun a158 c158=>?_);refine zz 3 ?_;refine S.slot 10 (v' :=.slice a158 (o.take m++[L[i]]++o.drop m).length c158) rfl (congrArg (fun n=>Value.slice a158 n c158) (by simp only [List.length_append,List.length_take,List.length_drop,List.length_singleton,List.length_nil,List.length_cons,hcl];omega)) ?_;refine S.ownIs (T:=Rp.cells 7) (e:=74) (v' :=.slice a158 (o.take m++[L[i]]++o.drop m).length c158) (xs' :=css.take m++[recV L[i] (.slice a3 L[i].2.2.2.1.length c3) (.slice a5 L[i].2.2.2.2.2.1.length c5) (.slice a6 L[i].2.2.2.2.2.2.1.length c6)]++css.drop m) .here (congrArg (fun n=>Value.slice a158 n c158) (by simp only [List.length_append,List.length_take,List.length_drop,List.length_singleton,List.length_nil,List.length_cons,hcl];omega)) rfl ?_
        refine S.foldS (A:=ListP (RecG tys) 74 (.slice a158 (o.take m++[L[i]]++o.drop m).length c158) (o.take m++[L[i]]++o.drop m)) (bs:=[OwnP (Rp.cells 7) 74 (.slice a158 (o.take m++[L[i]]++o.drop m).length c158) (css.take m++[recV L[i] (.slice a3 L[i].2.2.2.1.length c3) (.slice a5 L[i].2.2.2.2.2.1.length c5) (.slice a6 L[i].2.2.2.2.2.2.1.length c6)]++css.drop m),(RecG tys).own (recV L[i] (.slice a3 L[i].2.2.2.1.length c3) (.slice a5 L[i].2.2.2.2.2.1.length c5) (.slice a6 L[i].2.2.2.2.2.2.1.length c6)) L[i],EachP (RecG tys).own css o]) zK (fun mm h=>listIns rfl hmA hcl h) ?_;refine zz 5 ?_;exact S.melt hm3 (S.wk (ih (i+1) ((a158,c158)) (o.take m++[L[i]]++o.drop m) (by exact ⟨by omega,hput,by simp;omega⟩) zD))
    ·clear ih
     have hi:i=L.length:=by omega
     subst hi;have ho:=Outs.all hok hLe hOu;rw [← ho] at hR;refine zz 7 ?_;refine S.ret2 results39 rfl rfl fun w hw=>Holds.end_ hR hw ?_;exact pk ⟨q.1,q.2,rfl,rfl⟩
theorem joins_c {r:Fr} {va:Value} {ss:List (List RecT)} (ha:Arr (Rp.slice RecRp) r va ss) (hl:ss.flatten.length≤100000000000) :
  Con prog 53 #[va] r [] (Ret fun v η=>v=.bool true∧η=[]):=by
 refine Con.of (n:=25) _ rfl func53 rfl rfl rfl fun g hg R hR=>?_;have ha:=ha.mono hg;obtain ⟨a1,c1,rfl⟩:=ha.shape;refine S.seq<|S.region rfl<|O.q 1 rfl<|O.nil<|S.seq<|S.region rfl<|O.q 1 rfl<|O.call0 (.p rfl) rfl zC rfl rfl ((sJoin_c ha hl)) ?_;rintro _ _ ⟨a9,c9,rfl,rfl⟩
 try simp only [zx1,zx2,zx3]
 refine O.q 5 rfl<|O.nil<|S.seq<|S.frzG (T:=RecRp) rfl zB fun g hs hm hX=>?_;replace hg:=Fr.sub_trans hg hs;replace hR:=melted hR hm
 try replace ha:=ha.mono hs
 clear hs hm;refine S.region rfl<|O.q 1 rfl<|O.call0 (.p rfl) rfl zC rfl rfl ((r9join_c ha hl)) ?_;rintro _ _ ⟨a14,c14,rfl,rfl⟩
 try simp only [zx1,zx2,zx3]
 refine O.q 5 rfl<|O.nil<|S.seq<|S.frzG (T:=RecRp) rfl zB fun g hs hm hY=>?_;replace hg:=Fr.sub_trans hg hs;replace hR:=melted hR hm
 try replace ha:=ha.mono hs
 try replace hX:=hX.mono hs
 try replace hX:=hX.mono hs
 clear hs hm;refine S.region rfl<|O.q 2 rfl<|O.op (.p rfl) (.eql rfl rfl)<|O.sT 19 rfl zG ?_;refine O.q 3 rfl<|O.call0 (.g rfl rfl) rfl zC rfl rfl ((sameRecords_c hX hY)) ?_;rintro _ _ ⟨rfl,rfl⟩
 try simp only [zx1,zx2,zx3]
 refine O.sT 23 rfl zG ?_;refine O.q 2 rfl<|O.nil ?_;exact S.rt results53 rfl hR ⟨rfl,rfl⟩
theorem sOutY {l:List RecT} (h:SRight l):sOut l=sB l∧sErr l=0:=⟨by unfold sOut;rw [if_pos h],by unfold sErr;rw [if_pos h]⟩
end Go.Proofs.YtodhbhanmdfdeaaGreat
