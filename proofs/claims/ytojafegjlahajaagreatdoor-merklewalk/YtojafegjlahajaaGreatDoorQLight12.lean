/- Texts of this proof. -/
import Derived.Test.YtojafegjlahajaaGreatDoorQEvid1
import Derived.Test.YtojafegjlahajaaGreatDoorQSpLight
open Go Go.Sp Go.Proofs.Tryz
set_option maxRecDepth 100000
set_option maxHeartbeats 1000000
attribute [local irreducible] obj Own OwnP
namespace Go.Proofs.YtojafegjlahajaaGreatDoor
theorem light_c {r:Fr} {va:Value} {l:List LeafT} (ha:Arr LeafRp r va l):Con prog 16 #[va] r [] (Ret fun v η=>∃ ok:Bool,(ok=true→LightOk l)∧v=.bool ok∧η=[]):=by
 have har:=ha;have hbd:=ha.bound;obtain ⟨a1,c1,rfl⟩:=ha.shape;refine Con.o func16 fun g hg R hR=>?_;have ha:=ha.mono hg;refine zz 14 ?_;refine S.loopK (ι:=Nat) (fun i=>(i≤l.length∧i≤21∧lightN l i≤461168601842738990)∧lightTo l i) (fun i=>[(3,.int .i64 (lightN l i:Int)),(4,.int .i64 (i:Int))]) [(0,_)] (fun i=>[]) (fun i=>l.length - i) (0) (by exact ⟨⟨by omega,by omega,by rw [lightN_0];omega⟩,lightTo_0 l⟩) zq zq rfl fun i hx ih=>?_;have hm1:=meltRefl (g:=g);obtain ⟨⟨hx1,hx2,hx3⟩,hto⟩:=hx
 by_cases q:i<l.length∧i<21∧lightN l i≤60
 ·obtain ⟨q1,q2,q3⟩:=q
  have hst:=lightN_succ q1;refine zz 7 ?_;refine O.sT 10 rfl (by exact zdt zB) ?_;refine zz 3 ?_;refine O.sT 13 rfl (by exact zdt zB) ?_;refine zz 4 ?_;refine O.sT 17 rfl (by exact zdt zB) ?_;refine zz 7 ?_;refine S.regionD (L:=.range 18) F.mixed zC ?_;refine zz 3 ?_;refine OD.ia (.p rfl) underlying25 size31 rfl rfl (show _=(((i):Nat):Int) by omega) zA (h:=fun p24 cs24 hp24 hr24=>?_);obtain ⟨la1_24,lc1_24,rfl,ho0_24,ha1_24⟩:=LeafRp.sh hr24;refine zz 3 ?_;refine .quiet (.p rfl) rfl (fun _=>.min2 rfl rfl)<|OD.slot 28 (v' :=.int .i64 ((min l[i].2.1.length 100:Nat):Int)) rfl (by exact congrArg (Value.int .i64) zB) ?_;refine zz 3 ?_;refine OD.ia (.p rfl) underlying25 size31 rfl rfl (show _=(((i):Nat):Int) by omega) zA (h:=fun p32 cs32 hp32 hr32=>?_);obtain ⟨la1_32,lc1_32,rfl,ho0_32,ha1_32⟩:=LeafRp.sh hr32;refine zz 3 ?_;refine OD.slot 35 (v' :=.int .i64 (l[i].1.length:Int)) rfl zI ?_;refine .quiet (.p rfl) rfl (fun _=>.quo rfl rfl zB)<|OD.slot 36 (v' :=.int .i64 ((l[i].1.length / 20:Nat):Int)) rfl (by exact congrArg (Value.int .i64) (by rw [Int.tdiv_eq_ediv_of_nonneg zB,IntWalk.i64_in _ zB];rfl)) ?_;refine zz 1 ?_;refine OD.slot 37 (v' :=.int .i64 (lightN l (i+1):Int)) rfl (by exact congrArg (Value.int .i64) zB) ?_;refine zz 7 ?_
  refine S.loopK (ι:=Nat) (fun k=>(k≤l[i].2.1.length∧k≤100)∧∀ j (hj:j<l[i].2.1.length),j<k→smallR l[i].2.1[j]) (fun k=>[(5,.int .i64 (k:Int))]) [(0,_),(3,_),(4,_)] (fun k=>[]) (fun k=>l[i].2.1.length - k) (0) (by exact ⟨⟨by omega,by omega⟩,fun _ _ h=>absurd h (Nat.not_lt_zero _)⟩) zq zq rfl fun k hx ih=>?_;have hm2:=meltRefl (g:=g);obtain ⟨⟨hk1,hk2⟩,hsm⟩:=hx
  by_cases q4:k<l[i].2.1.length∧k<100
  ·obtain ⟨q5,q6⟩:=q4
   refine zz 6 ?_;refine O.ia (.p rfl) underlying25 size31 rfl rfl (show _=(((i):Nat):Int) by omega) zA (h:=fun p41 cs41 hp41 hr41=>?_);obtain ⟨la1_41,lc1_41,rfl,ho0_41,ha1_41⟩:=LeafRp.sh hr41;refine zz 4 ?_;refine O.sT 45 rfl (by exact zdt zB)<|zz 3 ?_;refine O.sT 48 rfl (by exact zdt zB)<|zz 10 ?_;refine O.ia (.p rfl) underlying25 size31 rfl rfl (show _=(((i):Nat):Int) by omega) zA (h:=fun p54 cs54 hp54 hr54=>?_);obtain ⟨la1_54,lc1_54,rfl,ho0_54,ha1_54⟩:=LeafRp.sh hr54;refine zz 2 ?_;refine O.q 1 rfl<|O.ia (.p rfl) underlying22 size102 rfl rfl (show _=(((k):Nat):Int) by omega) zA (h:=fun p58 cs58 hp58 hr58=>?_);obtain ⟨ra3_58,ra5_58,ra6_58,rc3_58,rc5_58,rc6_58,rfl,ho0_58,ho1_58,ho2_58,ha3_58,ha5_58,ha6_58⟩:=RecRp.sh hr58;refine O.op (.p rfl) (.loadAgg isAgg102 zC rfl hp58) ?_;refine O.opE (.p rfl) (.alloc (cs:=[.string ⟨#[]⟩,.int .i64 0,.int .i64 0,.slice none 0 0,.bool false,.slice none 0 0,.slice none 0 0]) zeroValue102 rfl) ?_;rintro _ _ ⟨b6,rfl,rfl⟩;refine zz 3 ?_
   by_cases p1:l[i].2.1[k].1.length≤200
   ·by_cases p2:l[i].2.1[k].2.2.2.2.2.1.length≤2000
    ·by_cases p3:l[i].2.1[k].2.2.2.1.length≤50
     ·by_cases p4:l[i].2.1[k].2.2.2.2.2.2.1.length≤200
      ·
       refine zz 5 ?_;refine O.sF 63 rfl (by exact zdf zJ)<|zz 5 ?_;refine O.sF 68 rfl (by exact zdf zB)<|zz 6 ?_;refine O.sF 74 rfl (by exact zdf zB)<|zz 6 ?_;refine O.sF 80 rfl (by exact zdf zB)<|zz 10 ?_;exact S.pw (ih (k+1) (by exact ⟨⟨by omega,by omega⟩,fun j hj hjk=>if e:j=k then by subst e;exact ⟨p1,p2,p3,p4⟩ else hsm j hj zB⟩) zB)
      ·
       refine zz 5 ?_;refine O.sF 63 rfl (by exact zdf zJ)<|zz 5 ?_;refine O.sF 68 rfl (by exact zdf zB)<|zz 6 ?_;refine O.sF 74 rfl (by exact zdf zB)<|zz 6 ?_;refine O.sT 80 rfl (by exact zdt zB)<|zz 7 ?_;exact S.rt results16 rfl hR ⟨false,fun h=>absurd h zE,rfl,rfl⟩
     ·
      refine zz 5 ?_;refine O.sF 63 rfl (by exact zdf zJ)<|zz 5 ?_;refine O.sF 68 rfl (by exact zdf zB)<|zz 6 ?_;refine O.sT 74 rfl (by exact zdt zB)<|zz 13 ?_;exact S.rt results16 rfl hR ⟨false,fun h=>absurd h zE,rfl,rfl⟩
    ·
     refine zz 5 ?_;refine O.sF 63 rfl (by exact zdf zJ)<|zz 5 ?_;refine O.sT 68 rfl (by exact zdt zB)<|zz 19 ?_;exact S.rt results16 rfl hR ⟨false,fun h=>absurd h zE,rfl,rfl⟩
   ·
    refine zz 5 ?_;refine O.sT 63 rfl (by exact zdt zJ)<|zz 24 ?_;exact S.rt results16 rfl hR ⟨false,fun h=>absurd h zE,rfl,rfl⟩
  ·clear ih
   have hto2:=lightTo_succ q1 hto fun j hj hj1=>hsm j hj zB
   by_cases q7:k<l[i].2.1.length
   ·refine zz 6 ?_
    refine O.ia (.p rfl) underlying25 size31 rfl rfl (show _=(((i):Nat):Int) by omega) zA (h:=fun p41 cs41 hp41 hr41=>?_);obtain ⟨la1_41,lc1_41,rfl,ho0_41,ha1_41⟩:=LeafRp.sh hr41;refine zz 4 ?_;refine O.sT 45 rfl (by exact zdt zB)<|zz 3 ?_;refine O.sF 48 rfl (by exact zdf zB)<|zz 10 ?_;exact S.wk (ih (i+1) (by exact ⟨⟨by omega,by omega,by omega⟩,hto2⟩) zB)
   ·
    refine zz 6 ?_;refine O.ia (.p rfl) underlying25 size31 rfl rfl (show _=(((i):Nat):Int) by omega) zA (h:=fun p41 cs41 hp41 hr41=>?_);obtain ⟨la1_41,lc1_41,rfl,ho0_41,ha1_41⟩:=LeafRp.sh hr41;refine zz 4 ?_;refine O.sF 45 rfl (by exact zdf zB)<|zz 13 ?_;exact S.wk (ih (i+1) (by exact ⟨⟨by omega,by omega,by omega⟩,hto2⟩) zB)
 ·clear ih
  by_cases e1:i<l.length
  ·by_cases e2:i<21
   ·have e3:¬ lightN l i≤60:=fun z=>q ⟨e1,e2,z⟩
    refine zz 7 ?_;refine O.sT 10 rfl (by exact zdt zB)<|zz 3 ?_;refine O.sT 13 rfl (by exact zdt zB)<|zz 4 ?_;refine O.sF 17 rfl (by exact zdf zB)<|zz 5 ?_
    by_cases e4:l.length≤20
    ·
     refine zz 4 ?_;refine O.sT 84 rfl (by exact zdt zB)<|zz 3 ?_;refine O.sF 87 rfl (by exact zdf zB)<|zz 3 ?_;exact S.rt results16 rfl hR ⟨false,fun h=>absurd h zE,rfl,rfl⟩
    ·
     refine zz 4 ?_;refine O.sF 84 rfl (by exact zdf zB)<|zz 6 ?_;exact S.rt results16 rfl hR ⟨false,fun h=>absurd h zE,rfl,rfl⟩
   ·
    refine zz 7 ?_;refine O.sT 10 rfl (by exact zdt zB)<|zz 3 ?_;refine O.sF 13 rfl (by exact zdf zB)<|zz 13 ?_;refine O.sF 84 rfl (by exact zdf zB)<|zz 6 ?_;exact S.rt results16 rfl hR ⟨false,fun h=>absurd h zE,rfl,rfl⟩
  ·have e5:i=l.length:=by omega
   refine zz 7 ?_;refine O.sF 10 rfl (by exact zdf zB)<|zz 12 ?_
   by_cases e4:l.length≤20
   ·by_cases e6:lightN l i≤60
    ·
     refine zz 4 ?_;refine O.sT 84 rfl (by exact zdt zB)<|zz 3 ?_;refine O.sT 87 rfl (by exact zdt zB)<|zz 3 ?_;exact S.rt results16 rfl hR ⟨true,fun _=>by subst e5;exact light_done e4 e6 hto,rfl,rfl⟩
    ·
     refine zz 4 ?_;refine O.sT 84 rfl (by exact zdt zB)<|zz 3 ?_;refine O.sF 87 rfl (by exact zdf zB)<|zz 3 ?_;exact S.rt results16 rfl hR ⟨false,fun h=>absurd h zE,rfl,rfl⟩
   ·
    refine zz 4 ?_;refine O.sF 84 rfl (by exact zdf zB)<|zz 6 ?_;exact S.rt results16 rfl hR ⟨false,fun h=>absurd h zE,rfl,rfl⟩
end Go.Proofs.YtojafegjlahajaaGreatDoor
