/- Texts of this proof. -/
import Derived.Test.YtojafegjlahajaaGreatDoorQSpLight
import Derived.Test.YtojafegjlahajaaGreatDoorQTree7
open Go Go.Sp Go.Proofs.Tryz
set_option maxRecDepth 100000
set_option maxHeartbeats 1000000
attribute [local irreducible] obj Own OwnP
namespace Go.Proofs.YtojafegjlahajaaGreatDoor
theorem light_c {r:Fr} {va:Value} {l:List LeafT} (ha:Arr LeafRp r va l):Con prog 16 #[va] r [] (Ret fun v η=>∃ ok:Bool,(ok=true→LightOk l)∧v=.bool ok∧η=[]):=by
 have har:=ha;have hbd:=ha.bound;obtain ⟨a1,c1,rfl⟩:=ha.shape;refine Con.of (n:=89) _ rfl func16 rfl rfl rfl fun g hg R hR=>?_;have ha:=ha.mono hg;refine S.seq<|S.region rfl<|O.q 1 rfl<|O.nil<|S.seq<|S.region rfl<|O.q 1 rfl<|O.nil<|S.seq<|S.seq<|S.region rfl<|O.q 1 rfl<|O.nil<|S.block<|S.loopK (ι:=Nat) (fun i=>(i≤l.length∧i≤21∧lightN l i≤461168601842738990)∧lightTo l i) (fun i=>[(3,.int .i64 (lightN l i:Int)),(4,.int .i64 (i:Int))]) [(0,_)] (fun i=>[]) (fun i=>l.length - i) (0) (by exact ⟨⟨by omega,by omega,by rw [lightN_0];omega⟩,lightTo_0 l⟩) (.cons rfl (.cons rfl (.nil))) (.cons rfl (.nil)) rfl fun i hx ih=>?_;have hm1:=meltRefl (g:=g);obtain ⟨⟨hx1,hx2,hx3⟩,hto⟩:=hx
 by_cases q:i<l.length∧i<21∧lightN l i≤60
 ·obtain ⟨q1,q2,q3⟩:=q
  have hst:=lightN_succ q1;refine S.seq<|S.seq<|S.region rfl<|O.q 2 rfl<|O.op (.p rfl) (.len rfl underlying25 rfl)<|O.op (.p rfl) (.lss rfl rfl)<|O.sT 10 rfl (by exact decide_eq_true zB) ?_;refine O.q 2 rfl<|O.op (.g rfl rfl) (.lss rfl rfl)<|O.sT 13 rfl (by exact decide_eq_true zB) ?_;refine O.q 3 rfl<|O.op (.g rfl rfl) (.leq rfl rfl)<|O.sT 17 rfl (by exact decide_eq_true zB) ?_;refine O.q 1 rfl<|O.nil<|S.condT rfl<|S.skip<|S.seq<|S.block<|S.seq<|S.regionD (L:=[0,1,2,3,4,5,6,7,8,9,10,11,12,13,14,15,16,17]) F.mixed zC<|OD.q 3 rfl<|OD.ia (.p rfl) underlying25 size31 rfl rfl (show _=(((i):Nat):Int) by omega) (by first|assumption|exact Arr.mono hg zE|exact Arr.left zE|exact Arr.left (Arr.mono hg zE)) (h:=fun p24 cs24 hp24 hr24=>?_);obtain ⟨la1_24,lc1_24,rfl,ho0_24,ha1_24⟩:=LeafRp.sh hr24;refine .quiet (.p rfl) rfl (fun _=>.fieldAddr fld31x1 rfl)<|.quiet (.p rfl) rfl (fun _=>.loadAt flat22 rfl (hp24.drop 1) rfl) ?_;refine .quiet (.p rfl) rfl (fun _=>.len rfl underlying22 rfl)<|.quiet (.p rfl) rfl (fun _=>.min2 rfl rfl)<|OD.slot 28 (v' :=.int .i64 ((min l[i].2.1.length 100:Nat):Int)) rfl (by exact congrArg (Value.int .i64) zB) ?_
  refine .quiet (.p rfl) rfl (fun _=>.add rfl rfl (IntWalk.i64_in _ zB))<|OD.q 2 rfl<|OD.ia (.p rfl) underlying25 size31 rfl rfl (show _=(((i):Nat):Int) by omega) (by first|assumption|exact Arr.mono hg zE|exact Arr.left zE|exact Arr.left (Arr.mono hg zE)) (h:=fun p32 cs32 hp32 hr32=>?_);obtain ⟨la1_32,lc1_32,rfl,ho0_32,ha1_32⟩:=LeafRp.sh hr32;refine .quiet (.p rfl) rfl (fun _=>.fieldAddr fld31x0 rfl)<|.quiet (.p rfl) rfl (fun _=>.loadAt flat9 rfl hp32 rfl) ?_;refine .quiet (.p rfl) rfl (fun _=>.lenS rfl underlying9 rfl)<|OD.slot 35 (v' :=.int .i64 (l[i].1.length:Int)) rfl zI ?_;refine .quiet (.p rfl) rfl (fun _=>.quo rfl rfl zB)<|OD.slot 36 (v' :=.int .i64 ((l[i].1.length / 20:Nat):Int)) rfl (by exact congrArg (Value.int .i64) (by rw [Int.tdiv_eq_ediv_of_nonneg zB,IntWalk.i64_in _ zB];rfl)) ?_;refine .quiet (.p rfl) rfl (fun _=>.add rfl rfl (IntWalk.i64_in _ zB))<|OD.slot 37 (v' :=.int .i64 (lightN l (i+1):Int)) rfl (by exact congrArg (Value.int .i64) zB) ?_
  refine OD.q 1 rfl<|ODx.nil<|S.seq<|S.region rfl<|O.q 1 rfl<|O.nil<|S.block<|S.loopK (ι:=Nat) (fun k=>(k≤l[i].2.1.length∧k≤100)∧∀ j (hj:j<l[i].2.1.length),j<k→smallR l[i].2.1[j]) (fun k=>[(5,.int .i64 (k:Int))]) [(0,_),(3,_),(4,_)] (fun k=>[]) (fun k=>l[i].2.1.length - k) (0) (by exact ⟨⟨by omega,by omega⟩,fun _ _ h=>absurd h (Nat.not_lt_zero _)⟩) (.cons rfl (.nil)) (.cons rfl (.cons rfl (.cons rfl (.nil)))) rfl fun k hx ih=>?_;have hm2:=meltRefl (g:=g);obtain ⟨⟨hk1,hk2⟩,hsm⟩:=hx
  by_cases q4:k<l[i].2.1.length∧k<100
  ·obtain ⟨q5,q6⟩:=q4
   refine S.seq<|S.seq<|S.region rfl<|O.q 3 rfl<|O.ia (.p rfl) underlying25 size31 rfl rfl (show _=(((i):Nat):Int) by omega) (by first|assumption|exact Arr.mono hg zE|exact Arr.left zE|exact Arr.left (Arr.mono hg zE)) (h:=fun p41 cs41 hp41 hr41=>?_);obtain ⟨la1_41,lc1_41,rfl,ho0_41,ha1_41⟩:=LeafRp.sh hr41;refine O.op (.p rfl) (.fieldAddr fld31x1 rfl)<|O.op (.p rfl) (.loadAt flat22 rfl (hp41.drop 1) rfl) ?_;refine O.op (.p rfl) (.len rfl underlying22 rfl)<|O.op (.p rfl) (.lss rfl rfl)<|O.sT 45 rfl (by exact decide_eq_true zB) ?_;refine O.q 2 rfl<|O.op (.g rfl rfl) (.lss rfl rfl)<|O.sT 48 rfl (by exact decide_eq_true zB) ?_;refine O.q 1 rfl<|O.nil<|S.condT rfl<|S.skip<|S.seq<|S.block<|S.seq<|S.region rfl<|O.q 2 rfl<|O.ia (.p rfl) underlying25 size31 rfl rfl (show _=(((i):Nat):Int) by omega) (by first|assumption|exact Arr.mono hg zE|exact Arr.left zE|exact Arr.left (Arr.mono hg zE)) (h:=fun p54 cs54 hp54 hr54=>?_);obtain ⟨la1_54,lc1_54,rfl,ho0_54,ha1_54⟩:=LeafRp.sh hr54;refine O.op (.p rfl) (.fieldAddr fld31x1 rfl)<|O.op (.p rfl) (.loadAt flat22 rfl (hp54.drop 1) rfl) ?_;refine O.q 1 rfl<|O.ia (.p rfl) underlying22 size102 rfl rfl (show _=(((k):Nat):Int) by omega) (by first|assumption|exact Arr.mono hg zE|exact Arr.left zE|exact Arr.left (Arr.mono hg zE)) (h:=fun p58 cs58 hp58 hr58=>?_)
   obtain ⟨ra3_58,ra5_58,ra6_58,rc3_58,rc5_58,rc6_58,rfl,ho0_58,ho1_58,ho2_58,ha3_58,ha5_58,ha6_58⟩:=RecRp.sh hr58;refine O.op (.p rfl) (.loadAgg isAgg102 zC rfl hp58) ?_;refine O.opE (.p rfl) (.alloc (cs:=[.string ⟨#[]⟩,.int .i64 0,.int .i64 0,.slice none 0 0,.bool false,.slice none 0 0,.slice none 0 0]) zeroValue102 rfl) ?_;rintro _ _ ⟨b6,rfl,rfl⟩;refine O.opU rfl (.storeObj zC rfl rfl rfl rfl zD zJ) ?_;refine O.nil (S.seq ?_)
   by_cases p1:l[i].2.1[k].1.length≤200
   ·by_cases p2:l[i].2.1[k].2.2.2.2.2.1.length≤2000
    ·by_cases p3:l[i].2.1[k].2.2.2.1.length≤50
     ·by_cases p4:l[i].2.1[k].2.2.2.2.2.2.1.length≤200
      ·
       refine S.region rfl<|O.op (.p rfl) (.fieldObj fld102x0 rfl)<|O.op (.p rfl) (.lo flat9) ?_;refine O.op (.p rfl) (.lenS rfl underlying9 rfl)<|O.op (.p rfl) (.gtr rfl rfl)<|O.sF 63 rfl (by exact decide_eq_false zK) ?_;refine O.q 1 rfl<|O.op (.g rfl rfl) (.fieldObj fld102x5 rfl)<|O.op (.g rfl rfl) (.lo flat24) ?_;refine O.op (.g rfl rfl) (.len rfl underlying24 rfl)<|O.op (.g rfl rfl) (.gtr rfl rfl)<|O.sF 68 rfl (by exact decide_eq_false zB) ?_;refine O.q 2 rfl<|O.op (.g rfl rfl) (.fieldObj fld102x3 rfl)<|O.op (.g rfl rfl) (.lo flat100) ?_;refine O.op (.g rfl rfl) (.len rfl underlying100 rfl)<|O.op (.g rfl rfl) (.gtr rfl rfl)<|O.sF 74 rfl (by exact decide_eq_false zB) ?_;refine O.q 2 rfl<|O.op (.g rfl rfl) (.fieldObj fld102x6 rfl)<|O.op (.g rfl rfl) (.lo flat24) ?_;refine O.op (.g rfl rfl) (.len rfl underlying24 rfl)<|O.op (.g rfl rfl) (.gtr rfl rfl)<|O.sF 80 rfl (by exact decide_eq_false zB) ?_;refine O.q 1 rfl<|O.nil<|S.condF rfl<|S.skip<|S.inBlock<|S.region rfl<|O.q 1 rfl<|O.op (.p rfl) (.add rfl rfl (IntWalk.i64_in _ zB))<|O.q 1 rfl<|O.nil ?_;exact S.pw (ih (k+1) (by exact ⟨⟨by omega,by omega⟩,fun j hj hjk=>if e:j=k then by subst e;exact ⟨p1,p2,p3,p4⟩ else hsm j hj zB⟩) zB)
      ·
       refine S.region rfl<|O.op (.p rfl) (.fieldObj fld102x0 rfl)<|O.op (.p rfl) (.lo flat9) ?_;refine O.op (.p rfl) (.lenS rfl underlying9 rfl)<|O.op (.p rfl) (.gtr rfl rfl)<|O.sF 63 rfl (by exact decide_eq_false zK) ?_;refine O.q 1 rfl<|O.op (.g rfl rfl) (.fieldObj fld102x5 rfl)<|O.op (.g rfl rfl) (.lo flat24) ?_;refine O.op (.g rfl rfl) (.len rfl underlying24 rfl)<|O.op (.g rfl rfl) (.gtr rfl rfl)<|O.sF 68 rfl (by exact decide_eq_false zB) ?_;refine O.q 2 rfl<|O.op (.g rfl rfl) (.fieldObj fld102x3 rfl)<|O.op (.g rfl rfl) (.lo flat100) ?_;refine O.op (.g rfl rfl) (.len rfl underlying100 rfl)<|O.op (.g rfl rfl) (.gtr rfl rfl)<|O.sF 74 rfl (by exact decide_eq_false zB) ?_;refine O.q 2 rfl<|O.op (.g rfl rfl) (.fieldObj fld102x6 rfl)<|O.op (.g rfl rfl) (.lo flat24) ?_;refine O.op (.g rfl rfl) (.len rfl underlying24 rfl)<|O.op (.g rfl rfl) (.gtr rfl rfl)<|O.sT 80 rfl (by exact decide_eq_true zB) ?_;refine O.q 1 rfl<|O.nil<|S.condT rfl<|S.seq<|S.region rfl<|O.q 1 rfl<|O.nil ?_;exact S.rt results16 rfl hR ⟨false,fun h=>absurd h zF,rfl,rfl⟩
     ·
      refine S.region rfl<|O.op (.p rfl) (.fieldObj fld102x0 rfl)<|O.op (.p rfl) (.lo flat9) ?_;refine O.op (.p rfl) (.lenS rfl underlying9 rfl)<|O.op (.p rfl) (.gtr rfl rfl)<|O.sF 63 rfl (by exact decide_eq_false zK) ?_;refine O.q 1 rfl<|O.op (.g rfl rfl) (.fieldObj fld102x5 rfl)<|O.op (.g rfl rfl) (.lo flat24) ?_;refine O.op (.g rfl rfl) (.len rfl underlying24 rfl)<|O.op (.g rfl rfl) (.gtr rfl rfl)<|O.sF 68 rfl (by exact decide_eq_false zB) ?_;refine O.q 2 rfl<|O.op (.g rfl rfl) (.fieldObj fld102x3 rfl)<|O.op (.g rfl rfl) (.lo flat100) ?_;refine O.op (.g rfl rfl) (.len rfl underlying100 rfl)<|O.op (.g rfl rfl) (.gtr rfl rfl)<|O.sT 74 rfl (by exact decide_eq_true zB) ?_;refine O.q 7 rfl<|O.nil<|S.condT rfl<|S.seq<|S.region rfl<|O.q 1 rfl<|O.nil ?_;exact S.rt results16 rfl hR ⟨false,fun h=>absurd h zF,rfl,rfl⟩
    ·
     refine S.region rfl<|O.op (.p rfl) (.fieldObj fld102x0 rfl)<|O.op (.p rfl) (.lo flat9) ?_;refine O.op (.p rfl) (.lenS rfl underlying9 rfl)<|O.op (.p rfl) (.gtr rfl rfl)<|O.sF 63 rfl (by exact decide_eq_false zK) ?_;refine O.q 1 rfl<|O.op (.g rfl rfl) (.fieldObj fld102x5 rfl)<|O.op (.g rfl rfl) (.lo flat24) ?_;refine O.op (.g rfl rfl) (.len rfl underlying24 rfl)<|O.op (.g rfl rfl) (.gtr rfl rfl)<|O.sT 68 rfl (by exact decide_eq_true zB) ?_;refine O.q 13 rfl<|O.nil<|S.condT rfl<|S.seq<|S.region rfl<|O.q 1 rfl<|O.nil ?_;exact S.rt results16 rfl hR ⟨false,fun h=>absurd h zF,rfl,rfl⟩
   ·
    refine S.region rfl<|O.op (.p rfl) (.fieldObj fld102x0 rfl)<|O.op (.p rfl) (.lo flat9) ?_;refine O.op (.p rfl) (.lenS rfl underlying9 rfl)<|O.op (.p rfl) (.gtr rfl rfl)<|O.sT 63 rfl (by exact decide_eq_true zK) ?_;refine O.q 18 rfl<|O.nil<|S.condT rfl<|S.seq<|S.region rfl<|O.q 1 rfl<|O.nil ?_;exact S.rt results16 rfl hR ⟨false,fun h=>absurd h zF,rfl,rfl⟩
  ·clear ih
   have hto2:=lightTo_succ q1 hto fun j hj hj1=>hsm j hj zB
   by_cases q7:k<l[i].2.1.length
   ·refine S.seq<|S.seq<|S.region rfl<|O.q 3 rfl<|O.ia (.p rfl) underlying25 size31 rfl rfl (show _=(((i):Nat):Int) by omega) (by first|assumption|exact Arr.mono hg zE|exact Arr.left zE|exact Arr.left (Arr.mono hg zE)) (h:=fun p41 cs41 hp41 hr41=>?_)
    obtain ⟨la1_41,lc1_41,rfl,ho0_41,ha1_41⟩:=LeafRp.sh hr41;refine O.op (.p rfl) (.fieldAddr fld31x1 rfl)<|O.op (.p rfl) (.loadAt flat22 rfl (hp41.drop 1) rfl) ?_;refine O.op (.p rfl) (.len rfl underlying22 rfl)<|O.op (.p rfl) (.lss rfl rfl)<|O.sT 45 rfl (by exact decide_eq_true zB) ?_;refine O.q 2 rfl<|O.op (.g rfl rfl) (.lss rfl rfl)<|O.sF 48 rfl (by exact decide_eq_false zB) ?_;refine O.q 1 rfl<|O.nil<|S.condF rfl<|S.exit rfl<|S.inBlock<|S.region rfl<|O.q 1 rfl<|O.op (.p rfl) (.add rfl rfl (IntWalk.i64_in _ zB))<|O.q 1 rfl<|O.nil ?_;exact S.wk (ih (i+1) (by exact ⟨⟨by omega,by omega,by omega⟩,hto2⟩) zB)
   ·
    refine S.seq<|S.seq<|S.region rfl<|O.q 3 rfl<|O.ia (.p rfl) underlying25 size31 rfl rfl (show _=(((i):Nat):Int) by omega) (by first|assumption|exact Arr.mono hg zE|exact Arr.left zE|exact Arr.left (Arr.mono hg zE)) (h:=fun p41 cs41 hp41 hr41=>?_);obtain ⟨la1_41,lc1_41,rfl,ho0_41,ha1_41⟩:=LeafRp.sh hr41;refine O.op (.p rfl) (.fieldAddr fld31x1 rfl)<|O.op (.p rfl) (.loadAt flat22 rfl (hp41.drop 1) rfl) ?_;refine O.op (.p rfl) (.len rfl underlying22 rfl)<|O.op (.p rfl) (.lss rfl rfl)<|O.sF 45 rfl (by exact decide_eq_false zB) ?_;refine O.q 4 rfl<|O.nil<|S.condF rfl<|S.exit rfl<|S.inBlock<|S.region rfl<|O.q 1 rfl<|O.op (.p rfl) (.add rfl rfl (IntWalk.i64_in _ zB))<|O.q 1 rfl<|O.nil ?_;exact S.wk (ih (i+1) (by exact ⟨⟨by omega,by omega,by omega⟩,hto2⟩) zB)
 ·clear ih
  by_cases e1:i<l.length
  ·by_cases e2:i<21
   ·have e3:¬ lightN l i≤60:=fun z=>q ⟨e1,e2,z⟩
    refine S.seq<|S.seq<|S.region rfl<|O.q 2 rfl<|O.op (.p rfl) (.len rfl underlying25 rfl)<|O.op (.p rfl) (.lss rfl rfl)<|O.sT 10 rfl (by exact decide_eq_true zB) ?_;refine O.q 2 rfl<|O.op (.g rfl rfl) (.lss rfl rfl)<|O.sT 13 rfl (by exact decide_eq_true zB) ?_;refine O.q 3 rfl<|O.op (.g rfl rfl) (.leq rfl rfl)<|O.sF 17 rfl (by exact decide_eq_false zB) ?_;refine O.q 1 rfl<|O.nil<|S.condF rfl<|S.exit rfl<|S.seq ?_
    by_cases e4:l.length≤20
    ·
     refine S.region rfl<|O.q 1 rfl<|O.op (.p rfl) (.len rfl underlying25 rfl)<|O.op (.p rfl) (.leq rfl rfl)<|O.sT 84 rfl (by exact decide_eq_true zB) ?_;refine O.q 2 rfl<|O.op (.g rfl rfl) (.leq rfl rfl)<|O.sF 87 rfl (by exact decide_eq_false zB) ?_;refine O.q 2 rfl<|O.nil ?_;exact S.rt results16 rfl hR ⟨false,fun h=>absurd h zF,rfl,rfl⟩
    ·
     refine S.region rfl<|O.q 1 rfl<|O.op (.p rfl) (.len rfl underlying25 rfl)<|O.op (.p rfl) (.leq rfl rfl)<|O.sF 84 rfl (by exact decide_eq_false zB) ?_;refine O.q 5 rfl<|O.nil ?_;exact S.rt results16 rfl hR ⟨false,fun h=>absurd h zF,rfl,rfl⟩
   ·
    refine S.seq<|S.seq<|S.region rfl<|O.q 2 rfl<|O.op (.p rfl) (.len rfl underlying25 rfl)<|O.op (.p rfl) (.lss rfl rfl)<|O.sT 10 rfl (by exact decide_eq_true zB) ?_;refine O.q 2 rfl<|O.op (.g rfl rfl) (.lss rfl rfl)<|O.sF 13 rfl (by exact decide_eq_false zB) ?_;refine O.q 5 rfl<|O.nil<|S.condF rfl<|S.exit rfl<|S.seq<|S.region rfl<|O.q 1 rfl<|O.op (.p rfl) (.len rfl underlying25 rfl)<|O.op (.p rfl) (.leq rfl rfl)<|O.sF 84 rfl (by exact decide_eq_false zB) ?_;refine O.q 5 rfl<|O.nil ?_;exact S.rt results16 rfl hR ⟨false,fun h=>absurd h zF,rfl,rfl⟩
  ·have e5:i=l.length:=by omega
   refine S.seq<|S.seq<|S.region rfl<|O.q 2 rfl<|O.op (.p rfl) (.len rfl underlying25 rfl)<|O.op (.p rfl) (.lss rfl rfl)<|O.sF 10 rfl (by exact decide_eq_false zB) ?_;refine O.q 8 rfl<|O.nil<|S.condF rfl<|S.exit rfl<|S.seq ?_
   by_cases e4:l.length≤20
   ·by_cases e6:lightN l i≤60
    ·
     refine S.region rfl<|O.q 1 rfl<|O.op (.p rfl) (.len rfl underlying25 rfl)<|O.op (.p rfl) (.leq rfl rfl)<|O.sT 84 rfl (by exact decide_eq_true zB) ?_;refine O.q 2 rfl<|O.op (.g rfl rfl) (.leq rfl rfl)<|O.sT 87 rfl (by exact decide_eq_true zB) ?_;refine O.q 2 rfl<|O.nil ?_;exact S.rt results16 rfl hR ⟨true,fun _=>by subst e5;exact light_done e4 e6 hto,rfl,rfl⟩
    ·
     refine S.region rfl<|O.q 1 rfl<|O.op (.p rfl) (.len rfl underlying25 rfl)<|O.op (.p rfl) (.leq rfl rfl)<|O.sT 84 rfl (by exact decide_eq_true zB) ?_;refine O.q 2 rfl<|O.op (.g rfl rfl) (.leq rfl rfl)<|O.sF 87 rfl (by exact decide_eq_false zB) ?_;refine O.q 2 rfl<|O.nil ?_;exact S.rt results16 rfl hR ⟨false,fun h=>absurd h zF,rfl,rfl⟩
   ·
    refine S.region rfl<|O.q 1 rfl<|O.op (.p rfl) (.len rfl underlying25 rfl)<|O.op (.p rfl) (.leq rfl rfl)<|O.sF 84 rfl (by exact decide_eq_false zB) ?_;refine O.q 5 rfl<|O.nil ?_;exact S.rt results16 rfl hR ⟨false,fun h=>absurd h zF,rfl,rfl⟩
attribute [local irreducible] treeNode treeSum
theorem treeSum_none (p:List UInt8):treeSum [] p=shaSum [0]:=by
 have h:=treeNode_ok (TreeOk.nil 0) p;rw [← treeSum_eq];rw [treeNode_0 (show underL p []=[] from rfl)] at h ⊢;rw [nodeSumY h];rfl
theorem nodeT_none:nodeT [] []=(1,[],[],[],()):=by
 unfold nodeT;rw [if_pos ⟨by simp,fun c hc=>by cases hc⟩,treeNode_0 (show underL [] []=[] from rfl)]
theorem nodeE_none:nodeE []=0:=by unfold nodeE;rw [if_pos ⟨by simp,fun c hc=>by cases hc⟩]
theorem sumT_none:sumT_q [] [48,49]=shaSum [0]:=by
 unfold sumT_q;rw [if_pos ⟨by simp,fun c hc=>by simp at hc;rcases hc with h|h<;>simp [h]⟩,treeSum_none]
theorem awake_c {r:Fr} (hH:At r ⟨0,0,none⟩ (w64s shaH)) (hK:At r ⟨1,0,none⟩ (w64s shaK)):Con prog 15 #[] r [] (Ret fun v η=>v=.bool true∧η=[]):=by
 refine Con.of (n:=43) _ rfl func15 rfl rfl rfl fun g hg R hR=>?_;have hH:=hH.mono hg;have hK:=hK.mono hg;have h64:(shaSum [0]).length=64:=shaSum_len _;have htop:(topP ((0:Nat):Int) (treeSum [] [])).length=64:=by rw [treeSum_none];unfold topP;rw [if_pos ⟨by omega,by omega,h64⟩,shaSum_len]
 have htop2:(topP 0 (shaSum [0])).length=64:=by unfold topP;rw [if_pos ⟨by omega,by omega,h64⟩,shaSum_len]
 have hT:TreeH g.h Fr.emp 0 []:=⟨Fr.emp_sub _,TreeOk.nil 0,⟨by simp,fun _ h=>by cases h⟩,hH,hK⟩;refine S.seq<|S.region rfl<|O.q 1 rfl<|O.nil<|S.seq<|S.region rfl<|O.call0 (.p rfl) rfl zC rfl rfl ((new_yes (s:=0) zF)) ?_;rintro _ _ ⟨b5,rfl,rfl⟩
 try simp only [zx1,zx2,zx3]
 refine O.q 1 rfl<|O.nil<|S.seq<|S.region rfl<|O.q 1 rfl<|O.callS (.p rfl) rfl zC rfl rfl zD (tNode_c (p:=[]) hT zI) ?_;rintro _ _ ⟨q1,d1,q2,d2,q3,d3,rfl,rfl⟩
 try simp only [zx1,zx2,zx3]
 rw [nodeT_none,nodeE_none];refine O.q 3 rfl<|O.opE (.p rfl) (.alloc (cs:=[.int .u8 0,.slice none 0 0,.slice none 0 0,.slice none 0 0]) zeroValue27 rfl) ?_;rintro _ _ ⟨b2,rfl,rfl⟩;refine O.opU rfl (.storeObj zC rfl rfl rfl rfl zD zJ) ?_;refine O.q 1 rfl<|O.nil<|S.seq<|S.region rfl<|O.opE (.p rfl) (.litP (T:=Rp.u8) (ys:=[0]) underlying24 elem5 zF rfl rfl ⟨rfl,trivial⟩ zF) ?_;rintro _ _ ⟨a11,c11,rfl,rfl⟩;refine O.frzA zD fun g hs hm ha11=>?_;replace hg:=Fr.sub_trans hg hs;replace hR:=melted hR hm
 try replace hH:=hH.mono hs
 try replace hK:=hK.mono hs
 try replace hT:=hT.mono hs
 clear hs hm;refine O.call0 (.p rfl) rfl zC rfl rfl ((r1sum_c ha11 zI)) ?_;rintro _ _ ⟨a12,c12,rfl,rfl⟩
 try simp only [zx1,zx2,zx3]
 refine O.frzA zD fun g hs hm ha12=>?_;replace hg:=Fr.sub_trans hg hs;replace hR:=melted hR hm
 try replace hH:=hH.mono hs
 try replace hK:=hK.mono hs
 try replace hT:=hT.mono hs
 try replace ha11:=ha11.mono hs
 clear hs hm;refine O.q 1 rfl<|O.nil<|S.seq<|S.region rfl<|O.q 1 rfl<|O.op (.p rfl) (.eql rfl rfl)<|O.sT 14 rfl zP ?_;refine O.q 1 rfl<|O.op (.g rfl rfl) (.fieldObj fld27x0 rfl)<|O.op (.g rfl rfl) (.lo flat23) ?_;refine O.op (.g rfl rfl) (.eql rfl rfl)<|O.sT 18 rfl zP ?_;refine O.q 3 rfl<|O.callS (.g rfl rfl) rfl zC rfl rfl zD (tTop_c hT zF) ?_;rintro _ _ ⟨a22,c22,rfl,rfl⟩
 try simp only [zx1,zx2,zx3]
 refine O.frzA zD fun g hs hm ha22=>?_;replace hg:=Fr.sub_trans hg hs;replace hR:=melted hR hm
 try replace hH:=hH.mono hs
 try replace hK:=hK.mono hs
 try replace hT:=hT.mono hs
 try replace ha11:=ha11.mono hs
 try replace ha12:=ha12.mono hs
 clear hs hm;refine O.q 1 rfl<|O.call0 (.g rfl rfl) rfl zC rfl rfl ((topSum_c ha12 (⟨by decide,by decide⟩:InI64 0) hH hK zB)) ?_;rintro _ _ ⟨a24,c24,rfl,rfl⟩
 try simp only [zx1,zx2,zx3]
 refine O.frzA zD fun g hs hm ha24=>?_;replace hg:=Fr.sub_trans hg hs;replace hR:=melted hR hm
 try replace hH:=hH.mono hs
 try replace hK:=hK.mono hs
 try replace hT:=hT.mono hs
 try replace ha11:=ha11.mono hs
 try replace ha12:=ha12.mono hs
 try replace ha22:=ha22.mono hs
 clear hs hm;refine O.call0 (.g rfl rfl) rfl zC rfl rfl ((SameBytes_c ha22 ha24)) ?_;rintro _ _ ⟨rfl,rfl⟩
 try simp only [zx1,zx2,zx3]
 refine O.sT 25 rfl (by exact decide_eq_true (by rw [treeSum_none];rfl)) ?_;refine O.q 3 rfl<|O.callS (.g rfl rfl) rfl zC rfl rfl zD (tTop_c hT zF) ?_;rintro _ _ ⟨a29,c29,rfl,rfl⟩
 try simp only [zx1,zx2,zx3]
 refine O.frzA zD fun g hs hm ha29=>?_;replace hg:=Fr.sub_trans hg hs;replace hR:=melted hR hm
 try replace hH:=hH.mono hs
 try replace hK:=hK.mono hs
 try replace hT:=hT.mono hs
 try replace ha11:=ha11.mono hs
 try replace ha12:=ha12.mono hs
 try replace ha22:=ha22.mono hs
 try replace ha24:=ha24.mono hs
 clear hs hm;refine O.op (.g rfl rfl) (.len rfl underlying24 rfl)<|O.op (.g rfl rfl) (.eql rfl rfl)<|O.sT 31 rfl zP ?_;refine O.q 3 rfl<|O.callS (.g rfl rfl) rfl zC rfl rfl zD (tSum_c (p:=[48,49]) hT zI) ?_;rintro _ _ ⟨a35,c35,rfl,rfl⟩
 try simp only [zx1,zx2,zx3]
 rw [sumT_none];refine O.frzA zD fun g hs hm ha35=>?_;replace hg:=Fr.sub_trans hg hs;replace hR:=melted hR hm
 try replace hH:=hH.mono hs
 try replace hK:=hK.mono hs
 try replace hT:=hT.mono hs
 try replace ha11:=ha11.mono hs
 try replace ha12:=ha12.mono hs
 try replace ha22:=ha22.mono hs
 try replace ha24:=ha24.mono hs
 try replace ha29:=ha29.mono hs
 clear hs hm;refine O.q 1 rfl<|O.call0 (.g rfl rfl) rfl zC rfl rfl ((SameBytes_c ha35 ha12)) ?_;rintro _ _ ⟨rfl,rfl⟩
 try simp only [zx1,zx2,zx3]
 refine O.sT 37 rfl zI ?_;refine O.q 2 rfl<|O.call0 (.g rfl rfl) rfl zC rfl rfl ((new_no (.inr zF))) ?_;rintro _ _ ⟨rfl,rfl⟩
 try simp only [zx1,zx2,zx3]
 refine O.op (.g rfl rfl) (.eqlP underlying42 rfl rfl)<|O.sT 41 rfl zP ?_;refine O.q 2 rfl<|O.nil ?_;exact S.rt results15 rfl hR ⟨rfl,rfl⟩
theorem rec_ok {x:RecT} (h:smallR x):RecOk 100000000000 x:=⟨by have:=h.1;omega,by have:=h.2.2.1;omega,by have:=h.2.1;omega,by have:=h.2.2.2;omega⟩
theorem leaf_ok {x:LeafT} (h1:x.1.length≤1300) (h2:x.2.1.length≤60) (h3:∀ y∈x.2.1,smallR y):LeafOk 100000000000 x:=⟨by omega,by omega,fun y hy=>rec_ok (h3 y hy)⟩
theorem one_leafS {h:Fr} {v v1:Value} {key:List UInt8} {xs:List RecT} (h1:Arr RecRp h v1 xs) (ha:Arr (Rp.cells 2) h v [[.string (str key),v1]]) (hk:key.length≤9223372036854775807:=by decide):Arr LeafRp h v [(key,xs,())] :=
 Arr.ofCells (T:=LeafRp) (xs:=[(key,xs,())]) ha ⟨LeafRp.mk hk h1,trivial⟩ rfl
theorem merkleSums_c {r:Fr} {va vs:Value} {cs:List Value} {xs:List RecT} {x:NodeT} {z:Int} {n:List UInt8} (ha:Arr RecRp r va xs) (h:NodeRp.rel r cs x) (hz:InI64 z) (hsu:Arr Rp.u8 r vs n) (hH:At r ⟨0,0,none⟩ (w64s shaH)) (hK:At r ⟨1,0,none⟩ (w64s shaK)) :
  Con prog 3 #[va,.agg cs.toArray,.int .i64 z,vs] r [] (Ret fun v η=>v=.bool true∧η=[]):=by
 have h0:=h;obtain ⟨a1,c1,rfl⟩:=ha.shape;obtain ⟨a3,c3,rfl⟩:=hsu.shape;obtain ⟨xa1,xa2,xa3,xc1,xc2,xc3,rfl,k1,k2,k3⟩:=NodeRp.sh h;refine Con.of (n:=77) _ rfl func3 rfl rfl rfl fun g hg R hR=>?_;have ha:=ha.mono hg;have hsu:=hsu.mono hg;have h0:=h0.mono hg;have k1:=k1.mono hg;have k2:=k2.mono hg;have k3:=k3.mono hg;have hH:=hH.mono hg;have hK:=hK.mono hg;refine S.seq<|S.region rfl<|O.opE (.p rfl) (.box (cs:=[_,_,_,_]) rfl rfl) ?_;rintro _ _ ⟨b5,rfl,rfl⟩;refine O.q 1 rfl<|O.nil<|S.seq<|S.seq<|S.objIs (b:=b5) (cs' :=[byteV x.1,.slice xa1 x.2.1.length xc1,.slice xa2 x.2.2.1.length xc2,.slice xa3 x.2.2.2.1.length xc3]) zD rfl ?_;refine S.frzO zD fun g hs hm h5=>?_;replace hg:=Fr.sub_trans hg hs;replace hR:=melted hR hm
 try replace ha:=ha.mono hs
 try replace hsu:=hsu.mono hs
 try replace h0:=h0.mono hs
 try replace k1:=k1.mono hs
 try replace k2:=k2.mono hs
 try replace k3:=k3.mono hs
 try replace hH:=hH.mono hs
 try replace hK:=hK.mono hs
 clear hs hm;refine S.region rfl<|O.call0 (.p rfl) rfl zC rfl rfl ((awake_c hH hK)) ?_;rintro _ _ ⟨rfl,rfl⟩
 try simp only [zx1,zx2,zx3]
 refine O.sT 11 rfl zP ?_;refine O.op (.p rfl) (.not rfl)<|O.nil<|S.condF rfl<|S.skip<|S.seq<|S.seq<|S.region rfl<|O.q 1 rfl<|O.op (.p rfl) (.build (cs:=[_,_]) underlying31 rfl rfl rfl rfl rfl)<|O.opE (.p rfl) (.litP (T:=Rp.cells 2) (ys:=[[.string (str []),.slice a1 xs.length c1]]) underlying25 elem31 zF rfl rfl ⟨⟨rfl,rfl,by first|(simp;done)|(intro v hv;simp [Value.cells] at hv;rcases hv with rfl|rfl<;>rfl)|(refine List.forall_mem_cons.2 ⟨rfl,?_⟩;repeat (first|exact (fun _ h=>absurd h List.not_mem_nil)|refine List.forall_mem_cons.2 ⟨rfl,?_⟩))⟩,trivial⟩ zF) ?_;rintro _ _ ⟨a15,c15,rfl,rfl⟩;refine O.frzA zD fun g hs hm ha15=>?_;replace hg:=Fr.sub_trans hg hs;replace hR:=melted hR hm
 try replace ha:=ha.mono hs
 try replace hsu:=hsu.mono hs
 try replace h0:=h0.mono hs
 try replace k1:=k1.mono hs
 try replace k2:=k2.mono hs
 try replace k3:=k3.mono hs
 try replace hH:=hH.mono hs
 try replace hK:=hK.mono hs
 try replace h5:=h5.mono hs
 clear hs hm;refine O.call0 (.p rfl) rfl zC rfl rfl ((light_c (one_leafS ha ha15))) ?_;rintro _ _ ⟨ok1,hok1,rfl,rfl⟩
 try simp only [zx1,zx2,zx3]
 refine O.op (.p rfl) ((by first|exact .notD rfl|exact .not rfl)) ?_;refine O.q 1 rfl ?_
 first|refine O.caseD 18 rfl (fun h18=>?_) (fun h18=>?_)|refine O.caseB 18 rfl (fun h18=>?_) (fun h18=>?_)
 ·refine O.q 22 rfl<|O.nil<|S.condT rfl<|S.seq<|S.region rfl<|O.q 1 rfl<|O.nil ?_
  exact S.rt results3 rfl hR ⟨rfl,rfl⟩
 ·refine O.op (.g rfl rfl) (.fieldAddr fld27x3 rfl)<|O.op (.g rfl rfl) (.loadAt flat25 rfl (h5.drop 3) rfl) ?_
  refine O.call0 (.g rfl rfl) rfl zC rfl rfl ((light_c k3)) ?_;rintro _ _ ⟨ok2,hok2,rfl,rfl⟩
  try simp only [zx1,zx2,zx3]
  refine O.op (.g rfl rfl) ((by first|exact .notD rfl|exact .not rfl)) ?_;refine O.q 2 rfl ?_
  first|refine O.caseD 24 rfl (fun h24=>?_) (fun h24=>?_)|refine O.caseB 24 rfl (fun h24=>?_) (fun h24=>?_)
  ·refine O.q 16 rfl<|O.nil<|S.condT rfl<|S.seq<|S.region rfl<|O.q 1 rfl<|O.nil ?_
   exact S.rt results3 rfl hR ⟨rfl,rfl⟩
  ·refine O.op (.g rfl rfl) (.fieldAddr fld27x1 rfl)<|O.op (.g rfl rfl) (.loadAt flat24 rfl (h5.drop 1) rfl) ?_
   refine O.op (.g rfl rfl) (.len rfl underlying24 rfl)<|O.op (.g rfl rfl) (.gtr rfl rfl)<|O.q 2 rfl ?_
   first|refine O.caseD 30 rfl (fun h30=>?_) (fun h30=>?_)|refine O.caseB 30 rfl (fun h30=>?_) (fun h30=>?_)
   ·refine O.q 10 rfl<|O.nil<|S.condT rfl<|S.seq<|S.region rfl<|O.q 1 rfl<|O.nil ?_
    exact S.rt results3 rfl hR ⟨rfl,rfl⟩
   ·refine O.op (.g rfl rfl) (.fieldAddr fld27x2 rfl)<|O.op (.g rfl rfl) (.loadAt flat24 rfl (h5.drop 2) rfl) ?_
    refine O.op (.g rfl rfl) (.len rfl underlying24 rfl)<|O.op (.g rfl rfl) (.gtr rfl rfl)<|O.q 2 rfl ?_
    first|refine O.caseD 36 rfl (fun h36=>?_) (fun h36=>?_)|refine O.caseB 36 rfl (fun h36=>?_) (fun h36=>?_)
    ·refine O.q 4 rfl<|O.nil<|S.condT rfl<|S.seq<|S.region rfl<|O.q 1 rfl<|O.nil ?_
     exact S.rt results3 rfl hR ⟨rfl,rfl⟩
    ·refine O.q 1 rfl<|O.op (.g rfl rfl) (.len rfl underlying24 rfl)<|O.op (.g rfl rfl) (.gtr rfl rfl)<|O.q 1 rfl<|O.nil ?_
     first|refine S.condD rfl (fun h40=>?_) (fun h40=>?_)|refine S.condB rfl (fun h40=>?_) (fun h40=>?_)
     ·refine S.seq<|S.region rfl<|O.q 1 rfl<|O.nil ?_
      exact S.rt results3 rfl hR ⟨rfl,rfl⟩
     ·obtain ⟨_,_,hl3⟩:=hok1 (by simpa using h18)
      obtain ⟨ho1,_,ho3⟩:=hok2 (by simpa using h24);obtain ⟨_,hx60,hxr⟩:=hl3 _ (List.mem_singleton.2 rfl);have g1:x.2.1.length≤200:=by have:=h30;simp at this;omega
      have g2:x.2.2.1.length≤200:=by have:=h36;simp at this;omega
      have g3:n.length≤200:=by have:=h40;simp at this;omega
      have hx60' :xs.length≤60:=hx60;have hk1:∀ y∈xs,RecOk 100000000000 y:=fun y hy=>rec_ok (hxr y hy);have hk2:NodeOk 100000000000 x:=⟨by omega,by omega,by omega,fun y hy=>leaf_ok (ho3 y hy).1 (ho3 y hy).2.1 (ho3 y hy).2.2⟩;have hx0:x.2.1.length≤1000000000000∧x.2.2.1.length≤1000000000000:=⟨by omega,by omega⟩;have hx2:x.2.2.2.1.length≤1000000∧∀ y∈x.2.2.2.1,y.2.1.length≤1000000:=⟨by omega,fun y hy=>by have:=(ho3 y hy).2.1;omega⟩;have hx3:x.2.2.2.1.length≤10000000∧∀ y∈x.2.2.2.1,y.2.1.length≤10000000:=⟨by omega,fun y hy=>by have:=(ho3 y hy).2.1;omega⟩;refine S.skip<|S.seq<|S.region rfl<|O.q 1 rfl<|O.call0 (.p rfl) rfl zC rfl rfl ((lentRecords_c ha hk1 zB)) ?_;rintro _ _ ⟨a42,c42,rfl,rfl⟩
      try simp only [zx1,zx2,zx3]
      refine O.q 1 rfl<|O.nil<|S.seq<|S.region rfl<|O.op (.p rfl) (.loadAgg isAgg27 zC rfl h5) ?_;refine O.call0 (.p rfl) rfl zC rfl rfl ((lentNode_c h0 hk2)) ?_;rintro _ _ ⟨e1,d1,e2,d2,e3,d3,rfl,rfl⟩
      try simp only [zx1,zx2,zx3]
      refine O.opE (.p rfl) (.alloc (cs:=[.int .u8 0,.slice none 0 0,.slice none 0 0,.slice none 0 0]) zeroValue27 rfl) ?_;rintro _ _ ⟨b10,rfl,rfl⟩;refine O.opU rfl (.storeObj zC rfl rfl rfl rfl zD zJ) ?_;refine O.nil<|S.seq<|S.seq<|S.objIs (b:=b10) (cs' :=[byteV x.1,.slice e1 x.2.1.length d1,.slice e2 x.2.2.1.length d2,.slice e3 x.2.2.2.1.length d3]) zD rfl ?_;refine S.frzO zD fun g hs hm hb10=>?_;replace hg:=Fr.sub_trans hg hs;replace hR:=melted hR hm
      try replace ha:=ha.mono hs
      try replace hsu:=hsu.mono hs
      try replace h0:=h0.mono hs
      try replace k1:=k1.mono hs
      try replace k2:=k2.mono hs
      try replace k3:=k3.mono hs
      try replace hH:=hH.mono hs
      try replace hK:=hK.mono hs
      try replace h5:=h5.mono hs
      try replace ha15:=ha15.mono hs
      clear hs hm;refine S.frz (A:=LentL (RecL tys) tys.recd (markRec 1) (.slice a42 xs.length c42) xs) zD fun g hs hm ⟨_,x',s'⟩=>?_;have hL:=(fun s x=>LentLA.mono s (LentL.read x)) s' x';clear x' s';replace hg:=Fr.sub_trans hg hs;replace hR:=melted hR hm
      try replace ha:=ha.mono hs
      try replace hsu:=hsu.mono hs
      try replace h0:=h0.mono hs
      try replace k1:=k1.mono hs
      try replace k2:=k2.mono hs
      try replace k3:=k3.mono hs
      try replace hH:=hH.mono hs
      try replace hK:=hK.mono hs
      try replace h5:=h5.mono hs
      try replace ha15:=ha15.mono hs
      try replace hb10:=hb10.mono hs
      clear hs hm;refine S.frz (A:=(NodeL tys).own [byteV x.1,.slice e1 x.2.1.length d1,.slice e2 x.2.2.1.length d2,.slice e3 x.2.2.2.1.length d3] x) zD fun g hs hm ⟨_,x',s'⟩=>?_;have hN:=(fun s x=>(NodeL tys).mono s ((NodeL tys).read x)) s' x';clear x' s';replace hg:=Fr.sub_trans hg hs;replace hR:=melted hR hm
      try replace ha:=ha.mono hs
      try replace hsu:=hsu.mono hs
      try replace h0:=h0.mono hs
      try replace k1:=k1.mono hs
      try replace k2:=k2.mono hs
      try replace k3:=k3.mono hs
      try replace hH:=hH.mono hs
      try replace hK:=hK.mono hs
      try replace h5:=h5.mono hs
      try replace ha15:=ha15.mono hs
      try replace hb10:=hb10.mono hs
      try replace hL:=hL.mono hs
      clear hs hm;have hLr:=LentLA.arr hL;have hNr:=(NodeL tys).rel hN;refine S.regionD (L:=[0,2,1,3,4,5,6,7,9,8,10,11,12,13,14,15,16,18,19,17,20,21,22,23]) F.mixed zC ?_;refine OD.q 2 rfl<|OD.call0 (.p rfl) zC rfl zC rfl rfl ((setSum_c hLr hH hK zB)) ?_;rintro _ _ ⟨a46,c46,rfl,rfl⟩
      try simp only [zx1,zx2,zx3]
      refine OD.call0 (.p rfl) zC rfl zC rfl rfl ((rSetSum_c ha zB)) ?_;rintro _ _ ⟨a48,c48,rfl,rfl⟩
      try simp only [zx1,zx2,zx3]
      refine OD.callB (.p rfl) zC rfl zC rfl rfl (bs:=[OwnP Rp.u8 5 (.slice a46 (setD xs).length c46) (setD xs),OwnP Rp.u8 5 (.slice a48 (setD xs).length c48) (setD xs)]) zL (fun m hm hd=>SameBytes_c (hm.arr.right hd) (hm.tail.arr.right hd)) ?_;rintro _ _ ⟨rfl,rfl⟩
      try simp only [zx1,zx2,zx3]
      refine OD.sT 49 rfl zI ?_;refine .quiet (.p rfl) rfl (fun _=>.not rfl)<|OD.q 1 rfl<|.quiet (.g rfl rfl) rfl (fun _=>.loadAgg isAgg27 zC rfl hb10) ?_;refine .quiet (.g rfl rfl) rfl (fun _=>.loadAgg isAgg27 zC rfl h5) ?_;refine OD.call0 (.g rfl rfl) zC rfl zC rfl rfl ((nodeSum_c hNr hx0 hx3 hH hK)) ?_;rintro _ _ ⟨a53,c53,rfl,rfl⟩
      try simp only [zx1,zx2,zx3]
      refine OD.call0 (.g rfl rfl) zC rfl zC rfl rfl ((rNodeSum_c h0 hx0 hx2)) ?_;rintro _ _ ⟨a55,c55,rfl,rfl⟩
      try simp only [zx1,zx2,zx3]
      refine OD.callB (.g rfl rfl) zC rfl zC rfl rfl (bs:=[OwnP Rp.u8 5 (.slice a53 (nodeSumP x).length c53) (nodeSumP x),OwnP Rp.u8 5 (.slice a55 (nodeSumP x).length c55) (nodeSumP x)]) zL (fun m hm hd=>SameBytes_c (hm.arr.right hd) (hm.tail.arr.right hd)) ?_;rintro _ _ ⟨rfl,rfl⟩
      try simp only [zx1,zx2,zx3]
      refine OD.sT 56 rfl zI ?_;refine .quiet (.g rfl rfl) rfl (fun _=>.not rfl)<|OD.q 6 rfl<|OD.call0 (.g rfl rfl) zC rfl zC rfl rfl ((topSum_c hsu hz hH hK zB)) ?_;rintro _ _ ⟨a62,c62,rfl,rfl⟩
      try simp only [zx1,zx2,zx3]
      refine OD.call0 (.g rfl rfl) zC rfl zC rfl rfl ((rTopSum_c hsu hz)) ?_;rintro _ _ ⟨a65,c65,rfl,rfl⟩
      try simp only [zx1,zx2,zx3]
      refine OD.callB (.g rfl rfl) zC rfl zC rfl rfl (bs:=[OwnP Rp.u8 5 (.slice a62 (topP z n).length c62) (topP z n),OwnP Rp.u8 5 (.slice a65 (topP z n).length c65) (topP z n)]) zL (fun m hm hd=>SameBytes_c (hm.arr.right hd) (hm.tail.arr.right hd)) ?_;rintro _ _ ⟨rfl,rfl⟩
      try simp only [zx1,zx2,zx3]
      refine OD.sT 66 rfl zI ?_;refine .quiet (.g rfl rfl) rfl (fun _=>.not rfl)<|OD.q 1 rfl<|ODx.nil<|S.condF rfl<|S.skip<|S.seq<|S.region rfl<|O.q 2 rfl<|O.call0 (.p rfl) rfl zC rfl rfl ((keptRecords_c hL ha hk1 zB)) ?_;rintro _ _ ⟨rfl,rfl⟩
      try simp only [zx1,zx2,zx3]
      refine O.q 1 rfl<|O.op (.g rfl rfl) (.loadAgg isAgg27 zC rfl hb10) ?_;refine O.op (.g rfl rfl) (.loadAgg isAgg27 zC rfl h5) ?_;refine O.call0 (.g rfl rfl) rfl zC rfl rfl ((keptNode_c hN h0 hk2)) ?_;rintro _ _ ⟨rfl,rfl⟩
      try simp only [zx1,zx2,zx3]
      refine O.q 2 rfl<|O.nil ?_;exact S.rt results3 rfl hR ⟨rfl,rfl⟩
theorem merkleSums_e {r:Fr} {va vs:Value} {cs:Array Value} {xs:List RecT} {x:NodeT} {z:Int} {n:List UInt8} (ha:Arr RecRp r va xs) (h:NodeRp.rel r cs.toList x) (hz:InI64 z) (hsu:Arr Rp.u8 r vs n) (hH:At r ⟨0,0,none⟩ (w64s shaH)) (hK:At r ⟨1,0,none⟩ (w64s shaK)) :
  Con prog 3 #[va,.agg cs,.int .i64 z,vs] r [] (Ret fun v η=>v=.bool true∧η=[]):=by
 have e2:cs=cs.toList.toArray:=by simp
 rw [e2];exact merkleSums_c ha h hz hsu hH hK
end Go.Proofs.YtojafegjlahajaaGreatDoor
