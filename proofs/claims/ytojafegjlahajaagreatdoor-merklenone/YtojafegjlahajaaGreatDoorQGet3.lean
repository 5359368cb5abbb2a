/- Texts of this proof. -/
import Derived.Test.YtojafegjlahajaaGreatDoorQTmerk1
import Derived.Test.YtojafegjlahajaaGreatDoorQSpMapB
open Go Go.Sp Go.Proofs.Tryz
set_option maxRecDepth 100000
set_option maxHeartbeats 1000000
attribute [local irreducible] obj Own OwnP
namespace Go.Proofs.YtojafegjlahajaaGreatDoor
theorem leafOk_iff {x:LeafT}:leafOk x↔keyOk x.1∧0<x.2.1.length∧ofK x.1 x.2.1 :=
 ⟨fun ⟨h1,h2,h3,h4⟩=>⟨h1,h3,h2,fun _=>h4⟩,fun ⟨h1,h2,h3,h4⟩=>⟨h1,h3,h2,h4 h2⟩⟩
theorem not_leaves {n:NodeT} {i:Nat} (h:i<n.2.2.2.1.length) (q:¬ leafOk n.2.2.2.1[i]):decide (nodeOk n)=false:=zdf fun w=>q (w.1.1 _ (List.getElem_mem h))
theorem not_rises {n:NodeT} {i:Nat} (h:i<n.2.2.2.1.length) (h0:0<i) (q:¬ n.2.2.2.1[i - 1].1<n.2.2.2.1[i].1):decide (nodeOk n)=false:=zdf fun w=>q (w.1.2 i h h0)
def LG (x:NodeT) (k:Nat):Prop:=∀ i (q:i<x.2.2.2.1.length),i<k→leafOk x.2.2.2.1[i]∧(0<i→(x.2.2.2.1[i - 1]'zB).1<x.2.2.2.1[i].1)
theorem LG.step {x:NodeT} {k:Nat} (hk:k<x.2.2.2.1.length) (h:LG x k) (hl:leafOk x.2.2.2.1[k]) (hr:0<k→(x.2.2.2.1[k - 1]'zB).1<x.2.2.2.1[k].1):LG x (k+1):=fun i q w=>by
 rcases Nat.lt_or_ge i k with w' |w'
 ·exact h i q w'
 ·have:i=k:=by omega
  subst this;exact ⟨hl,hr⟩
theorem LG.all {x:NodeT} (h:LG x x.2.2.2.1.length):(∀ y∈x.2.2.2.1,leafOk y)∧keysRise (·.1) x.2.2.2.1 :=
 ⟨fun y hy=>by obtain ⟨i,q,rfl⟩:=List.mem_iff_getElem.1 hy;exact (h i q q).1,fun i q w=>(h i q q).2 w⟩
theorem len0 {α:Type} {l:List α}:l.length=0↔l=[]:=List.length_eq_zero_iff
theorem nodeOk_1 {x:NodeT} (hG:(∀ y∈x.2.2.2.1,leafOk y)∧keysRise (·.1) x.2.2.2.1) (e:x.1=1):nodeOk x↔x.2.1.length=0∧x.2.2.1.length=0∧x.2.2.2.1.length=0:=by
 unfold nodeOk;rw [e,len0,len0,len0];exact ⟨fun ⟨_,h⟩=>by rcases h with h|h|h|h;exact h.2;exact absurd h.1 zE;exact absurd h.1 zE;exact absurd h.1 zE,fun h=>⟨hG,.inl ⟨rfl,h⟩⟩⟩
theorem nodeOk_2 {x:NodeT} (hG:(∀ y∈x.2.2.2.1,leafOk y)∧keysRise (·.1) x.2.2.2.1) (e:x.1=2):nodeOk x↔x.2.1.length=0∧x.2.2.1.length=0∧x.2.2.2.1.length=1:=by
 unfold nodeOk;rw [e,len0,len0];exact ⟨fun ⟨_,h⟩=>by rcases h with h|h|h|h;exact absurd h.1 zE;exact h.2;exact absurd h.1 zE;exact absurd h.1 zE,fun h=>⟨hG,.inr (.inl ⟨rfl,h⟩)⟩⟩
theorem nodeOk_3 {x:NodeT} (hG:(∀ y∈x.2.2.2.1,leafOk y)∧keysRise (·.1) x.2.2.2.1) (e:x.1=3):nodeOk x↔x.2.1.length=64∧x.2.2.1.length=64∧x.2.2.2.1.length=0:=by
 unfold nodeOk;rw [e,len0];exact ⟨fun ⟨_,h⟩=>by rcases h with h|h|h|h;exact absurd h.1 zE;exact absurd h.1 zE;exact h.2;exact absurd h.1 zE,fun h=>⟨hG,.inr (.inr (.inl ⟨rfl,h⟩))⟩⟩
theorem nodeOk_4 {x:NodeT} (hG:(∀ y∈x.2.2.2.1,leafOk y)∧keysRise (·.1) x.2.2.2.1) (e:x.1=4):nodeOk x↔x.2.1.length=0∧x.2.2.1.length=0∧2≤x.2.2.2.1.length:=by
 unfold nodeOk;rw [e,len0,len0];exact ⟨fun ⟨_,h⟩=>by rcases h with h|h|h|h;exact absurd h.1 zE;exact absurd h.1 zE;exact absurd h.1 zE;exact h.2,fun h=>⟨hG,.inr (.inr (.inr ⟨rfl,h⟩))⟩⟩
theorem nodeOk_5 {x:NodeT} (e1:x.1≠1) (e2:x.1≠2) (e3:x.1≠3) (e4:x.1≠4):¬ nodeOk x:=fun ⟨_,h⟩=>by
 rcases h with h|h|h|h
 ·exact e1 h.1
 ·exact e2 h.1
 ·exact e3 h.1
 ·exact e4 h.1
theorem byte_eq {a b:UInt8}:((a.toNat:Int)=(b.toNat:Int))↔a=b:=⟨fun h=>u8_inj h,fun h=>by rw [h]⟩
theorem geS_false {a b:List UInt8} (h:a<b):(!Op.bytesLess (str a).toList (str b).toList)=false:=by rw [geqS_eq];exact zdf fun w=>w h
theorem geS_true {a b:List UInt8} (h:¬ a<b):(!Op.bytesLess (str a).toList (str b).toList)=true:=by rw [geqS_eq];exact zdt h
theorem mright_c {r:Fr} {cs:List Value} {x:NodeT} (h:NodeRp.rel r cs x) (hx0:x.2.1.length≤1000000000000∧x.2.2.1.length≤1000000000000) (hx2:∀ y∈x.2.2.2.1,y.2.1.length≤1000000000):Con prog 79 #[.agg cs.toArray] r [] (Ret fun v η=>v=.bool (decide (nodeOk x))∧η=[]):=by
 obtain ⟨a1,a2,a3,c1,c2,c3,rfl,k1,k2,k3⟩:=NodeRp.sh h;obtain ⟨hb5,hb6⟩:=hx0;refine Con.o func79 fun g hg R hR=>?_;have k1:=k1.mono hg;have k2:=k2.mono hg;have k3:=k3.mono hg;have hb:=k3.bound;have hb1:=k1.bound;have hb2:=k2.bound;refine S.seq<|S.region rfl<|O.opE (.p rfl) (.box (cs:=[_,_,_,_]) rfl rfl) ?_;rintro _ _ ⟨b1,rfl,rfl⟩;refine zz 4 ?_;refine S.objIs (b:=b1) (cs' :=[byteV x.1,.slice a1 x.2.1.length c1,.slice a2 x.2.2.1.length c2,.slice a3 x.2.2.2.1.length c3]) zC rfl ?_;refine S.frzO zC fun g hs hm h1=>?_;replace hg:=zfs hg hs;replace hR:=melted hR hm
 try replace k1:=k1.mono hs
 try replace k2:=k2.mono hs
 try replace k3:=k3.mono hs
 clear hs hm;refine zz 7 ?_;refine S.loopK (ι:=Nat) (fun k=>k≤x.2.2.2.1.length∧LG x k) (fun k=>[(12,.int .i64 (k:Int))]) [(1,_),(10,_),(11,_)] (fun k=>[]) (fun k=>x.2.2.2.1.length - k) (0) (by exact ⟨by omega,fun i q w=>by omega⟩) zq zq rfl fun k hx ih=>?_;have hm1:=meltRefl (g:=g);obtain ⟨hx1,hall⟩:=hx;refine zz 5 ?_;refine S.cd rfl (fun h13=>?_) fun h13=>?_
 ·have hk:k<x.2.2.2.1.length:=by omega
  have hset:=hx2 _ (List.getElem_mem hk);refine zz 6 ?_;refine O.iz (k3) (h:=fun p15 cs15 hp15 hr15=>?_);obtain ⟨l1,m1,rfl,l2,l3⟩:=LeafRp.sh hr15;have l3:=l3;refine O.op (.p rfl) (.loadAgg isAgg31 zD rfl hp15) ?_;refine O.opE (.p rfl) (.alloc (cs:=[.string ⟨#[]⟩,.slice none 0 0]) zeroValue31 rfl) ?_;rintro _ _ ⟨b4,rfl,rfl⟩;refine zz 2 ?_;refine O.nil<|S.seq<|S.objIs (b:=b4) (cs' :=[.string (str x.2.2.2.1[k].1),.slice l1 x.2.2.2.1[k].2.1.length m1]) zC rfl ?_;refine S.frzO zC fun g hs hm h4=>?_;replace hg:=zfs hg hs;replace hR:=melted hR hm
  try replace k1:=k1.mono hs
  try replace k2:=k2.mono hs
  try replace k3:=k3.mono hs
  try replace h1:=h1.mono hs
  try replace hp15:=hp15.mono hs
  try replace l3:=l3.mono hs
  try replace hp15:=hp15.mono hs
  replace hm1:=meltTrans hm1 hm;clear hs hm
  by_cases q1:keyOk x.2.2.2.1[k].1
  ·by_cases q2:0<x.2.2.2.1[k].2.1.length
   ·by_cases q3:ofK x.2.2.2.1[k].1 x.2.2.2.1[k].2.1
    ·have hlf:=leafOk_iff.2 ⟨q1,q2,q3⟩
     by_cases q4:0<k
     ·by_cases q5:(x.2.2.2.1[k - 1]'zB).1<x.2.2.2.1[k].1
      ·
       refine S.regionD (L:=.range 34) F.mixed zD ?_;refine zz 2 ?_;refine OD.v0 (.p rfl) zD rfl zD rfl rfl ((mlong_c zB)) ?_;refine OD.sT 19 rfl (by exact zdt q1)<|zz 6 ?_;refine OD.sF 25 rfl (by exact zdf zB)<|zz 6 ?_;refine OD.v0 (.g rfl rfl) zD rfl zD rfl rfl ((mof_c l3 zB)) ?_;refine OD.sT 32 rfl (by exact zdt q3)<|zz 5 ?_;refine OD.sT 37 rfl (by exact zdt zB)<|zz 5 ?_;refine OD.slot 42 (v' :=.int .i64 ((k - 1:Nat):Int)) rfl (by exact congrArg (Value.int .i64) zB) ?_;refine OD.ia (.g rfl rfl) underlying25 size31 rfl rfl (show _=(((k-1):Nat):Int) by omega) (k3) (h:=fun p43 cs43 hp43 hr43=>?_);obtain ⟨u1,w1,rfl, -, -⟩:=LeafRp.sh hr43;refine zz 4 ?_;refine .quiet (.g rfl rfl) rfl (fun _=>.geqS rfl rfl)<|OD.sF 48 rfl (by exact geS_false q5) ?_;refine zz 10 ?_;exact S.melt hm1 (S.wk (ih (k+1) (by exact ⟨by omega,hall.step hk hlf fun _=>q5⟩) zB))
      ·have e:=not_rises hk q4 q5
       refine S.regionD (L:=.range 34) F.mixed zD ?_;refine zz 2 ?_;refine OD.v0 (.p rfl) zD rfl zD rfl rfl ((mlong_c zB)) ?_;refine OD.sT 19 rfl (by exact zdt q1)<|zz 6 ?_;refine OD.sF 25 rfl (by exact zdf zB)<|zz 6 ?_;refine OD.v0 (.g rfl rfl) zD rfl zD rfl rfl ((mof_c l3 zB)) ?_;refine OD.sT 32 rfl (by exact zdt q3)<|zz 5 ?_;refine OD.sT 37 rfl (by exact zdt zB)<|zz 5 ?_;refine OD.slot 42 (v' :=.int .i64 ((k - 1:Nat):Int)) rfl (by exact congrArg (Value.int .i64) zB) ?_;refine OD.ia (.g rfl rfl) underlying25 size31 rfl rfl (show _=(((k-1):Nat):Int) by omega) (k3) (h:=fun p43 cs43 hp43 hr43=>?_);obtain ⟨u1,w1,rfl, -, -⟩:=LeafRp.sh hr43;refine zz 4 ?_;refine .quiet (.g rfl rfl) rfl (fun _=>.geqS rfl rfl)<|OD.sT 48 rfl (by exact geS_true q5) ?_;refine zz 8 ?_;exact S.rt results79 rfl hR ⟨congrArg Value.bool e.symm,rfl⟩
     ·
      refine S.regionD (L:=.range 34) F.mixed zD ?_;refine zz 2 ?_;refine OD.v0 (.p rfl) zD rfl zD rfl rfl ((mlong_c zB)) ?_;refine OD.sT 19 rfl (by exact zdt q1)<|zz 6 ?_;refine OD.sF 25 rfl (by exact zdf zB)<|zz 6 ?_;refine OD.v0 (.g rfl rfl) zD rfl zD rfl rfl ((mof_c l3 zB)) ?_;refine OD.sT 32 rfl (by exact zdt q3)<|zz 5 ?_;refine OD.sF 37 rfl (by exact zdf zB)<|zz 21 ?_;exact S.melt hm1 (S.wk (ih (k+1) (by exact ⟨by omega,hall.step hk hlf fun w=>absurd w q4⟩) zB))
    ·have e:=not_leaves hk fun w=>q3 (leafOk_iff.1 w).2.2
     refine S.regionD (L:=.range 34) F.mixed zD ?_;refine zz 2 ?_;refine OD.v0 (.p rfl) zD rfl zD rfl rfl ((mlong_c zB)) ?_;refine OD.sT 19 rfl (by exact zdt q1)<|zz 6 ?_;refine OD.sF 25 rfl (by exact zdf zB)<|zz 6 ?_;refine OD.v0 (.g rfl rfl) zD rfl zD rfl rfl ((mof_c l3 zB)) ?_;refine OD.sF 32 rfl (by exact zdf q3)<|zz 24 ?_;exact S.rt results79 rfl hR ⟨congrArg Value.bool e.symm,rfl⟩
   ·have e:=not_leaves hk fun w=>q2 (leafOk_iff.1 w).2.1
    refine S.regionD (L:=.range 34) F.mixed zD ?_;refine zz 2 ?_;refine OD.v0 (.p rfl) zD rfl zD rfl rfl ((mlong_c zB)) ?_;refine OD.sT 19 rfl (by exact zdt q1)<|zz 6 ?_;refine OD.sT 25 rfl (by exact zdt zB)<|zz 31 ?_;exact S.rt results79 rfl hR ⟨congrArg Value.bool e.symm,rfl⟩
  ·have e:=not_leaves hk fun w=>q1 (leafOk_iff.1 w).1
   refine S.regionD (L:=.range 34) F.mixed zD ?_;refine zz 2 ?_;refine OD.v0 (.p rfl) zD rfl zD rfl rfl ((mlong_c zB)) ?_;refine OD.sF 19 rfl (by exact zdf q1)<|zz 37 ?_;exact S.rt results79 rfl hR ⟨congrArg Value.bool e.symm,rfl⟩
 ·clear ih
  have hk:k=x.2.2.2.1.length:=by omega
  subst hk;have hG:=hall.all
  by_cases e:x.1=3
  ·
   refine zz 2 ?_;refine S.regionD (L:=.range 15) F.mixed zD ?_;refine zz 8 ?_
   refine OD.cs 59 rfl (fun h59=>?_) fun h59=>?_
   ·refine zz 14 ?_
    refine O.sT 67 rfl (by rw [e];rfl)<|zz 6 ?_
    refine O.cs 69 rfl (fun h69=>?_) fun h69=>?_
    ·refine zz 5 ?_
     refine S.ret results79 rfl fun w hw=>Holds.end_ hR hw ?_
     first|exact ⟨_,⟨congrArg _ (zdf (fun w=>by have:=(nodeOk_3 hG e).1 w;omega)).symm,rfl⟩,zN⟩|exact ⟨_,⟨congrArg _ (zdt ((nodeOk_3 hG e).2 zB)).symm,rfl⟩,zN⟩|exact ⟨_,⟨congrArg _ (decide_eq_decide.2 ⟨fun h=>(nodeOk_3 hG e).2 zB,fun h=>by have:=(nodeOk_3 hG e).1 h;omega⟩),rfl⟩,zN⟩
    ·refine O.q 4 rfl<|O.nil<|S.ret results79 rfl fun w hw=>Holds.end_ hR hw ?_
     first|exact ⟨_,⟨congrArg _ (zdf (fun w=>by have:=(nodeOk_3 hG e).1 w;omega)).symm,rfl⟩,zN⟩|exact ⟨_,⟨congrArg _ (zdt ((nodeOk_3 hG e).2 zB)).symm,rfl⟩,zN⟩|exact ⟨_,⟨congrArg _ (decide_eq_decide.2 ⟨fun h=>(nodeOk_3 hG e).2 zB,fun h=>by have:=(nodeOk_3 hG e).1 h;omega⟩),rfl⟩,zN⟩
   ·refine zz 14 ?_
    refine O.sT 67 rfl (by rw [e];rfl)<|zz 11 ?_;refine S.ret results79 rfl fun w hw=>Holds.end_ hR hw ?_
    first|exact ⟨_,⟨congrArg _ (zdf (fun w=>by have:=(nodeOk_3 hG e).1 w;omega)).symm,rfl⟩,zN⟩|exact ⟨_,⟨congrArg _ (zdt ((nodeOk_3 hG e).2 zB)).symm,rfl⟩,zN⟩|exact ⟨_,⟨congrArg _ (decide_eq_decide.2 ⟨fun h=>(nodeOk_3 hG e).2 zB,fun h=>by have:=(nodeOk_3 hG e).1 h;omega⟩),rfl⟩,zN⟩
  ·have n3:=e
   by_cases e:x.1=1
   ·
    refine zz 2 ?_;refine S.regionD (L:=.range 15) F.mixed zD ?_;refine zz 8 ?_
    refine OD.cs 59 rfl (fun h59=>?_) fun h59=>?_
    ·refine zz 14 ?_
     refine O.sF 67 rfl (by exact zdf fun w=>n3 (byte_eq (b:=3).1 w)) ?_;refine zz 5 ?_;refine O.opE (.p rfl) (.makeMapK' (enc:=encB)) ?_;rintro _ _ ⟨b74,rfl,rfl⟩;refine O.opU rfl (.insertK (key:=1) underlying223 (keyOkB underlying23) rfl rfl rfl zC) ?_;refine O.opU rfl (.insertK (key:=2) underlying223 (keyOkB underlying23) rfl rfl rfl zC) ?_;refine O.opU rfl (.insertK (key:=4) underlying223 (keyOkB underlying23) rfl rfl rfl zC)<|zz 3 ?_;refine O.op (.p rfl) (.lookupK underlying223 (keyOkB underlying23) zeroValue3 rfl rfl zC) ?_;refine O.q 2 rfl<|O.slot 79 (v' :=.int .i64 0) rfl (by rw [e];rfl) ?_;refine O.q 1 rfl<|O.sT 80 rfl (by rw [e];rfl)<|zz 17 ?_
     refine O.cs 92 rfl (fun h92=>?_) fun h92=>?_
     ·refine zz 5 ?_
      refine O.cs 97 rfl (fun h97=>?_) fun h97=>?_
      ·refine zz 4 ?_
       refine O.cs 101 rfl (fun h101=>?_) fun h101=>?_
       ·refine O.q 6 rfl<|O.nil<|S.ret results79 rfl fun w hw=>Holds.end_ hR hw ?_
        first|exact ⟨_,⟨congrArg _ (zdf (fun w=>by have:=(nodeOk_1 hG e).1 w;omega)).symm,rfl⟩,zN⟩|exact ⟨_,⟨congrArg _ (zdt ((nodeOk_1 hG e).2 zB)).symm,rfl⟩,zN⟩|exact ⟨_,⟨congrArg _ (decide_eq_decide.2 ⟨fun h=>(nodeOk_1 hG e).2 zB,fun h=>by have:=(nodeOk_1 hG e).1 h;omega⟩),rfl⟩,zN⟩
       ·refine zz 3 ?_
        refine O.sF 104 rfl (by rw [e];rfl) ?_;refine O.q 3 rfl<|O.nil<|S.ret results79 rfl fun w hw=>Holds.end_ hR hw ?_
        first|exact ⟨_,⟨congrArg _ (zdf (fun w=>by have:=(nodeOk_1 hG e).1 w;omega)).symm,rfl⟩,zN⟩|exact ⟨_,⟨congrArg _ (zdt ((nodeOk_1 hG e).2 zB)).symm,rfl⟩,zN⟩|exact ⟨_,⟨congrArg _ (decide_eq_decide.2 ⟨fun h=>(nodeOk_1 hG e).2 zB,fun h=>by have:=(nodeOk_1 hG e).1 h;omega⟩),rfl⟩,zN⟩
      ·refine O.q 10 rfl<|O.nil<|S.ret results79 rfl fun w hw=>Holds.end_ hR hw ?_
       first|exact ⟨_,⟨congrArg _ (zdf (fun w=>by have:=(nodeOk_1 hG e).1 w;omega)).symm,rfl⟩,zN⟩|exact ⟨_,⟨congrArg _ (zdt ((nodeOk_1 hG e).2 zB)).symm,rfl⟩,zN⟩|exact ⟨_,⟨congrArg _ (decide_eq_decide.2 ⟨fun h=>(nodeOk_1 hG e).2 zB,fun h=>by have:=(nodeOk_1 hG e).1 h;omega⟩),rfl⟩,zN⟩
     ·refine O.q 15 rfl<|O.nil<|S.ret results79 rfl fun w hw=>Holds.end_ hR hw ?_
      first|exact ⟨_,⟨congrArg _ (zdf (fun w=>by have:=(nodeOk_1 hG e).1 w;omega)).symm,rfl⟩,zN⟩|exact ⟨_,⟨congrArg _ (zdt ((nodeOk_1 hG e).2 zB)).symm,rfl⟩,zN⟩|exact ⟨_,⟨congrArg _ (decide_eq_decide.2 ⟨fun h=>(nodeOk_1 hG e).2 zB,fun h=>by have:=(nodeOk_1 hG e).1 h;omega⟩),rfl⟩,zN⟩
    ·refine zz 14 ?_
     refine O.sF 67 rfl (by exact zdf fun w=>n3 (byte_eq (b:=3).1 w)) ?_;refine zz 5 ?_;refine O.opE (.p rfl) (.makeMapK' (enc:=encB)) ?_;rintro _ _ ⟨b74,rfl,rfl⟩;refine O.opU rfl (.insertK (key:=1) underlying223 (keyOkB underlying23) rfl rfl rfl zC) ?_;refine O.opU rfl (.insertK (key:=2) underlying223 (keyOkB underlying23) rfl rfl rfl zC) ?_;refine O.opU rfl (.insertK (key:=4) underlying223 (keyOkB underlying23) rfl rfl rfl zC)<|zz 3 ?_;refine O.op (.p rfl) (.lookupK underlying223 (keyOkB underlying23) zeroValue3 rfl rfl zC) ?_;refine O.q 2 rfl<|O.slot 79 (v' :=.int .i64 0) rfl (by rw [e];rfl) ?_;refine O.q 1 rfl<|O.sT 80 rfl (by rw [e];rfl)<|zz 17 ?_
     refine O.cs 92 rfl (fun h92=>?_) fun h92=>?_
     ·refine zz 5 ?_
      refine O.cs 97 rfl (fun h97=>?_) fun h97=>?_
      ·refine zz 4 ?_
       refine O.cs 101 rfl (fun h101=>?_) fun h101=>?_
       ·refine O.q 6 rfl<|O.nil<|S.ret results79 rfl fun w hw=>Holds.end_ hR hw ?_
        first|exact ⟨_,⟨congrArg _ (zdf (fun w=>by have:=(nodeOk_1 hG e).1 w;omega)).symm,rfl⟩,zN⟩|exact ⟨_,⟨congrArg _ (zdt ((nodeOk_1 hG e).2 zB)).symm,rfl⟩,zN⟩|exact ⟨_,⟨congrArg _ (decide_eq_decide.2 ⟨fun h=>(nodeOk_1 hG e).2 zB,fun h=>by have:=(nodeOk_1 hG e).1 h;omega⟩),rfl⟩,zN⟩
       ·refine zz 3 ?_
        refine O.sF 104 rfl (by rw [e];rfl) ?_;refine O.q 3 rfl<|O.nil<|S.ret results79 rfl fun w hw=>Holds.end_ hR hw ?_
        first|exact ⟨_,⟨congrArg _ (zdf (fun w=>by have:=(nodeOk_1 hG e).1 w;omega)).symm,rfl⟩,zN⟩|exact ⟨_,⟨congrArg _ (zdt ((nodeOk_1 hG e).2 zB)).symm,rfl⟩,zN⟩|exact ⟨_,⟨congrArg _ (decide_eq_decide.2 ⟨fun h=>(nodeOk_1 hG e).2 zB,fun h=>by have:=(nodeOk_1 hG e).1 h;omega⟩),rfl⟩,zN⟩
      ·refine O.q 10 rfl<|O.nil<|S.ret results79 rfl fun w hw=>Holds.end_ hR hw ?_
       first|exact ⟨_,⟨congrArg _ (zdf (fun w=>by have:=(nodeOk_1 hG e).1 w;omega)).symm,rfl⟩,zN⟩|exact ⟨_,⟨congrArg _ (zdt ((nodeOk_1 hG e).2 zB)).symm,rfl⟩,zN⟩|exact ⟨_,⟨congrArg _ (decide_eq_decide.2 ⟨fun h=>(nodeOk_1 hG e).2 zB,fun h=>by have:=(nodeOk_1 hG e).1 h;omega⟩),rfl⟩,zN⟩
     ·refine O.q 15 rfl<|O.nil<|S.ret results79 rfl fun w hw=>Holds.end_ hR hw ?_
      first|exact ⟨_,⟨congrArg _ (zdf (fun w=>by have:=(nodeOk_1 hG e).1 w;omega)).symm,rfl⟩,zN⟩|exact ⟨_,⟨congrArg _ (zdt ((nodeOk_1 hG e).2 zB)).symm,rfl⟩,zN⟩|exact ⟨_,⟨congrArg _ (decide_eq_decide.2 ⟨fun h=>(nodeOk_1 hG e).2 zB,fun h=>by have:=(nodeOk_1 hG e).1 h;omega⟩),rfl⟩,zN⟩
   ·have n1:=e
    by_cases e:x.1=2
    ·
     refine zz 2 ?_;refine S.regionD (L:=.range 15) F.mixed zD ?_;refine zz 8 ?_
     refine OD.cs 59 rfl (fun h59=>?_) fun h59=>?_
     ·refine zz 14 ?_
      refine O.sF 67 rfl (by exact zdf fun w=>n3 (byte_eq (b:=3).1 w)) ?_;refine zz 5 ?_;refine O.opE (.p rfl) (.makeMapK' (enc:=encB)) ?_;rintro _ _ ⟨b74,rfl,rfl⟩;refine O.opU rfl (.insertK (key:=1) underlying223 (keyOkB underlying23) rfl rfl rfl zC) ?_;refine O.opU rfl (.insertK (key:=2) underlying223 (keyOkB underlying23) rfl rfl rfl zC) ?_;refine O.opU rfl (.insertK (key:=4) underlying223 (keyOkB underlying23) rfl rfl rfl zC)<|zz 3 ?_;refine O.op (.p rfl) (.lookupK underlying223 (keyOkB underlying23) zeroValue3 rfl rfl zC) ?_;refine O.q 2 rfl<|O.slot 79 (v' :=.int .i64 1) rfl (by rw [e];rfl) ?_;refine O.q 1 rfl<|O.sT 80 rfl (by rw [e];rfl)<|zz 17 ?_
      refine O.cs 92 rfl (fun h92=>?_) fun h92=>?_
      ·refine zz 5 ?_
       refine O.cs 97 rfl (fun h97=>?_) fun h97=>?_
       ·refine zz 4 ?_
        refine O.cs 101 rfl (fun h101=>?_) fun h101=>?_
        ·refine O.q 6 rfl<|O.nil<|S.ret results79 rfl fun w hw=>Holds.end_ hR hw ?_
         first|exact ⟨_,⟨congrArg _ (zdf (fun w=>by have:=(nodeOk_2 hG e).1 w;omega)).symm,rfl⟩,zN⟩|exact ⟨_,⟨congrArg _ (zdt ((nodeOk_2 hG e).2 zB)).symm,rfl⟩,zN⟩|exact ⟨_,⟨congrArg _ (decide_eq_decide.2 ⟨fun h=>(nodeOk_2 hG e).2 zB,fun h=>by have:=(nodeOk_2 hG e).1 h;omega⟩),rfl⟩,zN⟩
        ·refine zz 3 ?_
         refine O.sF 104 rfl (by rw [e];rfl) ?_;refine O.q 3 rfl<|O.nil<|S.ret results79 rfl fun w hw=>Holds.end_ hR hw ?_
         first|exact ⟨_,⟨congrArg _ (zdf (fun w=>by have:=(nodeOk_2 hG e).1 w;omega)).symm,rfl⟩,zN⟩|exact ⟨_,⟨congrArg _ (zdt ((nodeOk_2 hG e).2 zB)).symm,rfl⟩,zN⟩|exact ⟨_,⟨congrArg _ (decide_eq_decide.2 ⟨fun h=>(nodeOk_2 hG e).2 zB,fun h=>by have:=(nodeOk_2 hG e).1 h;omega⟩),rfl⟩,zN⟩
       ·refine O.q 10 rfl<|O.nil<|S.ret results79 rfl fun w hw=>Holds.end_ hR hw ?_
        first|exact ⟨_,⟨congrArg _ (zdf (fun w=>by have:=(nodeOk_2 hG e).1 w;omega)).symm,rfl⟩,zN⟩|exact ⟨_,⟨congrArg _ (zdt ((nodeOk_2 hG e).2 zB)).symm,rfl⟩,zN⟩|exact ⟨_,⟨congrArg _ (decide_eq_decide.2 ⟨fun h=>(nodeOk_2 hG e).2 zB,fun h=>by have:=(nodeOk_2 hG e).1 h;omega⟩),rfl⟩,zN⟩
      ·refine O.q 15 rfl<|O.nil<|S.ret results79 rfl fun w hw=>Holds.end_ hR hw ?_
       first|exact ⟨_,⟨congrArg _ (zdf (fun w=>by have:=(nodeOk_2 hG e).1 w;omega)).symm,rfl⟩,zN⟩|exact ⟨_,⟨congrArg _ (zdt ((nodeOk_2 hG e).2 zB)).symm,rfl⟩,zN⟩|exact ⟨_,⟨congrArg _ (decide_eq_decide.2 ⟨fun h=>(nodeOk_2 hG e).2 zB,fun h=>by have:=(nodeOk_2 hG e).1 h;omega⟩),rfl⟩,zN⟩
     ·refine zz 14 ?_
      refine O.sF 67 rfl (by exact zdf fun w=>n3 (byte_eq (b:=3).1 w)) ?_;refine zz 5 ?_;refine O.opE (.p rfl) (.makeMapK' (enc:=encB)) ?_;rintro _ _ ⟨b74,rfl,rfl⟩;refine O.opU rfl (.insertK (key:=1) underlying223 (keyOkB underlying23) rfl rfl rfl zC) ?_;refine O.opU rfl (.insertK (key:=2) underlying223 (keyOkB underlying23) rfl rfl rfl zC) ?_;refine O.opU rfl (.insertK (key:=4) underlying223 (keyOkB underlying23) rfl rfl rfl zC)<|zz 3 ?_;refine O.op (.p rfl) (.lookupK underlying223 (keyOkB underlying23) zeroValue3 rfl rfl zC) ?_;refine O.q 2 rfl<|O.slot 79 (v' :=.int .i64 1) rfl (by rw [e];rfl) ?_;refine O.q 1 rfl<|O.sT 80 rfl (by rw [e];rfl)<|zz 17 ?_
      refine O.cs 92 rfl (fun h92=>?_) fun h92=>?_
      ·refine zz 5 ?_
       refine O.cs 97 rfl (fun h97=>?_) fun h97=>?_
       ·refine zz 4 ?_
        refine O.cs 101 rfl (fun h101=>?_) fun h101=>?_
        ·refine O.q 6 rfl<|O.nil<|S.ret results79 rfl fun w hw=>Holds.end_ hR hw ?_
         first|exact ⟨_,⟨congrArg _ (zdf (fun w=>by have:=(nodeOk_2 hG e).1 w;omega)).symm,rfl⟩,zN⟩|exact ⟨_,⟨congrArg _ (zdt ((nodeOk_2 hG e).2 zB)).symm,rfl⟩,zN⟩|exact ⟨_,⟨congrArg _ (decide_eq_decide.2 ⟨fun h=>(nodeOk_2 hG e).2 zB,fun h=>by have:=(nodeOk_2 hG e).1 h;omega⟩),rfl⟩,zN⟩
        ·refine zz 3 ?_
         refine O.sF 104 rfl (by rw [e];rfl) ?_;refine O.q 3 rfl<|O.nil<|S.ret results79 rfl fun w hw=>Holds.end_ hR hw ?_
         first|exact ⟨_,⟨congrArg _ (zdf (fun w=>by have:=(nodeOk_2 hG e).1 w;omega)).symm,rfl⟩,zN⟩|exact ⟨_,⟨congrArg _ (zdt ((nodeOk_2 hG e).2 zB)).symm,rfl⟩,zN⟩|exact ⟨_,⟨congrArg _ (decide_eq_decide.2 ⟨fun h=>(nodeOk_2 hG e).2 zB,fun h=>by have:=(nodeOk_2 hG e).1 h;omega⟩),rfl⟩,zN⟩
       ·refine O.q 10 rfl<|O.nil<|S.ret results79 rfl fun w hw=>Holds.end_ hR hw ?_
        first|exact ⟨_,⟨congrArg _ (zdf (fun w=>by have:=(nodeOk_2 hG e).1 w;omega)).symm,rfl⟩,zN⟩|exact ⟨_,⟨congrArg _ (zdt ((nodeOk_2 hG e).2 zB)).symm,rfl⟩,zN⟩|exact ⟨_,⟨congrArg _ (decide_eq_decide.2 ⟨fun h=>(nodeOk_2 hG e).2 zB,fun h=>by have:=(nodeOk_2 hG e).1 h;omega⟩),rfl⟩,zN⟩
      ·refine O.q 15 rfl<|O.nil<|S.ret results79 rfl fun w hw=>Holds.end_ hR hw ?_
       first|exact ⟨_,⟨congrArg _ (zdf (fun w=>by have:=(nodeOk_2 hG e).1 w;omega)).symm,rfl⟩,zN⟩|exact ⟨_,⟨congrArg _ (zdt ((nodeOk_2 hG e).2 zB)).symm,rfl⟩,zN⟩|exact ⟨_,⟨congrArg _ (decide_eq_decide.2 ⟨fun h=>(nodeOk_2 hG e).2 zB,fun h=>by have:=(nodeOk_2 hG e).1 h;omega⟩),rfl⟩,zN⟩
    ·have n2:=e
     by_cases e:x.1=4
     ·
      refine zz 2 ?_;refine S.regionD (L:=.range 15) F.mixed zD ?_;refine zz 8 ?_
      refine OD.cs 59 rfl (fun h59=>?_) fun h59=>?_
      ·refine zz 14 ?_
       refine O.sF 67 rfl (by exact zdf fun w=>n3 (byte_eq (b:=3).1 w)) ?_;refine zz 5 ?_;refine O.opE (.p rfl) (.makeMapK' (enc:=encB)) ?_;rintro _ _ ⟨b74,rfl,rfl⟩;refine O.opU rfl (.insertK (key:=1) underlying223 (keyOkB underlying23) rfl rfl rfl zC) ?_;refine O.opU rfl (.insertK (key:=2) underlying223 (keyOkB underlying23) rfl rfl rfl zC) ?_;refine O.opU rfl (.insertK (key:=4) underlying223 (keyOkB underlying23) rfl rfl rfl zC)<|zz 3 ?_;refine O.op (.p rfl) (.lookupK underlying223 (keyOkB underlying23) zeroValue3 rfl rfl zC) ?_;refine O.q 2 rfl<|O.slot 79 (v' :=.int .i64 2) rfl (by rw [e];rfl) ?_;refine O.q 1 rfl<|O.sT 80 rfl (by rw [e];rfl)<|zz 17 ?_
       refine O.cs 92 rfl (fun h92=>?_) fun h92=>?_
       ·refine zz 5 ?_
        refine O.cs 97 rfl (fun h97=>?_) fun h97=>?_
        ·refine zz 4 ?_
         refine O.cs 101 rfl (fun h101=>?_) fun h101=>?_
         ·refine O.q 6 rfl<|O.nil<|S.ret results79 rfl fun w hw=>Holds.end_ hR hw ?_
          first|exact ⟨_,⟨congrArg _ (zdf (fun w=>by have:=(nodeOk_4 hG e).1 w;omega)).symm,rfl⟩,zN⟩|exact ⟨_,⟨congrArg _ (zdt ((nodeOk_4 hG e).2 zB)).symm,rfl⟩,zN⟩|exact ⟨_,⟨congrArg _ (decide_eq_decide.2 ⟨fun h=>(nodeOk_4 hG e).2 zB,fun h=>by have:=(nodeOk_4 hG e).1 h;omega⟩),rfl⟩,zN⟩
         ·refine zz 3 ?_
          refine O.sT 104 rfl (by rw [e];rfl) ?_;refine O.q 3 rfl<|O.nil<|S.ret results79 rfl fun w hw=>Holds.end_ hR hw ?_
          first|exact ⟨_,⟨congrArg _ (zdf (fun w=>by have:=(nodeOk_4 hG e).1 w;omega)).symm,rfl⟩,zN⟩|exact ⟨_,⟨congrArg _ (zdt ((nodeOk_4 hG e).2 zB)).symm,rfl⟩,zN⟩|exact ⟨_,⟨congrArg _ (decide_eq_decide.2 ⟨fun h=>(nodeOk_4 hG e).2 zB,fun h=>by have:=(nodeOk_4 hG e).1 h;omega⟩),rfl⟩,zN⟩
        ·refine O.q 10 rfl<|O.nil<|S.ret results79 rfl fun w hw=>Holds.end_ hR hw ?_
         first|exact ⟨_,⟨congrArg _ (zdf (fun w=>by have:=(nodeOk_4 hG e).1 w;omega)).symm,rfl⟩,zN⟩|exact ⟨_,⟨congrArg _ (zdt ((nodeOk_4 hG e).2 zB)).symm,rfl⟩,zN⟩|exact ⟨_,⟨congrArg _ (decide_eq_decide.2 ⟨fun h=>(nodeOk_4 hG e).2 zB,fun h=>by have:=(nodeOk_4 hG e).1 h;omega⟩),rfl⟩,zN⟩
       ·refine O.q 15 rfl<|O.nil<|S.ret results79 rfl fun w hw=>Holds.end_ hR hw ?_
        first|exact ⟨_,⟨congrArg _ (zdf (fun w=>by have:=(nodeOk_4 hG e).1 w;omega)).symm,rfl⟩,zN⟩|exact ⟨_,⟨congrArg _ (zdt ((nodeOk_4 hG e).2 zB)).symm,rfl⟩,zN⟩|exact ⟨_,⟨congrArg _ (decide_eq_decide.2 ⟨fun h=>(nodeOk_4 hG e).2 zB,fun h=>by have:=(nodeOk_4 hG e).1 h;omega⟩),rfl⟩,zN⟩
      ·refine zz 14 ?_
       refine O.sF 67 rfl (by exact zdf fun w=>n3 (byte_eq (b:=3).1 w)) ?_;refine zz 5 ?_;refine O.opE (.p rfl) (.makeMapK' (enc:=encB)) ?_;rintro _ _ ⟨b74,rfl,rfl⟩;refine O.opU rfl (.insertK (key:=1) underlying223 (keyOkB underlying23) rfl rfl rfl zC) ?_;refine O.opU rfl (.insertK (key:=2) underlying223 (keyOkB underlying23) rfl rfl rfl zC) ?_;refine O.opU rfl (.insertK (key:=4) underlying223 (keyOkB underlying23) rfl rfl rfl zC)<|zz 3 ?_;refine O.op (.p rfl) (.lookupK underlying223 (keyOkB underlying23) zeroValue3 rfl rfl zC) ?_;refine O.q 2 rfl<|O.slot 79 (v' :=.int .i64 2) rfl (by rw [e];rfl) ?_;refine O.q 1 rfl<|O.sT 80 rfl (by rw [e];rfl)<|zz 17 ?_
       refine O.cs 92 rfl (fun h92=>?_) fun h92=>?_
       ·refine zz 5 ?_
        refine O.cs 97 rfl (fun h97=>?_) fun h97=>?_
        ·refine zz 4 ?_
         refine O.cs 101 rfl (fun h101=>?_) fun h101=>?_
         ·refine O.q 6 rfl<|O.nil<|S.ret results79 rfl fun w hw=>Holds.end_ hR hw ?_
          first|exact ⟨_,⟨congrArg _ (zdf (fun w=>by have:=(nodeOk_4 hG e).1 w;omega)).symm,rfl⟩,zN⟩|exact ⟨_,⟨congrArg _ (zdt ((nodeOk_4 hG e).2 zB)).symm,rfl⟩,zN⟩|exact ⟨_,⟨congrArg _ (decide_eq_decide.2 ⟨fun h=>(nodeOk_4 hG e).2 zB,fun h=>by have:=(nodeOk_4 hG e).1 h;omega⟩),rfl⟩,zN⟩
         ·refine zz 3 ?_
          refine O.sT 104 rfl (by rw [e];rfl) ?_;refine O.q 3 rfl<|O.nil<|S.ret results79 rfl fun w hw=>Holds.end_ hR hw ?_
          first|exact ⟨_,⟨congrArg _ (zdf (fun w=>by have:=(nodeOk_4 hG e).1 w;omega)).symm,rfl⟩,zN⟩|exact ⟨_,⟨congrArg _ (zdt ((nodeOk_4 hG e).2 zB)).symm,rfl⟩,zN⟩|exact ⟨_,⟨congrArg _ (decide_eq_decide.2 ⟨fun h=>(nodeOk_4 hG e).2 zB,fun h=>by have:=(nodeOk_4 hG e).1 h;omega⟩),rfl⟩,zN⟩
        ·refine O.q 10 rfl<|O.nil<|S.ret results79 rfl fun w hw=>Holds.end_ hR hw ?_
         first|exact ⟨_,⟨congrArg _ (zdf (fun w=>by have:=(nodeOk_4 hG e).1 w;omega)).symm,rfl⟩,zN⟩|exact ⟨_,⟨congrArg _ (zdt ((nodeOk_4 hG e).2 zB)).symm,rfl⟩,zN⟩|exact ⟨_,⟨congrArg _ (decide_eq_decide.2 ⟨fun h=>(nodeOk_4 hG e).2 zB,fun h=>by have:=(nodeOk_4 hG e).1 h;omega⟩),rfl⟩,zN⟩
       ·refine O.q 15 rfl<|O.nil<|S.ret results79 rfl fun w hw=>Holds.end_ hR hw ?_
        first|exact ⟨_,⟨congrArg _ (zdf (fun w=>by have:=(nodeOk_4 hG e).1 w;omega)).symm,rfl⟩,zN⟩|exact ⟨_,⟨congrArg _ (zdt ((nodeOk_4 hG e).2 zB)).symm,rfl⟩,zN⟩|exact ⟨_,⟨congrArg _ (decide_eq_decide.2 ⟨fun h=>(nodeOk_4 hG e).2 zB,fun h=>by have:=(nodeOk_4 hG e).1 h;omega⟩),rfl⟩,zN⟩
     ·have n4:=e
      have e:=nodeOk_5 n1 n2 n3 n4;refine zz 2 ?_;refine S.regionD (L:=.range 15) F.mixed zD ?_;refine zz 8 ?_
      refine OD.cs 59 rfl (fun h59=>?_) fun h59=>?_
      ·refine zz 14 ?_
       refine O.sF 67 rfl (by exact zdf fun w=>n3 (byte_eq (b:=3).1 w)) ?_;refine zz 5 ?_;refine O.opE (.p rfl) (.makeMapK' (enc:=encB)) ?_;rintro _ _ ⟨b74,rfl,rfl⟩;refine O.opU rfl (.insertK (key:=1) underlying223 (keyOkB underlying23) rfl rfl rfl zC) ?_;refine O.opU rfl (.insertK (key:=2) underlying223 (keyOkB underlying23) rfl rfl rfl zC) ?_;refine O.opU rfl (.insertK (key:=4) underlying223 (keyOkB underlying23) rfl rfl rfl zC)<|zz 3 ?_;refine O.op (.p rfl) (.lookupK underlying223 (keyOkB underlying23) zeroValue3 rfl rfl zC) ?_;refine O.q 3 rfl<|O.sF 80 rfl (by simp [getK,putK,n1,n2,n4,Ne.symm n1,Ne.symm n2,Ne.symm n4])<|zz 33 ?_;refine S.ret results79 rfl fun w hw=>Holds.end_ hR hw ?_
       first|exact ⟨_,⟨congrArg _ (zdf e).symm,rfl⟩,zN⟩
      ·refine zz 14 ?_
       refine O.sF 67 rfl (by exact zdf fun w=>n3 (byte_eq (b:=3).1 w)) ?_;refine zz 5 ?_;refine O.opE (.p rfl) (.makeMapK' (enc:=encB)) ?_;rintro _ _ ⟨b74,rfl,rfl⟩;refine O.opU rfl (.insertK (key:=1) underlying223 (keyOkB underlying23) rfl rfl rfl zC) ?_;refine O.opU rfl (.insertK (key:=2) underlying223 (keyOkB underlying23) rfl rfl rfl zC) ?_;refine O.opU rfl (.insertK (key:=4) underlying223 (keyOkB underlying23) rfl rfl rfl zC)<|zz 3 ?_;refine O.op (.p rfl) (.lookupK underlying223 (keyOkB underlying23) zeroValue3 rfl rfl zC) ?_;refine O.q 3 rfl<|O.sF 80 rfl (by simp [getK,putK,n1,n2,n4,Ne.symm n1,Ne.symm n2,Ne.symm n4])<|zz 33 ?_;refine S.ret results79 rfl fun w hw=>Holds.end_ hR hw ?_
       first|exact ⟨_,⟨congrArg _ (zdf e).symm,rfl⟩,zN⟩
theorem owned_one {α:Type} {T:Rp α} {e:TypeId} {v:Value} {xs:List α} {m:Fr} (h:Sat [OwnP T e v xs] m):Arr T m v xs:=by
 obtain ⟨m1,_,_,s1,_,o,_⟩:=h;exact (OwnP.arr o).mono s1
theorem each_arr {α:Type} {T:Rp α} {e:TypeId} {vs:List Value} {xs:List (List α)} {m k:Fr} (s:m.sub k) (x:EachP (OwnP T e) vs xs m):All2 (Arr T k) vs xs:=EachP.all2 (R:=fun v a=>Arr T k v a) (fun _ _ _ z w=>Arr.mono w (OwnP.arr z)) x s
theorem each_two {β α:Type} {A:β→α→SProp} {bs:List β} {ys:List α} {b1 b2:β} {a1 a2:α} {m:Fr} (st:Sat [EachP A bs ys,A b1 a1,A b2 a2] m):EachP A (bs++[b1,b2]) (ys++[a1,a2]) m:=by
 obtain ⟨h1,h2,d,s1,s2,x,y⟩:=st;exact EachP.app ⟨h1,h2,d,s1,s2,x,h2,Fr.emp,Fr.disj_symm (Fr.emp_disj _),Fr.sub_refl _,Fr.emp_sub _,EachP.of_sat (A:=A) (bs:=[b1,b2]) rfl y,trivial⟩
theorem nodeTag_val {k:UInt8} (h:k.toNat<5):byteV ([0,0,1,2,3]:List UInt8)[k.toNat]=byteV (nodeTag k):=by
 unfold nodeTag;rw [List.getD_eq_getElem?_getD,List.getElem?_eq_getElem (show k.toNat<([0,0,1,2,3]:List UInt8).length from h)]
 rfl
theorem nodeSum_c {r:Fr} {cs:List Value} {x:NodeT} (h:NodeRp.rel r cs x) (hx0:x.2.1.length≤1000000000000∧x.2.2.1.length≤1000000000000) (hx2:x.2.2.2.1.length≤10000000∧∀ y∈x.2.2.2.1,y.2.1.length≤10000000) (hH:At r ⟨0,0,none⟩ (w64s shaH)) (hK:At r ⟨1,0,none⟩ (w64s shaK)) :
  Con prog 22 #[.agg cs.toArray] r [] (Ret fun v η=>∃ a c,v=.slice a (nodeSumP x).length c∧η=[OwnP Rp.u8 5 (.slice a (nodeSumP x).length c) (nodeSumP x)]):=by
 have h0:=h;obtain ⟨a1,a2,a3,c1,c2,c3,rfl,k1,k2,k3⟩:=NodeRp.sh h;refine Con.of (n:=40) _ rfl func22 rfl rfl rfl fun g hg R hR=>?_;have h:=h.mono hg;have h0:=h0.mono hg;have k1:=k1.mono hg;have k2:=k2.mono hg;have k3:=k3.mono hg;have hH:=hH.mono hg;have hK:=hK.mono hg;have hb:=k3.bound;refine S.seq<|S.region rfl<|O.opE (.p rfl) (.box (cs:=[_,_,_,_]) rfl rfl) ?_;rintro _ _ ⟨b1,rfl,rfl⟩;refine O.q 1 rfl<|O.nil<|S.seq<|S.seq<|S.objIs (b:=b1) (cs' :=[byteV x.1,.slice a1 x.2.1.length c1,.slice a2 x.2.2.1.length c2,.slice a3 x.2.2.2.1.length c3]) zC rfl ?_;refine S.frzO zC fun g hs hm h1=>?_;replace hg:=Fr.sub_trans hg hs;replace hR:=melted hR hm
 try replace h:=h.mono hs
 try replace h0:=h0.mono hs
 try replace k1:=k1.mono hs
 try replace k2:=k2.mono hs
 try replace k3:=k3.mono hs
 try replace hH:=hH.mono hs
 try replace hK:=hK.mono hs
 clear hs hm
 by_cases e:nodeOk x
 ·have hkd:=node_kind e
  have hkeys:∀ y∈x.2.2.2.1,y.1.length≤64:=fun y hy=>(e.1.1 y hy).1.2;have h64:x.2.1.length≤64∧x.2.2.1.length≤64:=by rcases e.2 with q|q|q|q;rw [q.2.1,q.2.2.1];decide;rw [q.2.1,q.2.2.1];decide;omega;rw [q.2.1,q.2.2.1];decide
  refine S.region rfl<|O.op (.p rfl) (.loadAgg isAgg27 zD rfl h1) ?_;refine O.call0 (.p rfl) rfl zD rfl rfl ((mright_c h0 hx0 (fun y hy=>by have:=hx2.2 y hy;omega))) ?_;rintro _ _ ⟨rfl,rfl⟩
  try simp only [zx1,zx2,zx3]
  refine O.sT 7 rfl (by exact decide_eq_true e) ?_;refine O.op (.p rfl) (.not rfl)<|O.nil<|S.condF rfl<|S.skip<|S.seq<|S.regionD (L:=[1,2,6,7,8,9,0,3,4,5,10,11]) F.mixed zD ?_;refine .quiet (.p rfl) rfl (fun _=>.fieldAddr fld27x0 rfl)<|.quiet (.p rfl) rfl (fun _=>.loadAt flat23 rfl h1 rfl) ?_;refine .quiet (.p rfl) rfl (fun _=>.fieldAddr fld27x1 rfl)<|.quiet (.p rfl) rfl (fun _=>.loadAt flat24 rfl (h1.drop 1) rfl) ?_;refine .quiet (.p rfl) rfl (fun _=>.fieldAddr fld27x2 rfl)<|.quiet (.p rfl) rfl (fun _=>.loadAt flat24 rfl (h1.drop 2) rfl) ?_;refine OD.litP (T:=Rp.u8) (ys:=[0,0,1,2,3]) (.p rfl) zD underlying24 elem5 zE rfl rfl ⟨rfl,rfl,rfl,rfl,rfl,trivial⟩ zE (fun a9 c9=>?_);refine OD.idxOwn (T:=Rp.u8) (e:=5) (v:=.slice a9 5 c9) (xs:=[0,0,1,2,3]) (j:=x.1.toNat) (.p rfl) zD underlying24 size5 rfl rfl rfl zC hkd (fun p12 hp12=>?_);refine OD.loadL (.p rfl) zD (fun _=>.loadOwn (T:=Rp.u8) (xs:=[0,0,1,2,3]) (j:=x.1.toNat) flat5 rfl hp12 rfl zC hkd (by rintro _ rfl;exact congrArg (fun v=>[v]) (nodeTag_val hkd))) ?_;refine OD.litP (.p rfl) zD (T:=Rp.u8) (ys:=[nodeTag x.1]) underlying24 elem5 zE rfl rfl ⟨rfl,trivial⟩ zE (fun a14 c14=>?_)
  refine OD.litP (.p rfl) zD (T:=Rp.val) (ys:=[.slice a14 1 c14,.slice a1 x.2.1.length c1,.slice a2 x.2.2.1.length c2]) underlying109 elem24 zE rfl rfl ⟨⟨rfl,rfl⟩,⟨rfl,rfl⟩,⟨rfl,rfl⟩,trivial⟩ zE (fun a19 c19=>?_);refine OD.q 1 rfl<|ODx.nil<|S.seq<|S.seq<|S.frz (A:=OwnP Rp.u8 5 (.slice a14 1 c14) [nodeTag x.1]) zC fun g hs hm ⟨_,x',s'⟩=>?_;have ht:=(fun s x=>Arr.mono s (OwnP.arr x)) s' x';clear x' s';replace hg:=Fr.sub_trans hg hs;replace hR:=melted hR hm
  try replace h:=h.mono hs
  try replace h0:=h0.mono hs
  try replace k1:=k1.mono hs
  try replace k2:=k2.mono hs
  try replace k3:=k3.mono hs
  try replace hH:=hH.mono hs
  try replace hK:=hK.mono hs
  try replace h1:=h1.mono hs
  clear hs hm;refine S.frz (A:=OwnP Rp.u8 5 (.slice a9 5 c9) [0,0,1,2,3]) zC fun g hs hm ⟨_,x',s'⟩=>?_;have h9:=(fun s x=>Arr.mono s (OwnP.arr x)) s' x';clear x' s';replace hg:=Fr.sub_trans hg hs;replace hR:=melted hR hm
  try replace h:=h.mono hs
  try replace h0:=h0.mono hs
  try replace k1:=k1.mono hs
  try replace k2:=k2.mono hs
  try replace k3:=k3.mono hs
  try replace hH:=hH.mono hs
  try replace hK:=hK.mono hs
  try replace h1:=h1.mono hs
  try replace ht:=ht.mono hs
  clear hs hm;refine S.foldS (A:=EachP (OwnP Rp.u8 5) [] (leafParts (x.2.2.2.1.take 0))) (bs:=[]) .nil (fun m _=>trivial) ?_;refine S.region rfl<|O.op (.p rfl) (.fieldAddr fld27x3 rfl)<|O.op (.p rfl) (.loadAt flat25 rfl (h1.drop 3) rfl) ?_;refine O.op (.p rfl) (.len rfl underlying25 rfl)<|O.q 1 rfl<|O.nil<|S.block<|S.loopK3 (ι:=Nat) (κ:=Option Addr × Nat) (υ:=List Value) (fun k s vs=>k≤x.2.2.2.1.length∧vs.length=2*k) (fun k s vs=>[(23,.int .i64 (k:Int)),(3,.slice s.1 (3+2*k) s.2)]) [(21,_),(22,_)] (fun k s vs=>[EachP (OwnP Rp.u8 5) vs (leafParts (x.2.2.2.1.take k)),OwnP Rp.val 24 (.slice s.1 (3+2*k) s.2) ([.slice a14 1 c14,.slice a1 x.2.1.length c1,.slice a2 x.2.2.1.length c2]++vs)]) (fun k s vs=>x.2.2.2.1.length - k) (0) ((a19,c19)) ([]) (by exact ⟨by omega,rfl⟩) (.cons rfl (.cons rfl (.nil))) (.cons rfl (.cons rfl (.nil))) rfl fun k s vs hx ih=>?_;have hm1:=meltRefl (g:=g);obtain ⟨hx1,hvl⟩:=hx;refine S.seq<|S.region rfl<|O.op (.p rfl) (.lss rfl rfl)<|O.nil (S.seq ?_)
  first|refine S.condD rfl (fun h24=>?_) (fun h24=>?_)|refine S.condB rfl (fun h24=>?_) (fun h24=>?_)
  ·have hk:k<x.2.2.2.1.length:=by omega
   have hset:=hx2.2 _ (List.getElem_mem hk);have hkey:=hkeys _ (List.getElem_mem hk);have hsn:=leafParts_snoc hk;refine S.skip<|S.seq<|S.block<|S.seq<|S.region rfl<|O.ia (.p rfl) underlying25 size31 rfl rfl rfl (k3) (h:=fun p25 cs25 hp25 hr25=>?_);obtain ⟨l1,m1,rfl,l2,l3⟩:=LeafRp.sh hr25;have l3:=l3;refine O.op (.p rfl) (.loadAgg isAgg31 zD rfl hp25) ?_;refine O.opE (.p rfl) (.alloc (cs:=[.string ⟨#[]⟩,.slice none 0 0]) zeroValue31 rfl) ?_;rintro _ _ ⟨b5,rfl,rfl⟩;refine O.opU rfl (.storeObj zD rfl rfl rfl rfl zC zO) ?_;refine O.nil ?_;generalize x.2.2.2.1[k]=y at *;refine S.objIs (b:=b5) (cs' :=[.string (str y.1),.slice l1 y.2.1.length m1]) zC rfl ?_;refine S.frzO zC fun g hs hm h5=>?_;replace hg:=Fr.sub_trans hg hs;replace hR:=melted hR hm
   try replace h:=h.mono hs
   try replace h0:=h0.mono hs
   try replace k1:=k1.mono hs
   try replace k2:=k2.mono hs
   try replace k3:=k3.mono hs
   try replace hH:=hH.mono hs
   try replace hK:=hK.mono hs
   try replace h1:=h1.mono hs
   try replace ht:=ht.mono hs
   try replace h9:=h9.mono hs
   try replace hp25:=hp25.mono hs
   try replace l3:=l3.mono hs
   replace hm1:=meltTrans hm1 hm;clear hs hm;refine S.regionD (L:=[0,1,2,5,6,3,4,7,8,9,10]) F.mixed zD ?_;refine OD.q 1 rfl<|.quiet (.p rfl) rfl (fun _=>.fieldAddr fld31x0 rfl)<|.quiet (.p rfl) rfl (fun _=>.loadAt flat9 rfl h5 rfl) ?_;refine .quiet (.p rfl) rfl (fun _=>.fieldAddr fld31x1 rfl)<|.quiet (.p rfl) rfl (fun _=>.loadAt flat22 rfl (h5.drop 1) rfl) ?_;refine OD.strBytesO (.p rfl) zD underlying9 underlying24 underlying5 rfl (by first|assumption|omega|(simp;done)|(simp;omega)) (fun a30 c30=>?_);refine OD.callB (.p rfl) zD rfl zD rfl rfl (bs:=[OwnP Rp.u8 5 (.slice a30 y.1.length c30) y.1]) zK (fun m hm hd=>wBytes_c ((owned_one hm).right hd) zB) ?_;rintro _ _ ⟨a31,c31,rfl,rfl⟩
   try simp only [zx1,zx2,zx3]
   refine OD.call0 (.p rfl) zD rfl zD rfl rfl ((setSum_c l3 hH hK hset)) ?_;rintro _ _ ⟨a34,c34,rfl,rfl⟩
   try simp only [zx1,zx2,zx3]
   refine OD.litP (.p rfl) zD (T:=Rp.val) (ys:=[.slice a31 (bytesOf y.1).length c31,.slice a34 (setD y.2.1).length c34]) underlying109 elem24 zE rfl rfl ⟨⟨rfl,rfl⟩,⟨rfl,rfl⟩,trivial⟩ zE (fun a35 c35=>?_);refine OD.appendO (.p rfl) zD (T:=Rp.val) underlying109 elem24 zE rfl rfl zC zC zF zF (fun a36 c36=>?_);refine OD.q 1 rfl<|ODx.nil<|S.inBlock<|S.foldS (A:=EachP (OwnP Rp.u8 5) (vs++[.slice a31 (bytesOf y.1).length c31,.slice a34 (setD y.2.1).length c34]) (leafParts (x.2.2.2.1.take (k+1)))) (bs:=[EachP (OwnP Rp.u8 5) vs (leafParts (x.2.2.2.1.take k)),OwnP Rp.u8 5 (.slice a31 (bytesOf y.1).length c31) (bytesOf y.1),OwnP Rp.u8 5 (.slice a34 (setD y.2.1).length c34) (setD y.2.1)]) zK (fun m st=>by rw [← hsn];exact each_two st) ?_;refine S.frz (A:=OwnP Rp.u8 5 (.slice a30 y.1.length c30) y.1) zC fun g hs hm ⟨_,x',s'⟩=>?_;have hg0:=(fun s x=>Arr.mono s (OwnP.arr x)) s' x';clear x' s';replace hg:=Fr.sub_trans hg hs;replace hR:=melted hR hm
   try replace h:=h.mono hs
   try replace h0:=h0.mono hs
   try replace k1:=k1.mono hs
   try replace k2:=k2.mono hs
   try replace k3:=k3.mono hs
   try replace hH:=hH.mono hs
   try replace hK:=hK.mono hs
   try replace h1:=h1.mono hs
   try replace ht:=ht.mono hs
   try replace h9:=h9.mono hs
   try replace hp25:=hp25.mono hs
   try replace l3:=l3.mono hs
   try replace h5:=h5.mono hs
   replace hm1:=meltTrans hm1 hm;clear hs hm;refine S.ownIs (T:=Rp.val) (e:=24) (v' :=.slice a36 (3+2*(k+1)) c36) (xs' :=[.slice a14 1 c14,.slice a1 x.2.1.length c1,.slice a2 x.2.2.1.length c2]++(vs++[.slice a31 (bytesOf y.1).length c31,.slice a34 (setD y.2.1).length c34])) zC (by congr 1;simp only [List.length_cons,List.length_nil,hvl];omega) zH ?_;refine S.slot 3 (v' :=.slice a36 (3+2*(k+1)) c36) rfl (by congr 1;simp only [List.length_cons,List.length_nil,hvl];omega) ?_;refine S.region rfl<|O.op (.p rfl) (.add rfl rfl (IntWalk.i64_in _ zB))<|O.q 1 rfl<|O.nil ?_;exact S.melt hm1 (S.pw (ih (k+1) ((a36,c36)) ((vs++[.slice a31 (bytesOf y.1).length c31,.slice a34 (setD y.2.1).length c34])) (by exact ⟨by omega,by rw [List.length_append,hvl];simp only [List.length_cons,List.length_nil];omega⟩) zB))
  ·clear ih
   have hk:k=x.2.2.2.1.length:=by omega
   subst hk;rw [List.take_length];refine S.exit rfl<|S.seq<|S.frzA zC fun g hs hm hpv=>?_;replace hg:=Fr.sub_trans hg hs;replace hR:=melted hR hm
   try replace h:=h.mono hs
   try replace h0:=h0.mono hs
   try replace k1:=k1.mono hs
   try replace k2:=k2.mono hs
   try replace k3:=k3.mono hs
   try replace hH:=hH.mono hs
   try replace hK:=hK.mono hs
   try replace h1:=h1.mono hs
   try replace ht:=ht.mono hs
   try replace h9:=h9.mono hs
   replace hm1:=meltTrans hm1 hm;clear hs hm;refine S.frz (A:=EachP (OwnP Rp.u8 5) vs (leafParts x.2.2.2.1)) zC fun g hs hm ⟨_,x',s'⟩=>?_;have he:=each_arr s' x';clear x' s';replace hg:=Fr.sub_trans hg hs;replace hR:=melted hR hm
   try replace h:=h.mono hs
   try replace h0:=h0.mono hs
   try replace k1:=k1.mono hs
   try replace k2:=k2.mono hs
   try replace k3:=k3.mono hs
   try replace hH:=hH.mono hs
   try replace hK:=hK.mono hs
   try replace h1:=h1.mono hs
   try replace ht:=ht.mono hs
   try replace h9:=h9.mono hs
   try replace hpv:=hpv.mono hs
   replace hm1:=meltTrans hm1 hm;clear hs hm;have hpa:Arr (Rp.slice Rp.u8) g.h (.slice s.1 (3+2*x.2.2.2.1.length) s.2) (nodeParts x):=Arr.rows hpv ⟨ht,k1,k2,he⟩;have hsl:=leafParts_sum x.2.2.2.1 hkeys;have hfl:(nodeParts x).flatten.length≤10000000000:=by unfold nodeParts;simp only [List.flatten_append,List.flatten_cons,List.flatten_nil,List.length_append,List.length_cons,List.length_nil];omega
   refine S.region rfl<|O.q 1 rfl<|O.call0 (.p rfl) rfl zD rfl rfl ((shaSum_c hpa hH hK zB)) ?_;rintro _ _ ⟨a39,c39,rfl,rfl⟩
   try simp only [zx1,zx2,zx3]
   refine O.q 1 rfl<|O.nil ?_;have e1:=nodeSumY e;have e2:(nodeSumP x).length=64:=(nodeSum_64 x).2 e;refine S.ownIs (T:=Rp.u8) (e:=5) (v' :=.slice a39 (nodeSumP x).length c39) (xs' :=nodeSumP x) zC (by rw [e2]) e1.symm ?_;exact S.rt results22 rfl hR ⟨a39,c39,by rw [e2],rfl⟩
 ·have e1:=nodeSumN e
  refine S.region rfl<|O.op (.p rfl) (.loadAgg isAgg27 zD rfl h1) ?_;refine O.call0 (.p rfl) rfl zD rfl rfl ((mright_c h0 hx0 (fun y hy=>by have:=hx2.2 y hy;omega))) ?_;rintro _ _ ⟨rfl,rfl⟩
  try simp only [zx1,zx2,zx3]
  refine O.sF 7 rfl (by exact decide_eq_false e) ?_;refine O.op (.p rfl) (.not rfl)<|O.nil<|S.condT rfl<|S.seq<|S.region rfl<|O.q 1 rfl<|O.nil<|S.addNil (T:=Rp.u8) (e:=5) ?_;refine S.ownIs (T:=Rp.u8) (e:=5) (v' :=.slice none (nodeSumP x).length 0) (xs' :=nodeSumP x) zC (by rw [e1];rfl) e1.symm ?_;exact S.rt results22 rfl hR ⟨none,0,by rw [e1];rfl,rfl⟩
def bit01 (c:UInt8):Bool:=c.toNat ==48 ||c.toNat ==49
def bits01:List Value:=(List.range 256).map fun i=>.bool (i ==48 ||i ==49)
theorem bits01_get (c:UInt8):bits01[c.toNat]?=some (.bool (bit01 c)):=by
 have:=c.toNat_lt;simp only [bits01,bit01,List.getElem?_map];rw [List.getElem?_range zB];rfl
theorem bit01_iff {c:UInt8}:bit01 c=true↔c=48∨c=49:=by
 unfold bit01;rw [Bool.or_eq_true,beq_iff_eq,beq_iff_eq]
 constructor
 ·rintro (h|h)
  ·exact .inl (UInt8.toNat_inj.1 h)
  ·exact .inr (UInt8.toNat_inj.1 h)
 ·rintro (rfl|rfl)
  ·exact .inl rfl
  ·exact .inr rfl
theorem has01_c {r:Fr} {b:Nat} {c:UInt8} (h:At r ⟨b,0,none⟩ bits01):Con prog 312 #[.pointer (some ⟨b,0,none⟩),byteV c] r [] (Ret fun v η=>v=.bool (bit01 c)∧η=[]):=by
 have hc:=c.toNat_lt;refine Con.o func312 fun g hg R hR=>?_;have h:=h.mono hg;refine zz 9 ?_;refine O.op (.p rfl) (.idxArrA (j:=c.toNat) underlying310 size4 rfl rfl rfl zB)<|O.op (.p rfl) (.load flat4 rfl (h.at (bits01_get c))) ?_;refine zz 2 ?_;exact S.rt results312 rfl hR ⟨rfl,rfl⟩
theorem str_size_q (l:List UInt8):(str l).size=l.length:=by simp
theorem tail_step {s:List UInt8} {i:Nat} (hi:i<s.length) (h:∀ j (q:j<s.length),s.length - i≤j→bit01 s[j]=true) (e:bit01 (s[s.length - i - 1]'zB)=true):∀ j (q:j<s.length),s.length - (i+1)≤j→bit01 s[j]=true:=fun j q w=>by
 rcases Nat.lt_or_ge j (s.length - i) with w' |w'
 ·have:j=s.length - i - 1:=by omega
  subst this;exact e
 ·exact h j q w'
theorem trimR_c {r:Fr} {b:Nat} {s:List UInt8} (h:At r ⟨b,0,none⟩ bits01) (hl:s.length≤1000000000000):Con prog 247 #[.string (str s),.pointer (some ⟨b,0,none⟩)] r [] (Ret fun v η=>∃ k,k≤s.length∧v=.string (str (s.take k))∧(∀ j (q:j<s.length),k≤j→bit01 s[j]=true)∧(∀ q:k - 1<s.length,0<k→bit01 s[k - 1]=false)∧η=[]):=by
 have h0:=h;refine Con.o func247 fun g hg R hR=>?_;have h:=h.mono hg;refine zz 6 ?_;refine S.slot 0 (v' :=.string (str (s.take (s.length - 0)))) rfl (by rw [Nat.sub_zero,List.take_length]) ?_;refine S.loopK (ι:=Nat) (fun i=>i≤s.length∧∀ j (q:j<s.length),s.length - i≤j→bit01 s[j]=true) (fun i=>[(0,.string (str (s.take (s.length - i))))]) [(1,_)] (fun i=>[]) (fun i=>s.length - i) (0) (by exact ⟨by omega,fun j q w=>by omega⟩) zq zq rfl fun i hx ih=>?_;have hm1:=meltRefl (g:=g);obtain ⟨hx1,hall⟩:=hx;have htl:(s.take (s.length - i)).length=s.length - i:=by rw [zlt];omega
 have htg:∀ q:s.length - i - 1<(s.take (s.length - i)).length,(s.take (s.length - i))[s.length - i - 1]=s[s.length - i - 1]'zB:=fun q=>List.getElem_take
 by_cases hi:i<s.length
 ·have hj:s.length - i - 1<(s.take (s.length - i)).length:=by omega
  have hsz:(str (s.take (s.length - i))).size=s.length - i:=by rw [str_size_q,htl]
  cases e:bit01 (s[s.length - i - 1]'zB) with
  |true =>
   refine zz 6 ?_;refine O.sT 7 rfl (by exact zdt (by rw [hsz];omega))<|zz 11 ?_;refine O.op (.p rfl) (.sub rfl rfl (IntWalk.i64_in _ zB))<|O.slot 12 (v' :=.int .i64 ((s.length - i - 1:Nat):Int)) rfl (by exact congrArg (Value.int .i64) (by rw [hsz];omega)) ?_;refine O.op (.p rfl) (.indexS (j:=s.length - i - 1) underlying9 rfl rfl zU zF) ?_;refine O.slot 13 (v' :=byteV (s[s.length - i - 1]'zB)) rfl (by exact congrArg byteV (htg hj)) ?_;refine O.v0 (.p rfl) rfl zD rfl rfl ((has01_c (h0.mono hg))) ?_;refine O.sT 14 rfl (by exact e)<|zz 8 ?_;refine O.op (.p rfl) (.sub rfl rfl (IntWalk.i64_in _ zB))<|O.slot 19 (v' :=.int .i64 ((s.length - i - 1:Nat):Int)) rfl (by exact congrArg (Value.int .i64) (by rw [hsz];omega)) ?_;refine O.strTo (b:=s.length - i - 1) (.p rfl) underlying9 rfl rfl (show _=(((s.length - i - 1):Nat):Int) by omega) zF<|zz 3 ?_;refine S.slot 0 (v' :=.string (str (s.take (s.length - (i+1))))) rfl (by rw [List.take_take,show min (s.length - i - 1) (s.length - i)=s.length - (i+1) from by omega]) ?_;exact S.wk (ih (i+1) (by exact ⟨by omega,tail_step hi hall e⟩) zB)
  |false =>
   refine zz 6 ?_;refine O.sT 7 rfl (by exact zdt (by rw [hsz];omega))<|zz 11 ?_;refine O.op (.p rfl) (.sub rfl rfl (IntWalk.i64_in _ zB))<|O.slot 12 (v' :=.int .i64 ((s.length - i - 1:Nat):Int)) rfl (by exact congrArg (Value.int .i64) (by rw [hsz];omega)) ?_;refine O.op (.p rfl) (.indexS (j:=s.length - i - 1) underlying9 rfl rfl zU zF) ?_;refine O.slot 13 (v' :=byteV (s[s.length - i - 1]'zB)) rfl (by exact congrArg byteV (htg hj)) ?_;refine O.v0 (.p rfl) rfl zD rfl rfl ((has01_c (h0.mono hg))) ?_;refine O.sF 14 rfl (by exact e)<|zz 9 ?_;exact S.rt results247 rfl hR ⟨s.length - i,by omega,rfl,hall,fun _ _=>e,rfl⟩
 ·have hii:i=s.length:=by omega
  have hsz:(str (s.take (s.length - i))).size=0:=by rw [hii];simp
  refine zz 6 ?_;refine O.sF 7 rfl (by exact zdf (by rw [hsz];omega))<|zz 8 ?_;exact S.rt results247 rfl hR ⟨s.length - i,by omega,rfl,hall,fun _ w=>by omega,rfl⟩
theorem head_step {s:List UInt8} {i:Nat} (hi:i<s.length) (h:∀ j (q:j<s.length),j<i→bit01 s[j]=true) (e:bit01 s[i]=true):∀ j (q:j<s.length),j<i+1→bit01 s[j]=true:=fun j q w=>by
 rcases Nat.lt_or_ge j i with w' |w'
 ·exact h j q w'
 ·have:j=i:=by omega
  subst this;exact e
theorem trimL_c {r:Fr} {b:Nat} {s:List UInt8} (h:At r ⟨b,0,none⟩ bits01) (hl:s.length≤1000000000000):Con prog 246 #[.string (str s),.pointer (some ⟨b,0,none⟩)] r [] (Ret fun v η=>∃ k,k≤s.length∧v=.string (str (s.drop k))∧(∀ j (q:j<s.length),j<k→bit01 s[j]=true)∧(∀ q:k<s.length,bit01 s[k]=false)∧η=[]):=by
 have h0:=h;refine Con.o func246 fun g hg R hR=>?_;have h:=h.mono hg;refine zz 6 ?_;refine S.slot 0 (v' :=.string (str (s.drop 0))) rfl rfl ?_;refine S.loopK (ι:=Nat) (fun i=>i≤s.length∧∀ j (q:j<s.length),j<i→bit01 s[j]=true) (fun i=>[(0,.string (str (s.drop i)))]) [(1,_)] (fun i=>[]) (fun i=>s.length - i) (0) (by exact ⟨by omega,fun j q w=>by omega⟩) zq zq rfl fun i hx ih=>?_;have hm1:=meltRefl (g:=g);obtain ⟨hx1,hall⟩:=hx;have hsz:(str (s.drop i)).size=s.length - i:=by rw [str_size_q,List.length_drop]
 have hdl:(s.drop i).length=s.length - i:=List.length_drop
 by_cases hi:i<s.length
 ·have htg:(s.drop i)[0]'zB=s[i]:=by rw [List.getElem_drop];simp
  cases e:bit01 s[i] with
  |true =>
   refine zz 6 ?_;refine O.sT 7 rfl (by exact zdt (by rw [hsz];omega))<|zz 9 ?_;refine O.op (.p rfl) (.indexS (j:=0) underlying9 rfl rfl zU zF) ?_;refine O.slot 10 (v' :=byteV s[i]) rfl (by exact congrArg byteV htg) ?_;refine O.v0 (.p rfl) rfl zD rfl rfl ((has01_c (h0.mono hg))) ?_;refine O.sT 11 rfl (by exact e)<|zz 6 ?_;refine O.strFrom (a:=1) (.p rfl) underlying9 rfl rfl (show _=(((1):Nat):Int) by omega) zF<|zz 3 ?_;refine S.slot 0 (v' :=.string (str (s.drop (i+1)))) rfl (by rw [List.drop_drop]) ?_;exact S.wk (ih (i+1) (by exact ⟨by omega,head_step hi hall e⟩) zB)
  |false =>
   refine zz 6 ?_;refine O.sT 7 rfl (by exact zdt (by rw [hsz];omega))<|zz 9 ?_;refine O.op (.p rfl) (.indexS (j:=0) underlying9 rfl rfl zU zF) ?_;refine O.slot 10 (v' :=byteV s[i]) rfl (by exact congrArg byteV htg) ?_;refine O.v0 (.p rfl) rfl zD rfl rfl ((has01_c (h0.mono hg))) ?_;refine O.sF 11 rfl (by exact e)<|zz 9 ?_;exact S.rt results246 rfl hR ⟨i,by omega,rfl,hall,fun _=>e,rfl⟩
 ·have hii:i=s.length:=by omega
  refine zz 6 ?_;refine O.sF 7 rfl (by exact zdf (by rw [hsz];omega))<|zz 8 ?_;exact S.rt results246 rfl hR ⟨i,by omega,rfl,hall,fun w=>by omega,rfl⟩
theorem bits01_len:bits01.length=256:=by simp [bits01]
theorem bits01_all:∀ v∈bits01,v.oneCell' =true:=fun v hv=>by
 obtain ⟨i,_,rfl⟩:=List.mem_map.1 hv;rfl
theorem mset_c {r:Fr}:Con prog 245 #[.string (str [48,49])] r [] (Ret fun v η=>v=.tuple #[.agg bits01.toArray,.bool true]∧η=[]):=by
 refine Con.o func245 fun g hg R hR=>?_
 refine S.seq<|S.region rfl<|O.opE (.p rfl) (.alloc (cs:=[.bool false,.bool false,.bool false,.bool false,.bool false,.bool false,.bool false,.bool false,.bool false,.bool false,.bool false,.bool false,.bool false,.bool false,.bool false,.bool false,.bool false,.bool false,.bool false,.bool false,.bool false,.bool false,.bool false,.bool false,.bool false,.bool false,.bool false,.bool false,.bool false,.bool false,.bool false,.bool false,.bool false,.bool false,.bool false,.bool false,.bool false,.bool false,.bool false,.bool false,.bool false,.bool false,.bool false,.bool false,.bool false,.bool false,.bool false,.bool false,.bool false,.bool false,.bool false,.bool false,.bool false,.bool false,.bool false,.bool false,.bool false,.bool false,.bool false,.bool false,.bool false,.bool false,.bool false,.bool false,.bool false,.bool false,.bool false,.bool false,.bool false,.bool false,.bool false,.bool false,.bool false,.bool false,.bool false,.bool false,.bool false,.bool false,.bool false,.bool false,.bool false,.bool false,.bool false,.bool false,.bool false,.bool false,.bool false,.bool false,.bool false,.bool false,.bool false,.bool false,.bool false,.bool false,.bool false,.bool false,.bool false,.bool false,.bool false,.bool false,.bool false,.bool false,.bool false,.bool false,.bool false,.bool false,.bool false,.bool false,.bool false,.bool false,.bool false,.bool false,.bool false,.bool false,.bool false,.bool false,.bool false,.bool false,.bool false,.bool false,.bool false,.bool false,.bool false,.bool false,.bool false,.bool false,.bool false,.bool false,.bool false,.bool false,.bool false,.bool false,.bool false,.bool false,.bool false,.bool false,.bool false,.bool false,.bool false,.bool false,.bool false,.bool false,.bool false,.bool false,.bool false,.bool false,.bool false,.bool false,.bool false,.bool false,.bool false,.bool false,.bool false,.bool false,.bool false,.bool false,.bool false,.bool false,.bool false,.bool false,.bool false,.bool false,.bool false,.bool false,.bool false,.bool false,.bool false,.bool false,.bool false,.bool false,.bool false,.bool false,.bool false,.bool false,.bool false,.bool false,.bool false,.bool false,.bool false,.bool false,.bool false,.bool false,.bool false,.bool false,.bool false,.bool false,.bool false,.bool false,.bool false,.bool false,.bool false,.bool false,.bool false,.bool false,.bool false,.bool false,.bool false,.bool false,.bool false,.bool false,.bool false,.bool false,.bool false,.bool false,.bool false,.bool false,.bool false,.bool false,.bool false,.bool false,.bool false,.bool false,.bool false,.bool false,.bool false,.bool false,.bool false,.bool false,.bool false,.bool false,.bool false,.bool false,.bool false,.bool false,.bool false,.bool false,.bool false,.bool false,.bool false,.bool false,.bool false,.bool false,.bool false,.bool false,.bool false,.bool false,.bool false,.bool false,.bool false,.bool false,.bool false,.bool false,.bool false,.bool false,.bool false,.bool false,.bool false,.bool false,.bool false,.bool false,.bool false,.bool false,.bool false,.bool false,.bool false,.bool false]) zeroValue310 rfl) ?_
 rintro _ _ ⟨b2,rfl,rfl⟩;refine zz 8 ?_;refine S.objIs (b:=b2) (cs' :=List.replicate 256 (.bool false)) zC rfl ?_;refine zz 8 ?_;refine O.sT 9 rfl zI ?_;refine zz 9 ?_;refine O.op (.p rfl) (.indexS (j:=0) underlying9 rfl rfl zU zF) ?_;refine O.slot 14 (v' :=.int .u8 48) rfl zI ?_;refine zz 7 ?_;refine O.sF 16 rfl zI ?_;refine zz 5 ?_;refine O.op (.p rfl) (.idxArr (j:=48) underlying310 size4 rfl rfl (show _=(((48):Nat):Int) by omega) zB) ?_;refine zz 8 ?_;refine S.objIs (b:=b2) (cs' :=(List.replicate 256 (.bool false)).set 48 (.bool true)) zC rfl ?_;refine zz 8 ?_;refine O.sT 9 rfl zI ?_;refine zz 9 ?_;refine O.op (.p rfl) (.indexS (j:=1) underlying9 rfl rfl zU zF) ?_;refine O.slot 14 (v' :=.int .u8 49) rfl zI ?_;refine zz 7 ?_;refine O.sF 16 rfl zI ?_;refine zz 5 ?_;refine O.op (.p rfl) (.idxArr (j:=49) underlying310 size4 rfl rfl (show _=(((49):Nat):Int) by omega) zB) ?_;refine zz 8 ?_;refine S.objIs (b:=b2) (cs' :=bits01) zC rfl ?_;refine zz 8 ?_;refine O.sF 9 rfl zI ?_;refine zz 5 ?_;refine O.op (.p rfl) (.loadObjAgg (news:=bits01) isAgg310 (by rw [bits01_len];kernel_rfl) rfl zC (by rw [List.drop_zero,List.take_length])) ?_;refine O.opU rfl (.storeObj (news:=bits01) (by rw [bits01_len];kernel_rfl) rfl rfl zT (List.all_eq_true.2 bits01_all) zC (by rw [bits01_len];decide)) ?_
 refine O.q 1 rfl<|O.nil<|S.objIs (b:=b2) (cs' :=bits01) zC (by rw [List.take_zero,List.nil_append,List.drop_eq_nil_of_le (by rw [bits01_len];decide),List.append_nil]) ?_;refine S.retCellT results245 rfl rfl zC (LoadsAs.agg isAgg310 (by rw [bits01_len];kernel_rfl)) fun w hw=>Holds.end_ hR hw ?_;exact pk ⟨rfl,rfl⟩
theorem trim_none {s:List UInt8} {k m:Nat} (hk:k≤s.length) (h1:∀ j (q:j<s.length),k≤j→bit01 s[j]=true) (h2:∀ q:k - 1<s.length,0<k→bit01 s[k - 1]=false)
  (hm:m≤(s.take k).length) (h3:∀ j (q:j<(s.take k).length),j<m→bit01 (s.take k)[j]=true) (h4:∀ q:m<(s.take k).length,bit01 (s.take k)[m]=false):(s.take k).drop m=[]↔∀ c∈s,c=48∨c=49:=by
 have hl:(s.take k).length=k:=by rw [zlt];omega
 constructor
 ·intro e c hc
  have hmk:m=k:=by have:=congrArg List.length e;rw [List.length_drop,hl] at this;simp at this;omega
  obtain ⟨j,q,rfl⟩:=List.mem_iff_getElem.1 hc;rw [← bit01_iff]
  rcases Nat.lt_or_ge j k with w|w
  ·have:=h3 j zB zB
   rw [List.getElem_take] at this;exact this
  ·exact h1 j q w
 ·intro w
  have h0:k=0:=Nat.eq_zero_of_not_pos fun hp=>by
   have q:k - 1<s.length:=by omega
   have:=h2 q hp;rw [bit01_iff.2 (w _ (List.getElem_mem q))] at this;cases this
  subst h0;simp
theorem trim_c {r:Fr} {s:List UInt8} (hl:s.length≤1000000000000):Con prog 163 #[.string (str s),.string (str [48,49])] r [] (Ret fun v η=>∃ t,v=.string (str t)∧(t=[]↔∀ c∈s,c=48∨c=49)∧η=[]):=by
 refine Con.o func163 fun g hg R hR=>?_
 by_cases h0:s=[]
 ·
  refine zz 8 ?_;refine O.op (.p rfl) (.eqlS rfl rfl)<|O.sT 8 rfl (by simp [h0])<|zz 11 ?_;exact S.rt results163 rfl hR ⟨s,rfl,⟨fun _=>by rw [h0];exact fun _ h=>(by cases h),fun _=>h0⟩,rfl⟩
 ·
  refine zz 8 ?_;refine O.op (.p rfl) (.eqlS rfl rfl)<|O.sF 8 rfl (by exact zdf (fun q=>h0 (str_eqL q))) ?_;refine O.q 2 rfl<|O.op (.g rfl rfl) (.eqlS rfl rfl)<|O.sF 11 rfl zH<|zz 10 ?_;refine O.sF 16 rfl zI<|zz 12 ?_;refine O.v0 (.p rfl) rfl zD rfl rfl (mset_c) ?_
  refine O.q 3 rfl<|O.opE (.p rfl) (.alloc (cs:=[.bool false,.bool false,.bool false,.bool false,.bool false,.bool false,.bool false,.bool false,.bool false,.bool false,.bool false,.bool false,.bool false,.bool false,.bool false,.bool false,.bool false,.bool false,.bool false,.bool false,.bool false,.bool false,.bool false,.bool false,.bool false,.bool false,.bool false,.bool false,.bool false,.bool false,.bool false,.bool false,.bool false,.bool false,.bool false,.bool false,.bool false,.bool false,.bool false,.bool false,.bool false,.bool false,.bool false,.bool false,.bool false,.bool false,.bool false,.bool false,.bool false,.bool false,.bool false,.bool false,.bool false,.bool false,.bool false,.bool false,.bool false,.bool false,.bool false,.bool false,.bool false,.bool false,.bool false,.bool false,.bool false,.bool false,.bool false,.bool false,.bool false,.bool false,.bool false,.bool false,.bool false,.bool false,.bool false,.bool false,.bool false,.bool false,.bool false,.bool false,.bool false,.bool false,.bool false,.bool false,.bool false,.bool false,.bool false,.bool false,.bool false,.bool false,.bool false,.bool false,.bool false,.bool false,.bool false,.bool false,.bool false,.bool false,.bool false,.bool false,.bool false,.bool false,.bool false,.bool false,.bool false,.bool false,.bool false,.bool false,.bool false,.bool false,.bool false,.bool false,.bool false,.bool false,.bool false,.bool false,.bool false,.bool false,.bool false,.bool false,.bool false,.bool false,.bool false,.bool false,.bool false,.bool false,.bool false,.bool false,.bool false,.bool false,.bool false,.bool false,.bool false,.bool false,.bool false,.bool false,.bool false,.bool false,.bool false,.bool false,.bool false,.bool false,.bool false,.bool false,.bool false,.bool false,.bool false,.bool false,.bool false,.bool false,.bool false,.bool false,.bool false,.bool false,.bool false,.bool false,.bool false,.bool false,.bool false,.bool false,.bool false,.bool false,.bool false,.bool false,.bool false,.bool false,.bool false,.bool false,.bool false,.bool false,.bool false,.bool false,.bool false,.bool false,.bool false,.bool false,.bool false,.bool false,.bool false,.bool false,.bool false,.bool false,.bool false,.bool false,.bool false,.bool false,.bool false,.bool false,.bool false,.bool false,.bool false,.bool false,.bool false,.bool false,.bool false,.bool false,.bool false,.bool false,.bool false,.bool false,.bool false,.bool false,.bool false,.bool false,.bool false,.bool false,.bool false,.bool false,.bool false,.bool false,.bool false,.bool false,.bool false,.bool false,.bool false,.bool false,.bool false,.bool false,.bool false,.bool false,.bool false,.bool false,.bool false,.bool false,.bool false,.bool false,.bool false,.bool false,.bool false,.bool false,.bool false,.bool false,.bool false,.bool false,.bool false,.bool false,.bool false,.bool false,.bool false,.bool false,.bool false,.bool false,.bool false,.bool false,.bool false,.bool false,.bool false,.bool false,.bool false,.bool false,.bool false,.bool false,.bool false,.bool false,.bool false,.bool false]) zeroValue310 rfl) ?_
  rintro _ _ ⟨b5,rfl,rfl⟩;refine O.opU rfl (.storeObj (news:=bits01) (by rw [bits01_len];kernel_rfl) rfl rfl zT (List.all_eq_true.2 bits01_all) zC (by rw [bits01_len];decide)) ?_;refine zz 3 ?_;refine S.objIs (b:=b5) (cs' :=bits01) zC (by rw [List.take_zero,List.nil_append,List.drop_eq_nil_of_le (by rw [bits01_len];decide),List.append_nil]) ?_;refine S.frzO zC fun g hs hm h5=>?_;replace hg:=zfs hg hs;replace hR:=melted hR hm;clear hs hm;refine zz 2 ?_;refine O.sT 34 rfl zI ?_;refine zz 5 ?_;refine O.call0 (.p rfl) rfl zD rfl rfl ((trimR_c h5 hl)) ?_;rintro v36 _ ⟨k,hk,rfl,h1,h2,rfl⟩;refine O.call0 (.p rfl) rfl zD rfl rfl ((trimL_c h5 (by rw [zlt];omega))) ?_;rintro v37 _ ⟨m,hm,rfl,h3,h4,rfl⟩;refine zz 2 ?_;exact S.rt results163 rfl hR ⟨(s.take k).drop m,rfl,trim_none hk h1 h2 hm h3 h4,rfl⟩
theorem triedB_ret {g:Gr} {bt bx:Nat} {x:Value} {T' :TypeId} {w:World} {R:Ending→World→Prop} {η:List SProp} (hw:Holds w g (obj bx T' [x]::η)) (hR:∀ w,Holds w g (obj bx T' [x]::η)→R (.returned x) w) :
  CallsD prog 389 #[.pointer (some ⟨bt,0,none⟩),.pointer (some ⟨bx,0,none⟩)] .returning w (DPost g bx R):=by
 refine (callsD_rec (R:=fun e w=>(∃ v,e=.returned v)∧Holds w g (obj bx T' [x]::η)) [.pointer (some ⟨bt,0,none⟩),.pointer (some ⟨bx,0,none⟩)] rfl func389 rfl rfl rfl rfl hw ?_).mono ?_
 rotate_left
 ·rintro e u' w' ⟨rfl,⟨v,rfl⟩,h⟩
  exact ⟨⟨v,rfl⟩,rfl,T',x,η,h,hR w' h⟩
 refine S.seq<|S.region rfl<|O.q 1 rfl<|O.op (.p rfl) (.neqIN underlying20 rfl)<|O.nil<|S.condF rfl<|S.skip<|S.end0 results389 fun w hw=>?_;exact ⟨⟨_,rfl⟩,hw⟩
theorem triedB_pan {g:Gr} {bt bx b:Nat} {v x:Value} {made bad:Bool} {T' Tt:TypeId} {w:World} {R:Ending→World→Prop} {η:List SProp} (hw:Holds w g (obj bx T' [x]::obj bt Tt [.pointer (some ⟨b,0,none⟩)]::obj b 441 [v,.bool made,.bool bad]::η))
  (hR:∀ w,Holds w g (obj bx T' [.int .u8 0]::obj b 441 [v,.bool made,.bool true]::η)→R (.returned (.int .u8 0)) w) :
  CallsD prog 389 #[.pointer (some ⟨bt,0,none⟩),.pointer (some ⟨bx,0,none⟩)] (.panicking missing) w (DPost g bx R):=by
 refine (callsD_rec (R:=fun e w=>(∃ v,e=.returned v)∧Holds w g (obj bx T' [.int .u8 0]::obj b 441 [v,.bool made,.bool true]::η)) [.pointer (some ⟨bt,0,none⟩),.pointer (some ⟨bx,0,none⟩)] rfl func389 rfl rfl rfl rfl hw ?_).mono ?_
 rotate_left
 ·rintro e u' w' ⟨rfl,⟨v,rfl⟩,h⟩
  exact ⟨⟨v,rfl⟩,rfl,T',_,_,h,hR w' h⟩
 refine zz 3 ?_;refine O.op (.p rfl) (.neqIV underlying20 rfl)<|zz 6 ?_;refine O.op (.p rfl) (.assertYes underlying459 rfl)<|zz 3 ?_;refine O.opE (.p rfl) (.alloc (cs:=[]) zeroValue459 rfl) ?_;rintro _ _ ⟨b3,rfl,rfl⟩;refine zz 24 ?_;refine O.nil<|S.end0 results389 fun w hw=>?_;exact ⟨⟨_,rfl⟩,hw.picks zN⟩
theorem triedB_c {r:Fr} {b f:Nat} {v:Value} {made bad:Bool} {first cap:Array Value} {K:Value→Value→List SProp→Prop} {X:Value→Prop} (hc:callable prog f=true) (hK1:∀ u v' ζ,K u v' ζ→u.oneCell' =true)
  (con:made=true→bad=false→Con prog f (first++#[]++cap) r [obj b 441 [v,.bool true,.bool false]] (RetP (fun u η=>∃ v' ζ,K u v' ζ∧η=obj b 441 [v',.bool true,.bool false]::ζ) (fun ch η=>ch=missing∧∃ v',X v' ∧η=[obj b 441 [v',.bool true,.bool false]]))) :
  Con prog 368 #[.pointer (some ⟨b,0,none⟩),.func (.func f) first cap] r [obj b 441 [v,.bool made,.bool bad]] (Ret fun u η =>
   ((made && !bad)=false∧u=.int .u8 0∧η=[obj b 441 [v,.bool made,.bool bad]])∨(made=true∧bad=false∧∃ v' ζ,K u v' ζ∧η=obj b 441 [v',.bool true,.bool false]::ζ) ∨
   (made=true∧bad=false∧∃ v',X v' ∧u=.int .u8 0∧η=[obj b 441 [v',.bool true,.bool true]])):=by
 refine Con.of (n:=12) [.pointer (some ⟨b,0,none⟩),.func (.func f) first cap] rfl func368 rfl rfl rfl fun g hg R hR=>?_;refine S.seq<|S.region rfl<|O.opE (.p rfl) (.box (cs:=[_]) rfl rfl) ?_;rintro _ _ ⟨b2,rfl,rfl⟩;refine O.opE (.p rfl) (.alloc (cs:=[.int .u8 0]) zeroValue5 rfl) ?_;rintro _ _ ⟨b4,rfl,rfl⟩;refine zz 5 ?_;refine O.vS (.p rfl) rfl zD rfl rfl zC rGood_c ?_;refine O.op (.p rfl) ((by first|exact .notD rfl|exact .not rfl))<|zz 1 ?_;refine S.cd rfl (fun h7=>?_) fun h7=>?_
 ·refine zz 4 ?_
  refine O.nil<|S.retCell results368 flat5 rfl zC fun w hw=>Holds.end_ hR hw ?_;exact pk (.inl ⟨by revert h7;cases made<;>cases bad<;>simp,rfl,rfl⟩)
 ·obtain ⟨rfl,rfl⟩:made=true∧bad=false:=by revert h7;cases made<;>cases bad<;>simp
  refine zz 4 ?_;refine O.defer rfl rfl rfl rfl<|zz 4 ?_;refine O.callPSD (.p rfl) rfl hc rfl rfl zC ((con rfl rfl).sub hg) (fun a ch η' w hF hX hW=>by (obtain ⟨rfl,v',hX',rfl⟩:=hX;exact leavesCell results368 flat5 hF rfl zH zD (triedB_pan (hW.picks zN) fun w hw=>Holds.end_ hR hw ⟨_,.inr (.inr ⟨rfl,rfl,v',hX',rfl,rfl⟩),zN⟩))) ?_;rintro v11 _ ⟨v',ζ,hK,rfl⟩;have hone:=hK1 _ _ _ hK;refine O.perm (List.Perm.cons _ List.perm_append_comm) ?_;simp only [List.cons_append,List.nil_append];refine zz 1 ?_;refine O.nil<|S.retL fun a w hf hd hw=>?_;exact leavesCell results368 flat5 hf rfl zH zD (triedB_ret hw fun w hw=>Holds.end_ hR hw ⟨_,.inr (.inl ⟨rfl,rfl,v',ζ,hK,rfl⟩),zN⟩)
theorem triedI_ret {g:Gr} {bt bx:Nat} {x:Value} {T' :TypeId} {w:World} {R:Ending→World→Prop} {η:List SProp} (hw:Holds w g (obj bx T' [x]::η)) (hR:∀ w,Holds w g (obj bx T' [x]::η)→R (.returned x) w) :
  CallsD prog 392 #[.pointer (some ⟨bt,0,none⟩),.pointer (some ⟨bx,0,none⟩)] .returning w (DPost g bx R):=by
 refine (callsD_rec (R:=fun e w=>(∃ v,e=.returned v)∧Holds w g (obj bx T' [x]::η)) [.pointer (some ⟨bt,0,none⟩),.pointer (some ⟨bx,0,none⟩)] rfl func392 rfl rfl rfl rfl hw ?_).mono ?_
 rotate_left
 ·rintro e u' w' ⟨rfl,⟨v,rfl⟩,h⟩
  exact ⟨⟨v,rfl⟩,rfl,T',x,η,h,hR w' h⟩
 refine S.seq<|S.region rfl<|O.q 1 rfl<|O.op (.p rfl) (.neqIN underlying20 rfl)<|O.nil<|S.condF rfl<|S.skip<|S.end0 results392 fun w hw=>?_;exact ⟨⟨_,rfl⟩,hw⟩
theorem triedI_pan {g:Gr} {bt bx b:Nat} {v x:Value} {made bad:Bool} {T' Tt:TypeId} {w:World} {R:Ending→World→Prop} {η:List SProp} (hw:Holds w g (obj bx T' [x]::obj bt Tt [.pointer (some ⟨b,0,none⟩)]::obj b 441 [v,.bool made,.bool bad]::η))
  (hR:∀ w,Holds w g (obj bx T' [.int .i64 0]::obj b 441 [v,.bool made,.bool true]::η)→R (.returned (.int .i64 0)) w) :
  CallsD prog 392 #[.pointer (some ⟨bt,0,none⟩),.pointer (some ⟨bx,0,none⟩)] (.panicking missing) w (DPost g bx R):=by
 refine (callsD_rec (R:=fun e w=>(∃ v,e=.returned v)∧Holds w g (obj bx T' [.int .i64 0]::obj b 441 [v,.bool made,.bool true]::η)) [.pointer (some ⟨bt,0,none⟩),.pointer (some ⟨bx,0,none⟩)] rfl func392 rfl rfl rfl rfl hw ?_).mono ?_
 rotate_left
 ·rintro e u' w' ⟨rfl,⟨v,rfl⟩,h⟩
  exact ⟨⟨v,rfl⟩,rfl,T',_,_,h,hR w' h⟩
 refine zz 3 ?_;refine O.op (.p rfl) (.neqIV underlying20 rfl)<|zz 6 ?_;refine O.op (.p rfl) (.assertYes underlying459 rfl)<|zz 3 ?_;refine O.opE (.p rfl) (.alloc (cs:=[]) zeroValue459 rfl) ?_;rintro _ _ ⟨b3,rfl,rfl⟩;refine zz 24 ?_;refine O.nil<|S.end0 results392 fun w hw=>?_;exact ⟨⟨_,rfl⟩,hw.picks zN⟩
theorem triedI_c {r:Fr} {b f:Nat} {v:Value} {made bad:Bool} {first cap:Array Value} {K:Value→Value→List SProp→Prop} {X:Value→Prop} (hc:callable prog f=true) (hK1:∀ u v' ζ,K u v' ζ→u.oneCell' =true)
  (con:made=true→bad=false→Con prog f (first++#[]++cap) r [obj b 441 [v,.bool true,.bool false]] (RetP (fun u η=>∃ v' ζ,K u v' ζ∧η=obj b 441 [v',.bool true,.bool false]::ζ) (fun ch η=>ch=missing∧∃ v',X v' ∧η=[obj b 441 [v',.bool true,.bool false]]))) :
  Con prog 374 #[.pointer (some ⟨b,0,none⟩),.func (.func f) first cap] r [obj b 441 [v,.bool made,.bool bad]] (Ret fun u η =>
   ((made && !bad)=false∧u=.int .i64 0∧η=[obj b 441 [v,.bool made,.bool bad]])∨(made=true∧bad=false∧∃ v' ζ,K u v' ζ∧η=obj b 441 [v',.bool true,.bool false]::ζ) ∨
   (made=true∧bad=false∧∃ v',X v' ∧u=.int .i64 0∧η=[obj b 441 [v',.bool true,.bool true]])):=by
 refine Con.of (n:=12) [.pointer (some ⟨b,0,none⟩),.func (.func f) first cap] rfl func374 rfl rfl rfl fun g hg R hR=>?_;refine S.seq<|S.region rfl<|O.opE (.p rfl) (.box (cs:=[_]) rfl rfl) ?_;rintro _ _ ⟨b2,rfl,rfl⟩;refine O.opE (.p rfl) (.alloc (cs:=[.int .i64 0]) zeroValue3 rfl) ?_;rintro _ _ ⟨b4,rfl,rfl⟩;refine zz 5 ?_;refine O.vS (.p rfl) rfl zD rfl rfl zC rGood_c ?_;refine O.op (.p rfl) ((by first|exact .notD rfl|exact .not rfl))<|zz 1 ?_;refine S.cd rfl (fun h7=>?_) fun h7=>?_
 ·refine zz 4 ?_
  refine O.nil<|S.retCell results374 flat3 rfl zC fun w hw=>Holds.end_ hR hw ?_;exact pk (.inl ⟨by revert h7;cases made<;>cases bad<;>simp,rfl,rfl⟩)
 ·obtain ⟨rfl,rfl⟩:made=true∧bad=false:=by revert h7;cases made<;>cases bad<;>simp
  refine zz 4 ?_;refine O.defer rfl rfl rfl rfl<|zz 4 ?_;refine O.callPSD (.p rfl) rfl hc rfl rfl zC ((con rfl rfl).sub hg) (fun a ch η' w hF hX hW=>by (obtain ⟨rfl,v',hX',rfl⟩:=hX;exact leavesCell results374 flat3 hF rfl zH zD (triedI_pan (hW.picks zN) fun w hw=>Holds.end_ hR hw ⟨_,.inr (.inr ⟨rfl,rfl,v',hX',rfl,rfl⟩),zN⟩))) ?_;rintro v11 _ ⟨v',ζ,hK,rfl⟩;have hone:=hK1 _ _ _ hK;refine O.perm (List.Perm.cons _ List.perm_append_comm) ?_;simp only [List.cons_append,List.nil_append];refine zz 1 ?_;refine O.nil<|S.retL fun a w hf hd hw=>?_;exact leavesCell results374 flat3 hf rfl zH zD (triedI_ret hw fun w hw=>Holds.end_ hR hw ⟨_,.inr (.inl ⟨rfl,rfl,v',ζ,hK,rfl⟩),zN⟩)
theorem triedS_ret {g:Gr} {bt bx:Nat} {x:Value} {T' :TypeId} {w:World} {R:Ending→World→Prop} {η:List SProp} (hw:Holds w g (obj bx T' [x]::η)) (hR:∀ w,Holds w g (obj bx T' [x]::η)→R (.returned x) w) :
  CallsD prog 390 #[.pointer (some ⟨bt,0,none⟩),.pointer (some ⟨bx,0,none⟩)] .returning w (DPost g bx R):=by
 refine (callsD_rec (R:=fun e w=>(∃ v,e=.returned v)∧Holds w g (obj bx T' [x]::η)) [.pointer (some ⟨bt,0,none⟩),.pointer (some ⟨bx,0,none⟩)] rfl func390 rfl rfl rfl rfl hw ?_).mono ?_
 rotate_left
 ·rintro e u' w' ⟨rfl,⟨v,rfl⟩,h⟩
  exact ⟨⟨v,rfl⟩,rfl,T',x,η,h,hR w' h⟩
 refine S.seq<|S.region rfl<|O.q 1 rfl<|O.op (.p rfl) (.neqIN underlying20 rfl)<|O.nil<|S.condF rfl<|S.skip<|S.end0 results390 fun w hw=>?_;exact ⟨⟨_,rfl⟩,hw⟩
theorem triedS_pan {g:Gr} {bt bx b:Nat} {v x:Value} {made bad:Bool} {T' Tt:TypeId} {w:World} {R:Ending→World→Prop} {η:List SProp} (hw:Holds w g (obj bx T' [x]::obj bt Tt [.pointer (some ⟨b,0,none⟩)]::obj b 441 [v,.bool made,.bool bad]::η))
  (hR:∀ w,Holds w g (obj bx T' [.slice none 0 0]::obj b 441 [v,.bool made,.bool true]::η)→R (.returned (.slice none 0 0)) w) :
  CallsD prog 390 #[.pointer (some ⟨bt,0,none⟩),.pointer (some ⟨bx,0,none⟩)] (.panicking missing) w (DPost g bx R):=by
 refine (callsD_rec (R:=fun e w=>(∃ v,e=.returned v)∧Holds w g (obj bx T' [.slice none 0 0]::obj b 441 [v,.bool made,.bool true]::η)) [.pointer (some ⟨bt,0,none⟩),.pointer (some ⟨bx,0,none⟩)] rfl func390 rfl rfl rfl rfl hw ?_).mono ?_
 rotate_left
 ·rintro e u' w' ⟨rfl,⟨v,rfl⟩,h⟩
  exact ⟨⟨v,rfl⟩,rfl,T',_,_,h,hR w' h⟩
 refine zz 3 ?_;refine O.op (.p rfl) (.neqIV underlying20 rfl)<|zz 6 ?_;refine O.op (.p rfl) (.assertYes underlying459 rfl)<|zz 3 ?_;refine O.opE (.p rfl) (.alloc (cs:=[]) zeroValue459 rfl) ?_;rintro _ _ ⟨b3,rfl,rfl⟩;refine zz 24 ?_;refine O.nil<|S.end0 results390 fun w hw=>?_;exact ⟨⟨_,rfl⟩,hw.picks zN⟩
theorem triedS_c {r:Fr} {b f:Nat} {v:Value} {made bad:Bool} {first cap:Array Value} {K:Value→Value→List SProp→Prop} {X:Value→Prop} (hc:callable prog f=true) (hK1:∀ u v' ζ,K u v' ζ→u.oneCell' =true)
  (con:made=true→bad=false→Con prog f (first++#[]++cap) r [obj b 441 [v,.bool true,.bool false]] (RetP (fun u η=>∃ v' ζ,K u v' ζ∧η=obj b 441 [v',.bool true,.bool false]::ζ) (fun ch η=>ch=missing∧∃ v',X v' ∧η=[obj b 441 [v',.bool true,.bool false]]))) :
  Con prog 370 #[.pointer (some ⟨b,0,none⟩),.func (.func f) first cap] r [obj b 441 [v,.bool made,.bool bad]] (Ret fun u η =>
   ((made && !bad)=false∧u=.slice none 0 0∧η=[obj b 441 [v,.bool made,.bool bad]])∨(made=true∧bad=false∧∃ v' ζ,K u v' ζ∧η=obj b 441 [v',.bool true,.bool false]::ζ) ∨
   (made=true∧bad=false∧∃ v',X v' ∧u=.slice none 0 0∧η=[obj b 441 [v',.bool true,.bool true]])):=by
 refine Con.of (n:=12) [.pointer (some ⟨b,0,none⟩),.func (.func f) first cap] rfl func370 rfl rfl rfl fun g hg R hR=>?_;refine S.seq<|S.region rfl<|O.opE (.p rfl) (.box (cs:=[_]) rfl rfl) ?_;rintro _ _ ⟨b2,rfl,rfl⟩;refine O.opE (.p rfl) (.alloc (cs:=[.slice none 0 0]) zeroValue24 rfl) ?_;rintro _ _ ⟨b4,rfl,rfl⟩;refine zz 5 ?_;refine O.vS (.p rfl) rfl zD rfl rfl zC rGood_c ?_;refine O.op (.p rfl) ((by first|exact .notD rfl|exact .not rfl))<|zz 1 ?_;refine S.cd rfl (fun h7=>?_) fun h7=>?_
 ·refine zz 4 ?_
  refine O.nil<|S.retCell results370 flat24 rfl zC fun w hw=>Holds.end_ hR hw ?_;exact pk (.inl ⟨by revert h7;cases made<;>cases bad<;>simp,rfl,rfl⟩)
 ·obtain ⟨rfl,rfl⟩:made=true∧bad=false:=by revert h7;cases made<;>cases bad<;>simp
  refine zz 4 ?_;refine O.defer rfl rfl rfl rfl<|zz 4 ?_;refine O.callPSD (.p rfl) rfl hc rfl rfl zC ((con rfl rfl).sub hg) (fun a ch η' w hF hX hW=>by (obtain ⟨rfl,v',hX',rfl⟩:=hX;exact leavesCell results370 flat24 hF rfl zH zD (triedS_pan (hW.picks zN) fun w hw=>Holds.end_ hR hw ⟨_,.inr (.inr ⟨rfl,rfl,v',hX',rfl,rfl⟩),zN⟩))) ?_;rintro v11 _ ⟨v',ζ,hK,rfl⟩;have hone:=hK1 _ _ _ hK;refine O.perm (List.Perm.cons _ List.perm_append_comm) ?_;simp only [List.cons_append,List.nil_append];refine zz 1 ?_;refine O.nil<|S.retL fun a w hf hd hw=>?_;exact leavesCell results370 flat24 hf rfl zH zD (triedS_ret hw fun w hw=>Holds.end_ hR hw ⟨_,.inr (.inl ⟨rfl,rfl,v',ζ,hK,rfl⟩),zN⟩)
theorem count_c {r:Fr} {b T:Nat} {v:Value} {cs:List Value} {rest:List UInt8} (most:Int) (ha:Arr Rp.u8 r v rest) :
  Con prog 373 #[.pointer (some ⟨b,0,none⟩),.int .i64 most] r [obj b T (v::cs)]
   (RetP (fun u η=>8≤rest.length∧(0≤ofBe rest∧ofBe rest≤most)∧∃ v',u=.int .i64 (ofBe rest)∧Arr Rp.u8 r v' (rest.drop 8)∧η=[obj b T (v' ::cs)])
    (fun ch η=>ch=missing∧∃ v',(rest.length<8∧v' =v∨8≤rest.length∧¬(0≤ofBe rest∧ofBe rest≤most)∧Arr Rp.u8 r v' (rest.drop 8))∧η=[obj b T (v' ::cs)])):=by
 refine Con.o func373 fun g hg R hR=>?_;refine zz 7 ?_;refine O.callPS (.p rfl) rfl zD rfl rfl zC ((number_c ha).sub hg) (fun ch η' w hX hW=>by (obtain ⟨hb,rfl,rfl⟩:=hX;exact hR _ _ w ⟨rfl,v,.inl ⟨hb,rfl⟩,rfl⟩ hW)) ?_;rintro v7 _ ⟨hl7,v7,rfl,ha7,rfl⟩;refine zz 7 ?_
 refine O.cs 10 rfl (fun h10=>?_) fun h10=>?_
 ·refine zz 4 ?_
  refine O.callP0 (.p rfl) rfl zD rfl rfl (must_c _) (fun ch η' w hX hW=>by (obtain ⟨hb,rfl,rfl⟩:=hX;exact hR _ _ w ⟨rfl,v7,.inr ⟨hl7,by simp at hb;omega,ha7⟩,rfl⟩ hW)) ?_;rintro _ _ ⟨hb15,rfl,rfl⟩;refine zz 6 ?_;refine S.ret results373 rfl fun w hw=>hR _ _ w ?_ hw;exact ⟨hl7,by simp at hb15;omega,v7,rfl,ha7,rfl⟩
 ·refine O.q 4 rfl<|O.callP0 (.p rfl) rfl zD rfl rfl (must_c _) (fun ch η' w hX hW=>by (obtain ⟨hb,rfl,rfl⟩:=hX;exact hR _ _ w ⟨rfl,v7,.inr ⟨hl7,by omega,ha7⟩,rfl⟩ hW)) ?_
  rintro _ _ ⟨hb15,rfl,rfl⟩;exact absurd hb15 zH
def KNum (r:Fr) (rest:List UInt8) (u v' :Value) (ζ:List SProp):Prop:=8≤rest.length∧u=.int .i64 (ofBe rest)∧Arr Rp.u8 r v' (rest.drop 8)∧ζ=[]
theorem numberR {r:Fr} {b:Nat} {v:Value} {rest:List UInt8} (ha:Arr Rp.u8 r v rest) :
  Con prog 375 (#[.pointer (some ⟨b,0,none⟩)]++#[]++#[]) r [obj b 441 [v,.bool true,.bool false]]
   (RetP (fun u η=>∃ v' ζ,KNum r rest u v' ζ∧η=obj b 441 [v',.bool true,.bool false]::ζ) (fun ch η=>ch=missing∧∃ v',(rest.length<8∧v' =v)∧η=[obj b 441 [v',.bool true,.bool false]])) :=
 (number_c (T:=441) (cs:=[.bool true,.bool false]) ha).mono fun e η h=>by
  cases e with
  |returned u=>obtain ⟨h1,v',h2,h3,h4⟩:=h;exact ⟨v',[],⟨h1,h2,h3,rfl⟩,h4⟩
  |panicked ch=>obtain ⟨h1,h2,h3⟩:=h;exact ⟨h2,v,⟨h1,rfl⟩,h3⟩
  |outgrown=>exact h.elim
theorem rNumber_c {r:Fr} {b:Nat} {v:Value} {rest:List UInt8} {made bad:Bool} (ha:Arr Rp.u8 r v rest) :
  Con prog 346 #[.pointer (some ⟨b,0,none⟩)] r [obj b 441 [v,.bool made,.bool bad]]
   (Ret fun u η=>∃ v',u=.int .i64 (rNum (made && !bad) rest).1∧Arr Rp.u8 r v' (rNum (made && !bad) rest).2.1∧η=[obj b 441 [v',.bool made,.bool (bad ||(rNum (made && !bad) rest).2.2)]]):=by
 refine Con.o func346 fun g hg R hR=>?_;refine zz 8 ?_;refine O.op (.p rfl) (.eqlP underlying423 rfl rfl)<|zz 10 ?_;refine O.callS (.p rfl) rfl zD rfl rfl zC ((triedI_c zD (K:=KNum r rest) (fun _ _ _ h=>by obtain ⟨_,rfl,_⟩:=h;rfl) fun _ _=>numberR ha).sub hg) ?_;rintro v10 _ h10;refine O.q 1 rfl<|O.nil<|S.ret results346 rfl fun w hw=>hR _ _ w ?_ hw
 rcases h10 with ⟨h1,rfl,rfl⟩|⟨rfl,rfl,v',ζ,⟨h1,rfl,h2,rfl⟩,rfl⟩|⟨rfl,rfl,v',⟨h1,rfl⟩,rfl,rfl⟩
 ·exact ⟨v,by simp [rNum,h1],by simpa [rNum,h1] using ha,by simp [rNum,h1]⟩
 ·exact ⟨v',by simp [rNum,h1],by simpa [rNum,h1] using h2,by simp [rNum,h1]⟩
 ·have h1:¬ 8≤rest.length:=by omega
  exact ⟨_,by simp [rNum,h1],by simpa [rNum,h1] using ha,by simp [rNum,h1]⟩
def KByte (r:Fr) (rest:List UInt8) (u v' :Value) (ζ:List SProp):Prop:=∃ x xs,rest=x::xs∧u=byteV x∧Arr Rp.u8 r v' xs∧ζ=[]
theorem oneR {r:Fr} {b:Nat} {v:Value} {rest:List UInt8} (ha:Arr Rp.u8 r v rest) :
  Con prog 369 (#[.pointer (some ⟨b,0,none⟩)]++#[]++#[]) r [obj b 441 [v,.bool true,.bool false]]
   (RetP (fun u η=>∃ v' ζ,KByte r rest u v' ζ∧η=obj b 441 [v',.bool true,.bool false]::ζ) (fun ch η=>ch=missing∧∃ v',(rest=[]∧v' =v)∧η=[obj b 441 [v',.bool true,.bool false]])) :=
 (one_c (T:=441) (cs:=[.bool true,.bool false]) ha).mono fun e η h=>by
  cases e with
  |returned u=>obtain ⟨x,xs,v',h1,h2,h3,h4⟩:=h;exact ⟨v',[],⟨x,xs,h1,h2,h3,rfl⟩,h4⟩
  |panicked ch=>obtain ⟨h1,h2,h3⟩:=h;exact ⟨h2,v,⟨h1,rfl⟩,h3⟩
  |outgrown=>exact h.elim
theorem rByte_c {r:Fr} {b:Nat} {v:Value} {rest:List UInt8} {made bad:Bool} (ha:Arr Rp.u8 r v rest) :
  Con prog 344 #[.pointer (some ⟨b,0,none⟩)] r [obj b 441 [v,.bool made,.bool bad]]
   (Ret fun u η=>∃ v',u=byteV (rByte (made && !bad) rest).1∧Arr Rp.u8 r v' (rByte (made && !bad) rest).2.1∧η=[obj b 441 [v',.bool made,.bool (bad ||(rByte (made && !bad) rest).2.2)]]):=by
 refine Con.o func344 fun g hg R hR=>?_;refine zz 8 ?_;refine O.op (.p rfl) (.eqlP underlying423 rfl rfl)<|zz 10 ?_;refine O.callS (.p rfl) rfl zD rfl rfl zC ((triedB_c zD (K:=KByte r rest) (fun _ _ _ h=>by obtain ⟨_,_,_,rfl,_⟩:=h;rfl) fun _ _=>oneR ha).sub hg) ?_;rintro v10 _ h10;refine O.q 1 rfl<|O.nil<|S.ret results344 rfl fun w hw=>hR _ _ w ?_ hw
 rcases h10 with ⟨h1,rfl,rfl⟩|⟨rfl,rfl,v',ζ,⟨x,xs,rfl,rfl,h2,rfl⟩,rfl⟩|⟨rfl,rfl,v',⟨rfl,rfl⟩,rfl,rfl⟩
 ·exact ⟨v,by simp [rByte,h1,byteV],by simpa [rByte,h1] using ha,by simp [rByte,h1]⟩
 ·exact ⟨v',by simp [rByte],by simpa [rByte] using h2,by simp [rByte]⟩
 ·exact ⟨_,by simp [rByte,byteV],by simpa [rByte] using ha,by simp [rByte]⟩
def KCount (r:Fr) (most:Int) (rest:List UInt8) (u v' :Value) (ζ:List SProp):Prop:=8≤rest.length∧(0≤ofBe rest∧ofBe rest≤most)∧u=.int .i64 (ofBe rest)∧Arr Rp.u8 r v' (rest.drop 8)∧ζ=[]
def XCount (r:Fr) (most:Int) (v:Value) (rest:List UInt8) (v' :Value):Prop:=rest.length<8∧v' =v∨8≤rest.length∧¬(0≤ofBe rest∧ofBe rest≤most)∧Arr Rp.u8 r v' (rest.drop 8)
theorem count1_c {r0 r:Fr} {b bt bm:Nat} {v:Value} {rest:List UInt8} {most:Int} (hs:r0.sub r) (ha:Arr Rp.u8 r0 v rest) (ht:At r ⟨bt,0,none⟩ [.pointer (some ⟨b,0,none⟩)]) (hm:At r ⟨bm,0,none⟩ [.int .i64 most]) :
  Con prog 376 (#[]++#[]++#[.pointer (some ⟨bt,0,none⟩),.pointer (some ⟨bm,0,none⟩)]) r [obj b 441 [v,.bool true,.bool false]]
   (RetP (fun u η=>∃ v' ζ,KCount r0 most rest u v' ζ∧η=obj b 441 [v',.bool true,.bool false]::ζ) (fun ch η=>ch=missing∧∃ v',XCount r0 most v rest v' ∧η=[obj b 441 [v',.bool true,.bool false]])):=by
 refine Con.of (n:=8) [.pointer (some ⟨bt,0,none⟩),.pointer (some ⟨bm,0,none⟩)] rfl func376 rfl rfl rfl fun g hg R hR=>?_;have ht:=ht.mono hg;have hm:=hm.mono hg;refine zz 5 ?_;refine S.regionD (L:=.range 6) F.mixed zD ?_;refine zz 4 ?_;refine OD.callPS (.p rfl) zD rfl zD rfl rfl zC ((count_c most ha).sub (zfs hs hg)) (fun ch η' w hX hW=>by (obtain ⟨rfl,v',hx,rfl⟩:=hX;exact hR _ _ w ⟨rfl,v',hx,rfl⟩ hW)) ?_;rintro v7 _ ⟨hl7,hm7,v7,rfl,ha7,rfl⟩;refine OD.q 1 rfl<|ODx.nil<|S.ret results376 rfl fun w hw=>hR _ _ w ?_ hw;exact ⟨v7,[],⟨hl7,hm7,rfl,ha7,rfl⟩,rfl⟩
theorem rCount_c {r:Fr} {b:Nat} {v:Value} {rest:List UInt8} {made bad:Bool} (most:Int) (ha:Arr Rp.u8 r v rest) :
  Con prog 347 #[.pointer (some ⟨b,0,none⟩),.int .i64 most] r [obj b 441 [v,.bool made,.bool bad]]
   (Ret fun u η=>∃ v',u=.int .i64 (rCount most (made && !bad) rest).1∧Arr Rp.u8 r v' (rCount most (made && !bad) rest).2.1∧η=[obj b 441 [v',.bool made,.bool (bad ||(rCount most (made && !bad) rest).2.2)]]):=by
 refine Con.o func347 fun g hg R hR=>?_;refine S.seq<|S.region rfl<|O.opE (.p rfl) (.box (cs:=[_]) rfl rfl) ?_;rintro _ _ ⟨b2,rfl,rfl⟩;refine O.opE (.p rfl) (.box (cs:=[_]) rfl rfl) ?_;rintro _ _ ⟨b3,rfl,rfl⟩;refine zz 6 ?_;refine O.freeze fun m1 hm1 hd1=>?_;refine O.freeze fun m2 hm2 hd2=>?_;have hg2:r.sub ((g.add m1).add m2).h:=zfs hg (zfs (Fr.sub_add_left _ _) (Fr.sub_add_left _ _));refine O.callS (.p rfl) rfl zD rfl rfl zC (triedI_c zD (K:=KCount r most rest) (X:=XCount r most v rest) (fun _ _ _ h=>by obtain ⟨_,_,rfl,_⟩:=h;rfl) fun _ _=>count1_c hg2 ha (obj_atR hm2 hd2) (obj_atR hm1 hd1).left) ?_;rintro v7 _ h7;refine O.q 1 rfl<|O.nil<|S.thaw (A:=fun _=>True) trivial hd2 (S.drop (S.thaw (A:=fun _=>True) trivial hd1 (S.drop ?_)));refine S.ret results347 rfl fun w hw=>hR _ _ w ?_ hw
 rcases h7 with ⟨h1,rfl,rfl⟩|⟨rfl,rfl,v',ζ,⟨h1,h3,rfl,h2,rfl⟩,rfl⟩|⟨rfl,rfl,v',h1,rfl,rfl⟩
 ·exact ⟨v,by simp [rCount,h1],by simpa [rCount,h1] using ha,by simp [rCount,h1]⟩
 ·exact ⟨v',by simp [rCount,h1,h3],by simpa [rCount,h1,h3] using h2,by simp [rCount,h1,h3]⟩
 ·rcases h1 with ⟨h1,rfl⟩|⟨h1,h3,h4⟩
  ·have h1:¬ 8≤rest.length:=by omega
   exact ⟨_,by simp [rCount,h1],by simpa [rCount,h1] using ha,by simp [rCount,h1]⟩
  ·exact ⟨v',by simp [rCount,h1,h3],by simpa [rCount,h1,h3] using h4,by simp [rCount,h1,h3]⟩
def KBytes (r:Fr) (e:TypeId) (most:Int) (rest:List UInt8) (u v' :Value) (ζ:List SProp):Prop :=
 8≤rest.length∧(0≤ofBe rest∧ofBe rest≤most)∧(ofBe rest).toNat≤(rest.drop 8).length∧Arr Rp.u8 r v' ((rest.drop 8).drop (ofBe rest).toNat) ∧
 ∃ a c,u=.slice a ((rest.drop 8).take (ofBe rest).toNat).length c∧ζ=[OwnP Rp.u8 e u ((rest.drop 8).take (ofBe rest).toNat)]
def XBytes (r:Fr) (most:Int) (v:Value) (rest:List UInt8) (v' :Value):Prop:=XCount r most v rest v' ∨8≤rest.length∧(0≤ofBe rest∧ofBe rest≤most)∧¬(ofBe rest).toNat≤(rest.drop 8).length∧Arr Rp.u8 r v' (rest.drop 8)
theorem bytes1_c {r0 r:Fr} {b bt bm:Nat} {v:Value} {rest:List UInt8} {most:Int} (hs:r0.sub r) (ha:Arr Rp.u8 r0 v rest) (hl:rest.length≤140737488355328) (ht:At r ⟨bt,0,none⟩ [.pointer (some ⟨b,0,none⟩)]) (hm:At r ⟨bm,0,none⟩ [.int .i64 most]) :
  Con prog 371 (#[]++#[]++#[.pointer (some ⟨bt,0,none⟩),.pointer (some ⟨bm,0,none⟩)]) r [obj b 441 [v,.bool true,.bool false]]
   (RetP (fun u η=>∃ v' ζ,KBytes r0 5 most rest u v' ζ∧η=obj b 441 [v',.bool true,.bool false]::ζ) (fun ch η=>ch=missing∧∃ v',XBytes r0 most v rest v' ∧η=[obj b 441 [v',.bool true,.bool false]])):=by
 refine Con.of (n:=13) [.pointer (some ⟨bt,0,none⟩),.pointer (some ⟨bm,0,none⟩)] rfl func371 rfl rfl rfl fun g hg R hR=>?_;have ht:=ht.mono hg;have hm:=hm.mono hg;refine zz 5 ?_;refine S.regionD (L:=.range 11) F.mixed zD ?_;refine zz 7 ?_;refine OD.callPS (.p rfl) zD rfl zD rfl rfl zC ((count_c most ha).sub (zfs hs hg)) (fun ch η' w hX hW=>by (obtain ⟨rfl,v',hx,rfl⟩:=hX;exact hR _ _ w ⟨rfl,v',.inl hx,rfl⟩ hW)) ?_;rintro v10 _ ⟨hl10,hm10,v10,rfl,ha10,rfl⟩;refine OD.callPS (.p rfl) zD rfl zD rfl rfl zC ((take_c _ ha10).sub (zfs hs hg)) (fun ch η' w hX hW=>by (obtain ⟨hb,rfl,rfl⟩:=hX;exact hR _ _ w ⟨rfl,v10,.inr ⟨hl10,hm10,by omega,ha10⟩,rfl⟩ hW)) ?_;rintro v11 _ ⟨hb11,a11,c11,v11,rfl,ha11,ha11',rfl⟩;refine OD.call0 (.p rfl) zD rfl zD rfl rfl ((cloneB_c (ha11.mono (zfs hs hg)) zL)) ?_;rintro _ _ ⟨a12,c12,rfl,rfl⟩;refine zz 2 ?_;exact S.rt results371 rfl hR ⟨v11,_,⟨hl10,hm10,by omega,ha11',a12,c12,rfl,rfl⟩,rfl⟩
theorem rBytes_c {r:Fr} {b:Nat} {v:Value} {rest:List UInt8} {made bad:Bool} (most:Int) (ha:Arr Rp.u8 r v rest) (hl:rest.length≤140737488355328) :
  Con prog 345 #[.pointer (some ⟨b,0,none⟩),.int .i64 most] r [obj b 441 [v,.bool made,.bool bad]]
   (Ret fun u η=>∃ a c v',u=.slice a (rBytes most (made && !bad) rest).1.length c∧Arr Rp.u8 r v' (rBytes most (made && !bad) rest).2.1 ∧
    η=[obj b 441 [v',.bool made,.bool (bad ||(rBytes most (made && !bad) rest).2.2)],OwnP Rp.u8 5 u (rBytes most (made && !bad) rest).1]):=by
 refine Con.o func345 fun g hg R hR=>?_;refine S.seq<|S.region rfl<|O.opE (.p rfl) (.box (cs:=[_]) rfl rfl) ?_;rintro _ _ ⟨b2,rfl,rfl⟩;refine O.opE (.p rfl) (.box (cs:=[_]) rfl rfl) ?_;rintro _ _ ⟨b3,rfl,rfl⟩;refine zz 6 ?_;refine O.freeze fun m1 hm1 hd1=>?_;refine O.freeze fun m2 hm2 hd2=>?_;have hg2:r.sub ((g.add m1).add m2).h:=zfs hg (zfs (Fr.sub_add_left _ _) (Fr.sub_add_left _ _));refine O.callS (.p rfl) rfl zD rfl rfl zC (triedS_c zD (K:=KBytes r 5 most rest) (X:=XBytes r most v rest) (fun _ _ _ h=>by obtain ⟨_,_,_,_,_,_,rfl,_⟩:=h;rfl) fun _ _=>bytes1_c hg2 ha hl (obj_atR hm2 hd2) (obj_atR hm1 hd1).left) ?_;rintro v7 _ h7;refine O.q 1 rfl<|O.nil<|S.thaw (A:=fun _=>True) trivial hd2 (S.drop (S.thaw (A:=fun _=>True) trivial hd1 (S.drop ?_)));refine S.addNil (T:=Rp.u8) (e:=5) ?_;refine S.ret results345 rfl fun w hw=>Holds.end_ hR hw ?_
 rcases h7 with ⟨h1,rfl,rfl⟩|⟨rfl,rfl,v',ζ,⟨h1,h3,h4,h5,a,c,rfl,rfl⟩,rfl⟩|⟨rfl,rfl,v',h1,rfl,rfl⟩
 ·have e:rBytes most (made && !bad) rest=([],rest,false):=by simp [rBytes,h1]
  rw [e];simp only [Bool.or_false];exact pk ⟨none,0,v,rfl,ha,rfl⟩
 ·have e:rBytes most (true && !false) rest=((rest.drop 8).take (ofBe rest).toNat,(rest.drop 8).drop (ofBe rest).toNat,false):=by
   simp only [rBytes,h1,h3,h4];rfl
  rw [e];simp only [Bool.or_false];exact pk ⟨a,c,v',rfl,h5,rfl⟩
 ·obtain ⟨rest',e,hr'⟩:∃ rest',rBytes most (true && !false) rest=([],rest',true)∧Arr Rp.u8 r v' rest' :=by
   rcases h1 with (⟨h1,rfl⟩|⟨h1,h3,h4⟩)|⟨h1,h3,h4,h5⟩
   ·have h1:¬ 8≤rest.length:=by omega
    exact ⟨_,by simp only [rBytes,h1];rfl,ha⟩
   ·exact ⟨_,by simp only [rBytes,h1,h3];rfl,h4⟩
   ·exact ⟨_,by simp only [rBytes,h1,h3,h4];rfl,h5⟩
  rw [e];simp only [Bool.false_or];exact pk ⟨none,0,v',rfl,hr',rfl⟩
theorem rdNew_c {r:Fr} {va:Value} {xs:List UInt8} (ha:Arr Rp.u8 r va xs) (hl:xs.length≤140737488355328):Con prog 343 #[va] r [] (Ret fun v η=>∃ b,v=.pointer (some ⟨b,0,none⟩)∧η=[RdP 441 b ⟨true,xs⟩]) :=
 (wNewReader_c ha hl).post fun e η' h w g hw=>by
  cases e with
  |returned u =>
   obtain ⟨b,a,c,rfl,rfl⟩:=h;exact ⟨_,⟨b,rfl,rfl⟩,hw.imp fun _ x=>rd_sat x⟩
  |panicked _=>exact h.elim
  |outgrown=>exact h.elim
theorem rdNumber_c {r:Fr} {b:Nat} {s:RS}:Con prog 346 #[.pointer (some ⟨b,0,none⟩)] r [RdP 441 b s] (Ret fun u η=>u=.int .i64 s.num.1∧η=[RdP 441 b s.num.2]) :=
 (Con.rd (Q:=fun u s' ζ=>u=.int .i64 s.num.1∧s' =s.num.2∧ζ=[]) fun m v made bad h1 h2=>(rNumber_c h2).mono (Ret.imp fun u η h=>by
  obtain ⟨v',rfl,h3,rfl⟩:=h;simp only [h1] at h3 ⊢;exact ⟨v',_,s.num.2,_,⟨rfl,rfl,rfl⟩,good_or h1,h3,rfl⟩)).mono (Ret.imp fun u η h=>by obtain ⟨s',ζ,⟨rfl,rfl,rfl⟩,rfl⟩:=h;exact ⟨rfl,rfl⟩)
theorem rdByte_c {r:Fr} {b:Nat} {s:RS}:Con prog 344 #[.pointer (some ⟨b,0,none⟩)] r [RdP 441 b s] (Ret fun u η=>u=byteV s.byte.1∧η=[RdP 441 b s.byte.2]) :=
 (Con.rd (Q:=fun u s' ζ=>u=byteV s.byte.1∧s' =s.byte.2∧ζ=[]) fun m v made bad h1 h2=>(rByte_c h2).mono (Ret.imp fun u η h=>by
  obtain ⟨v',rfl,h3,rfl⟩:=h;simp only [h1] at h3 ⊢;exact ⟨v',_,s.byte.2,_,⟨rfl,rfl,rfl⟩,good_or h1,h3,rfl⟩)).mono (Ret.imp fun u η h=>by obtain ⟨s',ζ,⟨rfl,rfl,rfl⟩,rfl⟩:=h;exact ⟨rfl,rfl⟩)
theorem rdCount_c {r:Fr} {b:Nat} {s:RS} (most:Int):Con prog 347 #[.pointer (some ⟨b,0,none⟩),.int .i64 most] r [RdP 441 b s] (Ret fun u η=>u=.int .i64 (s.count most).1∧η=[RdP 441 b (s.count most).2]) :=
 (Con.rd (Q:=fun u s' ζ=>u=.int .i64 (s.count most).1∧s' =(s.count most).2∧ζ=[]) fun m v made bad h1 h2=>(rCount_c most h2).mono (Ret.imp fun u η h=>by
  obtain ⟨v',rfl,h3,rfl⟩:=h;simp only [h1] at h3 ⊢;exact ⟨v',_,(s.count most).2,_,⟨rfl,rfl,rfl⟩,good_or h1,h3,rfl⟩)).mono (Ret.imp fun u η h=>by obtain ⟨s',ζ,⟨rfl,rfl,rfl⟩,rfl⟩:=h;exact ⟨rfl,rfl⟩)
theorem rdBytes_c {r:Fr} {b:Nat} {s:RS} (most:Int) (hl:s.rest.length≤140737488355328):Con prog 345 #[.pointer (some ⟨b,0,none⟩),.int .i64 most] r [RdP 441 b s] (Ret fun u η=>∃ a c,u=.slice a (s.bytes most).1.length c∧η=[RdP 441 b (s.bytes most).2,OwnP Rp.u8 5 (.slice a (s.bytes most).1.length c) (s.bytes most).1]) :=
 (Con.rd (Q:=fun u s' ζ=>∃ a c,u=.slice a (s.bytes most).1.length c∧s' =(s.bytes most).2∧ζ=[OwnP Rp.u8 5 (.slice a (s.bytes most).1.length c) (s.bytes most).1]) fun m v made bad h1 h2=>(rBytes_c most h2 hl).mono (Ret.imp fun u η h=>by
  obtain ⟨a,c,v',rfl,h3,rfl⟩:=h;simp only [h1] at h3 ⊢;exact ⟨v',_,(s.bytes most).2,_,⟨a,c,rfl,rfl,rfl⟩,good_or h1,h3,rfl⟩)).mono (Ret.imp fun u η h=>by obtain ⟨s',ζ,⟨a,c,rfl,rfl,rfl⟩,rfl⟩:=h;exact ⟨a,c,rfl,rfl⟩)
theorem rdDone_c {r:Fr} {b:Nat} {s:RS}:Con prog 348 #[.pointer (some ⟨b,0,none⟩)] r [RdP 441 b s] (Ret fun u η=>u=.bool s.done∧η=[RdP 441 b s]) :=
 (Con.rd (Q:=fun u s' ζ=>u=.bool s.done∧s' =s∧ζ=[]) fun m v made bad h1 h2=>(rDone_c h2).mono (Ret.imp fun u η h=>by
  obtain ⟨rfl,rfl⟩:=h;rw [h1];exact ⟨v,bad,s,[],⟨congrArg _ (by rw [Bool.eq_iff_iff,decide_eq_true_iff,RS.done_iff]),rfl,rfl⟩,h1,h2,rfl⟩)).mono (Ret.imp fun u η h=>by obtain ⟨s',ζ,⟨rfl,rfl,rfl⟩,rfl⟩:=h;exact ⟨rfl,rfl⟩)
theorem bequal_c {r:Fr} {va vb:Value} {xs ys:List UInt8} (ha:Arr Rp.u8 r va xs) (hb:Arr Rp.u8 r vb ys) :
  Con prog 122 #[va,vb] r [] (Ret fun v η=>v=.bool (decide (xs=ys))∧η=[]):=by
 refine Con.o func122 fun g hg R hR=>?_;have ha:=ha.mono hg;have hb:=hb.mono hg;refine zz 7 ?_;refine O.op (.p rfl) (.toStr underlying24 underlying5 underlying9 rfl zA) ?_;refine O.q 1 rfl<|O.op (.p rfl) (.toStr underlying24 underlying5 underlying9 rfl zA) ?_;refine O.op (.p rfl) (.eqlS rfl rfl)<|O.q 1 rfl<|O.nil<|S.ret results122 rfl fun w hw=>hR _ _ w ?_ hw;exact ⟨by simp,rfl⟩
theorem triedSS_ret {g:Gr} {be bx:Nat} {x:Value} {z:Int} {T1 T2:TypeId} {w:World} {R:Ending→World→Prop} {η:List SProp} (hw:Holds w g (obj bx T1 [x]::obj be T2 [.int .i64 z]::η)) (hR:∀ w,Holds w g (obj bx T1 [x]::obj be T2 [.int .i64 z]::η)→R (.returned (.tuple #[x,.int .i64 z])) w) :
  CallsD prog 305 #[.pointer (some ⟨be,0,none⟩),.pointer (some ⟨bx,0,none⟩)] .returning w (DPost2 prog g bx be 22 44 R):=by
 refine (callsD_rec (R:=fun e w=>(∃ v,e=.returned v)∧Holds w g (obj bx T1 [x]::obj be T2 [.int .i64 z]::η)) [.pointer (some ⟨be,0,none⟩),.pointer (some ⟨bx,0,none⟩)] rfl func305 rfl rfl rfl rfl hw ?_).mono ?_
 rotate_left
 ·rintro e u' w' ⟨rfl,⟨v,rfl⟩,h⟩
  exact ⟨⟨v,rfl⟩,rfl,T1,T2,_,_,_,_,η,h,LoadsAs.flat flat22,LoadsAs.flat flat44,hR w' h⟩
 refine S.seq<|S.region rfl<|O.q 1 rfl<|O.op (.p rfl) (.neqIN underlying20 rfl)<|O.nil<|S.condF rfl<|S.skip<|S.end0 results305 fun w hw=>?_;exact ⟨⟨_,rfl⟩,hw⟩
theorem triedSS_pan {g:Gr} {be bx:Nat} {x:Value} {z z' :Int} {T1 T2:TypeId} {w:World} {R:Ending→World→Prop} {η:List SProp} (hw:Holds w g (obj bx T1 [x]::obj be T2 [.int .i64 z']::η))
  (hR:∀ w,Holds w g (obj bx T1 [.slice none 0 0]::obj be T2 [.int .i64 z]::η)→R (.returned (.tuple #[.slice none 0 0,.int .i64 z])) w) :
  CallsD prog 305 #[.pointer (some ⟨be,0,none⟩),.pointer (some ⟨bx,0,none⟩)] (.panicking (errP 44 z)) w (DPost2 prog g bx be 22 44 R):=by
 refine (callsD_rec (R:=fun e w=>(∃ v,e=.returned v)∧Holds w g (obj bx T1 [.slice none 0 0]::obj be T2 [.int .i64 z]::η)) [.pointer (some ⟨be,0,none⟩),.pointer (some ⟨bx,0,none⟩)] rfl func305 rfl rfl rfl rfl hw ?_).mono ?_
 rotate_left
 ·rintro e u' w' ⟨rfl,⟨v,rfl⟩,h⟩
  exact ⟨⟨v,rfl⟩,rfl,T1,T2,_,_,_,_,η,h,LoadsAs.flat flat22,LoadsAs.flat flat44,hR w' h⟩
 refine zz 3 ?_;refine O.op (.p rfl) (.neqIV underlying20 rfl)<|zz 10 ?_;refine O.op (.p rfl) (.assertYes underlying44 rfl)<|zz 20 ?_;refine O.nil<|S.end0 results305 fun w hw=>?_;exact ⟨⟨_,rfl⟩,hw.picks zN⟩
theorem triedSS_c {r:Fr} {f:Nat} {first cap:Array Value} {K:Value→List SProp→Prop} {X:Int→Prop} (hc:callable prog f=true) (hf1:(Value.func (.func f) first cap).oneCell' =true) (hK1:∀ u ζ,K u ζ→u.oneCell' =true)
  (con:Con prog f (first++#[]++cap) r [] (RetP K (fun ch η=>∃ z,ch=errP 44 z∧X z∧η=[]))) :
  Con prog 239 #[.func (.func f) first cap] r [] (Ret fun v η=>(∃ u,K u η∧v=.tuple #[u,.int .i64 0])∨(∃ z,X z∧η=[]∧v=.tuple #[.slice none 0 0,.int .i64 z])):=by
 refine Con.of (n:=7) [.func (.func f) first cap] rfl func239 rfl rfl rfl fun g hg R hR=>?_;refine S.seq<|S.region rfl<|O.opE (.p rfl) (.alloc (cs:=[.slice none 0 0]) zeroValue22 rfl) ?_;rintro _ _ ⟨b2,rfl,rfl⟩;refine O.opE (.p rfl) (.alloc (cs:=[.int .i64 0]) zeroValue44 rfl) ?_;rintro _ _ ⟨b3,rfl,rfl⟩;refine zz 4 ?_;refine O.defer rfl rfl rfl rfl<|zz 4 ?_;refine O.callP0D (.p rfl) rfl hc rfl rfl (con.sub hg) (fun a ch η' w hF hX hW=>by (obtain ⟨z,rfl,hx,rfl⟩:=hX;exact leavesCell2 results239 hF rfl rfl zH zD (triedSS_pan (hW.picks zN) fun w hw=>Holds.end_ hR hw ⟨_,.inr ⟨z,hx,rfl,rfl⟩,zN⟩))) ?_;rintro v6 _ hk6;have hone:=hK1 _ _ hk6;refine O.perm (List.perm_append_comm) ?_;simp only [List.cons_append,List.nil_append];refine zz 2 ?_;refine O.nil<|S.retL fun a w hf hd hw=>?_;exact leavesCell2 results239 hf rfl rfl zH zD (triedSS_ret (hw.picks zN) fun w hw=>Holds.end_ hR hw ⟨_,.inl ⟨_,hk6,rfl⟩,zN⟩)
abbrev recV (x:RecT) (v3 v5 v6:Value):List Value:=[.string (str x.1),.int .i64 x.2.1,.int .i64 x.2.2.1,v3,.bool x.2.2.2.2.1,v5,v6]
abbrev recWs (x:RecT) (v3 v5 v6:Value):List SProp:=[OwnP DotRp 191 v3 x.2.2.2.1,OwnP Rp.u8 5 v5 x.2.2.2.2.2.1,OwnP Rp.u8 5 v6 x.2.2.2.2.2.2.1]
abbrev rec0:List Value:=[.string (str []),.int .i64 0,.int .i64 0,.slice none 0 0,.bool false,.slice none 0 0,.slice none 0 0]
theorem rGet_c {r:Fr} {va:Value} {b:List UInt8} (ha:Arr Rp.u8 r va b) (hl:b.length≤1000000000) :
  Con prog 311 #[va] r [] (Ret fun v η=>(∃ x a3 c3 a5 c5 a6 c6,recGet b=some x∧v=.tuple #[.agg (recV x (.slice a3 x.2.2.2.1.length c3) (.slice a5 x.2.2.2.2.2.1.length c5) (.slice a6 x.2.2.2.2.2.2.1.length c6)).toArray,.int .i64 0]∧η=recWs x (.slice a3 x.2.2.2.1.length c3) (.slice a5 x.2.2.2.2.2.1.length c5) (.slice a6 x.2.2.2.2.2.2.1.length c6))∨(recGet b=none∧v=.tuple #[.agg rec0.toArray,.int .i64 4]∧η=[])):=by
 refine Con.o func311 fun g hg R hR=>?_;have ha:=ha.mono hg;have hbd:=ha.bound;obtain ⟨a1,c1,rfl⟩:=ha.shape;refine S.seq<|S.region rfl<|O.opE (.p rfl) (.alloc (cs:=[.string ⟨#[]⟩,.int .i64 0,.int .i64 0,.slice none 0 0,.bool false,.slice none 0 0,.slice none 0 0]) zeroValue102 rfl) ?_;rintro _ _ ⟨b2,rfl,rfl⟩;refine zz 6 ?_;refine O.op (.p rfl) (.sub rfl rfl (IntWalk.i64_in _ zB))<|zz 8 ?_;refine S.cd rfl (fun h13=>?_) fun h13=>?_
 ·refine zz 2 ?_
  refine O.op (.p rfl) (.build (cs:=[_,_,_,_,_,_,_]) underlying102 rfl rfl rfl rfl rfl)<|zz 1 ?_;refine O.q 1 rfl<|O.nil<|S.retCellT results311 rfl rfl zC (LoadsAs.agg isAgg102 zD) fun w hw=>Holds.end_ hR hw ?_;exact pk (.inr ⟨recGet_short zB,rfl,rfl⟩)
 ·have h64:64≤b.length:=by omega
  have htl:(b.take (b.length - 64)).length≤1000000000:=by rw [zlt];omega
  refine zz 5 ?_;refine O.sliceTo (b:=b.length - 64) (.p rfl) underlying24 size5 rfl rfl zG zF zF (fun u17 ha17=>?_);obtain ⟨a17,c17,rfl⟩:=ha17.shape;refine O.call0 (.p rfl) rfl zD rfl rfl (rdNew_c zA zF) ?_;rintro _ _ ⟨b18,rfl,rfl⟩;refine zz 5 ?_;refine O.vS (.p rfl) rfl zD rfl rfl zC rdByte_c<|zz 2 ?_;generalize hk:(RS.mk true (b.take (b.length - 64))).byte=k;have lk:k.2.rest.length≤1000000000:=by rw [← hk];exact Nat.le_trans (RS.byte_len _) htl
  have ly:=RS.bytes_out 64 k.2;refine S.regionJ (L:=[0,3,5,1,2,4,6,7,8,9]) (fun (p:Nat)=>[(6,.pointer (some ⟨p,0,none⟩))]) [(0,_),(2,_),(4,_),(5,_)] (fun (p:Nat)=>[RdP 441 b18 (k.2.bytes 64).2.num.2.num.2,obj p 102 [.string (str (k.2.bytes 64).1),.int .i64 (k.2.bytes 64).2.num.1,.int .i64 (k.2.bytes 64).2.num.2.num.1,.slice none 0 0,.bool false,.slice none 0 0,.slice none 0 0],obj b2 102 rec0]) zq F.mixed zD (fun kk key=>?_) (fun p=>?_)
  ·refine OD.q 3 rfl<|OD.callS (.p rfl) zD rfl zD rfl rfl zC (rdBytes_c _ zF) ?_
   rintro _ _ ⟨a22,c22,rfl,rfl⟩;refine OD.alt2 2 4 [4,6,7,8,9] [2,6,7,8,9] zD rfl rfl ?_ ?_
   ·refine ODt.toStrO (.p rfl) zD underlying24 underlying5 underlying9 rfl zC ?_
    refine OD.callS (.p rfl) zD rfl zD rfl rfl zC rdNumber_c ?_;rintro _ _ ⟨rfl,rfl⟩;refine OD.callS (.p rfl) zD rfl zD rfl rfl zC rdNumber_c ?_;rintro _ _ ⟨rfl,rfl⟩;refine .quiet (.p rfl) rfl (fun _=>.build (cs:=[_,_,_,_,_,_,_]) underlying102 rfl rfl rfl rfl rfl)<|.lazy rfl zD rfl fun b6=>?_;refine OD.storeObj rfl zD zD rfl rfl rfl rfl zC zO ?_;refine ODx.nil<|S.pk ?_ (S.weaken (Sub.app zq zq) (key b6))
    try dsimp only
    repeat (first|exact zpa|exact zpn|(apply zpc;focus (repeat (first|exact zh|apply zt)))|apply zps)
   ·refine ODt.callS (.p rfl) zD rfl zD rfl rfl zC rdNumber_c ?_
    rintro _ _ ⟨rfl,rfl⟩;refine OD.alt2 2 6 [6,7,8,9] [2,7,8,9] zD rfl rfl ?_ ?_
    ·refine ODt.toStrO (.p rfl) zD underlying24 underlying5 underlying9 rfl zC ?_
     refine OD.callS (.p rfl) zD rfl zD rfl rfl zC rdNumber_c ?_;rintro _ _ ⟨rfl,rfl⟩;refine .quiet (.p rfl) rfl (fun _=>.build (cs:=[_,_,_,_,_,_,_]) underlying102 rfl rfl rfl rfl rfl)<|.lazy rfl zD rfl fun b6=>?_;refine OD.storeObj rfl zD zD rfl rfl rfl rfl zC zO ?_;refine ODx.nil<|S.pk ?_ (S.weaken (Sub.app zq zq) (key b6))
     try dsimp only
     repeat (first|exact zpa|exact zpn|(apply zpc;focus (repeat (first|exact zh|apply zt)))|apply zps)
    ·refine ODt.callS (.p rfl) zD rfl zD rfl rfl zC rdNumber_c ?_
     rintro _ _ ⟨rfl,rfl⟩;refine OD.toStrO (.p rfl) zD underlying24 underlying5 underlying9 rfl zC ?_;refine .quiet (.p rfl) rfl (fun _=>.build (cs:=[_,_,_,_,_,_,_]) underlying102 rfl rfl rfl rfl rfl)<|.lazy rfl zD rfl fun b6=>?_;refine OD.storeObj rfl zD zD rfl rfl rfl rfl zC zO ?_;refine ODx.nil<|S.pk ?_ (S.weaken (Sub.app zq zq) (key b6))
     try dsimp only
     repeat (first|exact zpa|exact zpn|(apply zpc;focus (repeat (first|exact zh|apply zt)))|apply zps)
  generalize hy:k.2.bytes 64=y at ly ⊢;have ly2:y.2.rest.length≤1000000000:=by rw [← hy];exact Nat.le_trans (RS.bytes_len _ _) lk
  generalize hc:y.2.num=c;have lc:c.2.rest.length≤1000000000:=by rw [← hc];exact Nat.le_trans (RS.num_len _) ly2
  have ic:InI64 c.1:=by rw [← hc];exact RS.num_in _
  generalize hq:c.2.num=q;have lq:q.2.rest.length≤1000000000:=by rw [← hq];exact Nat.le_trans (RS.num_len _) lc
  have iq:InI64 q.1:=by rw [← hq];exact RS.num_in _
  refine zz 4 ?_;refine O.vS (.p rfl) rfl zD rfl rfl zC (rdCount_c _)<|zz 3 ?_;generalize hn:q.2.count 8=n;have ln:n.2.rest.length≤1000000000:=by rw [← hn];exact Nat.le_trans (RS.count_len _ _) lq
  obtain ⟨n0,n8⟩:0≤n.1∧n.1≤8:=by rw [← hn];exact RS.count_bd _ _ zE
  refine S.addNil (T:=DotRp) (e:=191) ?_;refine S.loopK2 (ι:=Nat) (κ:=Option Addr × Nat) (fun i a=>i≤n.1.toNat) (fun i a=>[(31,.int .i64 (i:Int))]) [(0,_),(2,_),(4,_),(5,_),(6,_),(30,_)] (fun i a=>[OwnP DotRp 191 (.slice a.1 i a.2) (dotsP i n.2).1,RdP 441 b18 (dotsP i n.2).2,obj p 102 [.string (str y.1),.int .i64 c.1,.int .i64 q.1,.slice a.1 i a.2,.bool false,.slice none 0 0,.slice none 0 0],obj b2 102 rec0]) (fun i a=>n.1.toNat - i) (0) ((none,0)) zH zq zq rfl fun i a hx ih=>?_;have hm1:=meltRefl (g:=g);refine zz 5 ?_;refine S.cd rfl (fun h32=>?_) fun h32=>?_
  ·have hi:i<n.1.toNat:=by omega
   have hg_o:=hg;have hR_o:=hR
   try have ha_o:=ha
   try have ha17_o:=ha17
   refine S.frzH (B:=obj p 102 [.string (str y.1),.int .i64 c.1,.int .i64 q.1,.slice a.1 i a.2,.bool false,.slice none 0 0,.slice none 0 0]) zC fun go hso ⟨mo,hmo,hsmo⟩ hbo=>?_;replace hg:=zfs hg hso;replace hR:=backR hR hbo
   try replace ha:=ha.mono hso
   try replace ha17:=ha17.mono hso
   have hat:=(obj_at hmo).mono hsmo;refine zz 3 ?_;refine S.regionD (L:=[0,1,2,4,3,5,6,7,8,9,10]) F.mixed zD ?_;refine zz 2 ?_;refine OD.q 2 rfl<|OD.callS (.p rfl) zD rfl zD rfl rfl zC rdNumber_c ?_;rintro _ _ ⟨rfl,rfl⟩;refine OD.callS (.p rfl) zD rfl zD rfl rfl zC rdNumber_c ?_;rintro _ _ ⟨rfl,rfl⟩;refine .quiet (.p rfl) rfl (fun _=>.build (cs:=[_,_]) underlying191 rfl rfl rfl rfl rfl)<|OD.litP (T:=DotRp) (ys:=[_]) (.p rfl) zD underlying100 elem191 zE rfl rfl ⟨(DotRp.mk (RS.num_in _) (RS.num_in _)),trivial⟩ zE (fun a40 c40=>?_);refine OD.appendO (.p rfl) zD (T:=DotRp) underlying100 elem191 zE rfl rfl zC zC zF zF (fun a41 c41=>?_);refine zz 1 ?_;refine OD.last1 rfl zD (fun _ hw=>hbo hw) flat100 rfl rfl zQ zC zV ?_;replace hg:=hg_o;replace hR:=hR_o
   try replace ha:=ha_o
   try replace ha17:=ha17_o
   clear hg_o hR_o;refine zz 5 ?_;simp only [dotsP_length,List.length_singleton];exact S.pw (ih (i+1) ((a41,c41)) zB zB)
  ·clear ih
   have hi:i=n.1.toNat:=by omega
   subst hi;generalize hd:dotsP n.1.toNat n.2=d;have ld:d.2.rest.length≤1000000000:=by rw [← hd];exact Nat.le_trans (dotsP_len _ _) ln
   have ldn:d.1.length=n.1.toNat:=by rw [← hd];exact dotsP_length _ _
   have id:∀ z∈d.1,dot64 z:=by rw [← hd];exact dotsP_in _ _
   rw [← ldn];refine zz 4 ?_;refine O.vS (.p rfl) rfl zD rfl rfl zC rdByte_c ?_;refine zz 1 ?_;refine O.slot 46 (v' :=.bool (decide (d.2.byte.1≠0))) rfl (by simp [← UInt8.toNat_inj]) ?_;refine zz 4 ?_;generalize hg2:d.2.byte=g2;have lg2:g2.2.rest.length≤1000000000:=by rw [← hg2];exact Nat.le_trans (RS.byte_len _) ld
   refine S.regionD (L:=[0,2,3,4,1,6,5,7,8,9]) F.mixed zD ?_;refine OD.q 3 rfl<|OD.sliceFrom (a:=b.length - 64) (.p rfl) underlying24 size5 rfl rfl zG zF zF (fun u52 ha52=>?_);obtain ⟨a52,c52,rfl⟩:=ha52.shape;refine OD.callS (.p rfl) zD rfl zD rfl rfl zC (rdBytes_c _ zF) ?_;rintro _ _ ⟨a49,c49,rfl,rfl⟩;refine .quiet (.p rfl) rfl (fun _=>.fieldObj fld102x5 rfl)<|OD.call0 (.p rfl) zD rfl zD rfl rfl (cloneB_c zA zF) ?_;rintro _ _ ⟨a53,c53,rfl,rfl⟩;refine OD.store1 rfl zD flat24 rfl rfl zQ zC zO ?_;refine .quiet (.p rfl) rfl (fun _=>.fieldObj fld102x6 rfl)<|OD.store1 rfl zD flat24 rfl rfl zQ zC zO ?_;refine zz 2 ?_;generalize hv:g2.2.bytes 1024=v;have hX:recIn b=(y.1,c.1,q.1,d.1,decide (g2.1≠0),v.1,b.drop (b.length - 64),()):=by subst hv hg2 hd hn hq hc hy hk;rfl
   have hS:(recHd b).s=v.2:=by subst hv hg2 hd hn hq hc hy hk;rfl
   have hyes:=recGet_yes (b:=b);have hno:=recGet_no (b:=b);rw [hX] at hyes hno;rw [hS] at hno;have hrel:∀ {m:Fr} (v3 v5 v6:Value),Arr DotRp m v3 d.1→Arr Rp.u8 m v5 v.1→Arr Rp.u8 m v6 (b.drop (b.length - 64))→RecRp.rel m [.string (str y.1),.int .i64 c.1,.int .i64 q.1,v3,.bool (decide (g2.1≠0)),v5,v6] (y.1,c.1,q.1,d.1,decide (g2.1≠0),v.1,b.drop (b.length - 64),()):=fun v3 v5 v6 h3 h5 h6=>RecRp.mk zB ic iq h3 h5 h6;clear hX hS;generalize hXX:((y.1,c.1,q.1,d.1,decide (g2.1≠0),v.1,b.drop (b.length - 64),()):RecT)=X at hyes hno hrel;refine zz 2 ?_;refine O.callB (.p rfl) rfl zD rfl rfl (bs:=[OwnP DotRp 191 (.slice a.1 d.1.length a.2) d.1,OwnP Rp.u8 5 (.slice a49 v.1.length c49) v.1,OwnP Rp.u8 5 (.slice a53 (b.drop (b.length - 64)).length c53) (b.drop (b.length - 64))]) zK (fun m hm hd' =>rPut_c (x:=X) (hrel _ _ _ (hm.arr.right hd') (hm.tail.arr.right hd') (hm.tail.tail.arr.right hd'))) ?_;rintro _ _ ⟨a58,c58,rfl,rfl⟩;refine O.q 5 rfl<|O.nil (S.seq (S.seq ?_))
   cases e1:v.2.done with
   |false =>
    refine zz 2 ?_;refine O.vS (.p rfl) rfl zD rfl rfl zC rdDone_c ?_;refine O.sF 62 rfl (by exact e1)<|zz 15 ?_;refine O.op (.p rfl) (.build (cs:=[_,_,_,_,_,_,_]) underlying102 rfl rfl rfl rfl rfl)<|zz 1 ?_;refine O.q 1 rfl<|O.nil<|S.retCellT results311 rfl rfl zC (LoadsAs.agg isAgg102 zD) fun w hw=>Holds.end_ hR hw ?_;exact pk (.inr ⟨hno fun q=>by rw [e1] at q;exact absurd q.1 zE,rfl,rfl⟩)
   |true =>
    cases e2:recOk X with
    |false =>
     refine zz 2 ?_;refine O.vS (.p rfl) rfl zD rfl rfl zC rdDone_c ?_;refine O.sT 62 rfl (by exact e1)<|zz 4 ?_;refine O.sT 66 rfl (by simp [recErr,e2])<|zz 11 ?_;refine O.op (.p rfl) (.build (cs:=[_,_,_,_,_,_,_]) underlying102 rfl rfl rfl rfl rfl)<|zz 1 ?_;refine O.q 1 rfl<|O.nil<|S.retCellT results311 rfl rfl zC (LoadsAs.agg isAgg102 zD) fun w hw=>Holds.end_ hR hw ?_;exact pk (.inr ⟨hno fun q=>by rw [e2] at q;exact absurd q.2.1 zE,rfl,rfl⟩)
    |true =>
     by_cases e3:recB X=b
     ·
      refine zz 2 ?_;refine O.vS (.p rfl) rfl zD rfl rfl zC rdDone_c ?_;refine O.sT 62 rfl (by exact e1)<|zz 4 ?_;refine O.sF 66 rfl (by simp [recErr,e2]) ?_;refine O.q 4 rfl<|O.callB (.g rfl rfl) rfl zD rfl rfl (bs:=[OwnP Rp.u8 5 (.slice a58 (recOut X).length c58) (recOut X)]) zK (fun m hm hd' =>bequal_c (hm.arr.right hd') ha.left) ?_;rintro _ _ ⟨rfl,rfl⟩;refine O.sT 71 rfl (by exact zdt (by rw [recOut,if_pos e2];exact e3))<|zz 9 ?_;refine O.q 1 rfl<|O.nil<|S.retCellT results311 rfl rfl zC (LoadsAs.agg isAgg102 zD) fun w hw=>Holds.end_ hR hw ?_;have hy' :=hyes e2 e3;subst hXX;exact pk (.inl ⟨_,a.1,a.2,a49,c49,a53,c53,hy',rfl,rfl⟩)
     ·
      refine zz 2 ?_;refine O.vS (.p rfl) rfl zD rfl rfl zC rdDone_c ?_;refine O.sT 62 rfl (by exact e1)<|zz 4 ?_;refine O.sF 66 rfl (by simp [recErr,e2]) ?_;refine O.q 4 rfl<|O.callB (.g rfl rfl) rfl zD rfl rfl (bs:=[OwnP Rp.u8 5 (.slice a58 (recOut X).length c58) (recOut X)]) zK (fun m hm hd' =>bequal_c (hm.arr.right hd') ha.left) ?_;rintro _ _ ⟨rfl,rfl⟩;refine O.sF 71 rfl (by exact zdf (by rw [recOut,if_pos e2];exact e3))<|zz 6 ?_;refine O.op (.p rfl) (.build (cs:=[_,_,_,_,_,_,_]) underlying102 rfl rfl rfl rfl rfl)<|zz 1 ?_;refine O.q 1 rfl<|O.nil<|S.retCellT results311 rfl rfl zC (LoadsAs.agg isAgg102 zD) fun w hw=>Holds.end_ hR hw ?_;exact pk (.inr ⟨hno fun q=>e3 q.2.2,rfl,rfl⟩)
theorem rGetY_c {r:Fr} {va:Value} {b:List UInt8} {x:RecT} (e:recGet b=some x) (ha:Arr Rp.u8 r va b) (hl:b.length≤1000000000) :
  Con prog 311 #[va] r [] (Ret fun v η=>∃ a3 c3 a5 c5 a6 c6,v=.tuple #[.agg (recV x (.slice a3 x.2.2.2.1.length c3) (.slice a5 x.2.2.2.2.2.1.length c5) (.slice a6 x.2.2.2.2.2.2.1.length c6)).toArray,.int .i64 0]∧η=recWs x (.slice a3 x.2.2.2.1.length c3) (.slice a5 x.2.2.2.2.2.1.length c5) (.slice a6 x.2.2.2.2.2.2.1.length c6)) :=
 (rGet_c ha hl).mono (Ret.imp fun v η h=>by
  rcases h with ⟨y,a3,c3,a5,c5,a6,c6,h1,h2,h3⟩|⟨h1,_⟩
  ·rw [e] at h1;obtain rfl:=Option.some.inj h1;exact ⟨a3,c3,a5,c5,a6,c6,h2,h3⟩
  ·rw [e] at h1;cases h1)
end Go.Proofs.YtojafegjlahajaaGreatDoor
