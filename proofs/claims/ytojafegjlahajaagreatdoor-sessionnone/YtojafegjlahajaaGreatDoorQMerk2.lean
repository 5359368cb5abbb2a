/- Texts of this proof. -/
import Derived.Test.YtojafegjlahajaaGreatDoorQTmerk1
import Derived.Test.YtojafegjlahajaaGreatDoorQSpMapB
open Go Go.Sp Go.Proofs.Tryz
set_option maxRecDepth 100000
set_option maxHeartbeats 1000000
attribute [local irreducible] obj Own OwnP
namespace Go.Proofs.YtojafegjlahajaaGreatDoor
theorem leafOk_iff {x:LeafT}:leafOk x↔keyOk x.1∧0<x.2.1.length∧ofK x.1 x.2.1 :=
 ⟨fun ⟨h1,h2,h3,h4⟩=>⟨h1,h3,h2,fun _=>h4⟩,fun ⟨h1,h2,h3,h4⟩=>⟨h1,h3,h2,h4 h2⟩⟩
theorem not_leaves {n:NodeT} {i:Nat} (h:i<n.2.2.2.1.length) (q:¬ leafOk n.2.2.2.1[i]):decide (nodeOk n)=false:=zdf fun w=>q (w.1.1 _ (List.getElem_mem h))
theorem not_rises {n:NodeT} {i:Nat} (h:i<n.2.2.2.1.length) (h0:0<i) (q:¬ n.2.2.2.1[i - 1].1<n.2.2.2.1[i].1):decide (nodeOk n)=false:=zdf fun w=>q (w.1.2 i h h0)
def LG (x:NodeT) (k:Nat):Prop:=∀ i (q:i<x.2.2.2.1.length),i<k→leafOk x.2.2.2.1[i]∧(0<i→(x.2.2.2.1[i - 1]'zB).1<x.2.2.2.1[i].1)
theorem LG.step {x:NodeT} {k:Nat} (hk:k<x.2.2.2.1.length) (h:LG x k) (hl:leafOk x.2.2.2.1[k]) (hr:0<k→(x.2.2.2.1[k - 1]'zB).1<x.2.2.2.1[k].1):LG x (k+1):=fun i q w=>by
 rcases Nat.lt_or_ge i k with w' |w'
 ·exact h i q w'
 ·have:i=k:=by omega
  subst this;exact ⟨hl,hr⟩
theorem LG.all {x:NodeT} (h:LG x x.2.2.2.1.length):(∀ y∈x.2.2.2.1,leafOk y)∧keysRise (·.1) x.2.2.2.1 :=
 ⟨fun y hy=>by obtain ⟨i,q,rfl⟩:=List.mem_iff_getElem.1 hy;exact (h i q q).1,fun i q w=>(h i q q).2 w⟩
theorem len0 {α:Type} {l:List α}:l.length=0↔l=[]:=List.length_eq_zero_iff
theorem nodeOk_1 {x:NodeT} (hG:(∀ y∈x.2.2.2.1,leafOk y)∧keysRise (·.1) x.2.2.2.1) (e:x.1=1):nodeOk x↔x.2.1.length=0∧x.2.2.1.length=0∧x.2.2.2.1.length=0:=by
 unfold nodeOk;rw [e,len0,len0,len0];exact ⟨fun ⟨_,h⟩=>by rcases h with h|h|h|h;exact h.2;exact absurd h.1 zE;exact absurd h.1 zE;exact absurd h.1 zE,fun h=>⟨hG,.inl ⟨rfl,h⟩⟩⟩
theorem nodeOk_2 {x:NodeT} (hG:(∀ y∈x.2.2.2.1,leafOk y)∧keysRise (·.1) x.2.2.2.1) (e:x.1=2):nodeOk x↔x.2.1.length=0∧x.2.2.1.length=0∧x.2.2.2.1.length=1:=by
 unfold nodeOk;rw [e,len0,len0];exact ⟨fun ⟨_,h⟩=>by rcases h with h|h|h|h;exact absurd h.1 zE;exact h.2;exact absurd h.1 zE;exact absurd h.1 zE,fun h=>⟨hG,.inr (.inl ⟨rfl,h⟩)⟩⟩
theorem nodeOk_3 {x:NodeT} (hG:(∀ y∈x.2.2.2.1,leafOk y)∧keysRise (·.1) x.2.2.2.1) (e:x.1=3):nodeOk x↔x.2.1.length=64∧x.2.2.1.length=64∧x.2.2.2.1.length=0:=by
 unfold nodeOk;rw [e,len0];exact ⟨fun ⟨_,h⟩=>by rcases h with h|h|h|h;exact absurd h.1 zE;exact absurd h.1 zE;exact h.2;exact absurd h.1 zE,fun h=>⟨hG,.inr (.inr (.inl ⟨rfl,h⟩))⟩⟩
theorem nodeOk_4 {x:NodeT} (hG:(∀ y∈x.2.2.2.1,leafOk y)∧keysRise (·.1) x.2.2.2.1) (e:x.1=4):nodeOk x↔x.2.1.length=0∧x.2.2.1.length=0∧2≤x.2.2.2.1.length:=by
 unfold nodeOk;rw [e,len0,len0];exact ⟨fun ⟨_,h⟩=>by rcases h with h|h|h|h;exact absurd h.1 zE;exact absurd h.1 zE;exact absurd h.1 zE;exact h.2,fun h=>⟨hG,.inr (.inr (.inr ⟨rfl,h⟩))⟩⟩
theorem nodeOk_5 {x:NodeT} (e1:x.1≠1) (e2:x.1≠2) (e3:x.1≠3) (e4:x.1≠4):¬ nodeOk x:=fun ⟨_,h⟩=>by
 rcases h with h|h|h|h
 ·exact e1 h.1
 ·exact e2 h.1
 ·exact e3 h.1
 ·exact e4 h.1
theorem byte_eq {a b:UInt8}:((a.toNat:Int)=(b.toNat:Int))↔a=b:=⟨fun h=>u8_inj h,fun h=>by rw [h]⟩
theorem geS_false {a b:List UInt8} (h:a<b):(!Op.bytesLess (str a).toList (str b).toList)=false:=by rw [geqS_eq];exact zdf fun w=>w h
theorem geS_true {a b:List UInt8} (h:¬ a<b):(!Op.bytesLess (str a).toList (str b).toList)=true:=by rw [geqS_eq];exact zdt h
theorem mright_c {r:Fr} {cs:List Value} {x:NodeT} (h:NodeRp.rel r cs x) (hx0:x.2.1.length≤1000000000000∧x.2.2.1.length≤1000000000000) (hx2:∀ y∈x.2.2.2.1,y.2.1.length≤1000000000):Con prog 79 #[.agg cs.toArray] r [] (Ret fun v η=>v=.bool (decide (nodeOk x))∧η=[]):=by
 obtain ⟨a1,a2,a3,c1,c2,c3,rfl,k1,k2,k3⟩:=NodeRp.sh h;obtain ⟨hb5,hb6⟩:=hx0;refine Con.o func79 fun g hg R hR=>?_;have k1:=k1.mono hg;have k2:=k2.mono hg;have k3:=k3.mono hg;have hb:=k3.bound;have hb1:=k1.bound;have hb2:=k2.bound;refine S.seq<|S.region rfl<|O.opE (.p rfl) (.box (cs:=[_,_,_,_]) rfl rfl) ?_;rintro _ _ ⟨b1,rfl,rfl⟩;refine zz 4 ?_;refine S.objIs (b:=b1) (cs' :=[byteV x.1,.slice a1 x.2.1.length c1,.slice a2 x.2.2.1.length c2,.slice a3 x.2.2.2.1.length c3]) zC rfl ?_;refine S.frzO zC fun g hs hm h1=>?_;replace hg:=zfs hg hs;replace hR:=melted hR hm
 try replace k1:=k1.mono hs
 try replace k2:=k2.mono hs
 try replace k3:=k3.mono hs
 clear hs hm;refine zz 7 ?_;refine S.loopK (ι:=Nat) (fun k=>k≤x.2.2.2.1.length∧LG x k) (fun k=>[(12,.int .i64 (k:Int))]) [(1,_),(10,_),(11,_)] (fun k=>[]) (fun k=>x.2.2.2.1.length - k) (0) (by exact ⟨by omega,fun i q w=>by omega⟩) zq zq rfl fun k hx ih=>?_;have hm1:=meltRefl (g:=g);obtain ⟨hx1,hall⟩:=hx;refine zz 5 ?_;refine S.cd rfl (fun h13=>?_) fun h13=>?_
 ·have hk:k<x.2.2.2.1.length:=by omega
  have hset:=hx2 _ (List.getElem_mem hk);refine zz 6 ?_;refine O.iz (k3) (h:=fun p15 cs15 hp15 hr15=>?_);obtain ⟨l1,m1,rfl,l2,l3⟩:=LeafRp.sh hr15;have l3:=l3;refine O.op (.p rfl) (.loadAgg isAgg31 zD rfl hp15) ?_;refine O.opE (.p rfl) (.alloc (cs:=[.string ⟨#[]⟩,.slice none 0 0]) zeroValue31 rfl) ?_;rintro _ _ ⟨b4,rfl,rfl⟩;refine zz 2 ?_;refine O.nil<|S.seq<|S.objIs (b:=b4) (cs' :=[.string (str x.2.2.2.1[k].1),.slice l1 x.2.2.2.1[k].2.1.length m1]) zC rfl ?_;refine S.frzO zC fun g hs hm h4=>?_;replace hg:=zfs hg hs;replace hR:=melted hR hm
  try replace k1:=k1.mono hs
  try replace k2:=k2.mono hs
  try replace k3:=k3.mono hs
  try replace h1:=h1.mono hs
  try replace hp15:=hp15.mono hs
  try replace l3:=l3.mono hs
  try replace hp15:=hp15.mono hs
  replace hm1:=meltTrans hm1 hm;clear hs hm
  by_cases q1:keyOk x.2.2.2.1[k].1
  ·by_cases q2:0<x.2.2.2.1[k].2.1.length
   ·by_cases q3:ofK x.2.2.2.1[k].1 x.2.2.2.1[k].2.1
    ·have hlf:=leafOk_iff.2 ⟨q1,q2,q3⟩
     by_cases q4:0<k
     ·by_cases q5:(x.2.2.2.1[k - 1]'zB).1<x.2.2.2.1[k].1
      ·
       refine S.regionD (L:=.range 34) F.mixed zD ?_;refine zz 2 ?_;refine OD.v0 (.p rfl) zD rfl zD rfl rfl ((mlong_c zB)) ?_;refine OD.sT 19 rfl (by exact zdt q1)<|zz 6 ?_;refine OD.sF 25 rfl (by exact zdf zB)<|zz 6 ?_;refine OD.v0 (.g rfl rfl) zD rfl zD rfl rfl ((mof_c l3 zB)) ?_;refine OD.sT 32 rfl (by exact zdt q3)<|zz 5 ?_;refine OD.sT 37 rfl (by exact zdt zB)<|zz 5 ?_;refine OD.slot 42 (v' :=.int .i64 ((k - 1:Nat):Int)) rfl (by exact congrArg (Value.int .i64) zB) ?_;refine OD.ia (.g rfl rfl) underlying25 size31 rfl rfl (show _=(((k-1):Nat):Int) by omega) (k3) (h:=fun p43 cs43 hp43 hr43=>?_);obtain ⟨u1,w1,rfl, -, -⟩:=LeafRp.sh hr43;refine zz 4 ?_;refine .quiet (.g rfl rfl) rfl (fun _=>.geqS rfl rfl)<|OD.sF 48 rfl (by exact geS_false q5) ?_;refine zz 10 ?_;exact S.melt hm1 (S.wk (ih (k+1) (by exact ⟨by omega,hall.step hk hlf fun _=>q5⟩) zB))
      ·have e:=not_rises hk q4 q5
       refine S.regionD (L:=.range 34) F.mixed zD ?_;refine zz 2 ?_;refine OD.v0 (.p rfl) zD rfl zD rfl rfl ((mlong_c zB)) ?_;refine OD.sT 19 rfl (by exact zdt q1)<|zz 6 ?_;refine OD.sF 25 rfl (by exact zdf zB)<|zz 6 ?_;refine OD.v0 (.g rfl rfl) zD rfl zD rfl rfl ((mof_c l3 zB)) ?_;refine OD.sT 32 rfl (by exact zdt q3)<|zz 5 ?_;refine OD.sT 37 rfl (by exact zdt zB)<|zz 5 ?_;refine OD.slot 42 (v' :=.int .i64 ((k - 1:Nat):Int)) rfl (by exact congrArg (Value.int .i64) zB) ?_;refine OD.ia (.g rfl rfl) underlying25 size31 rfl rfl (show _=(((k-1):Nat):Int) by omega) (k3) (h:=fun p43 cs43 hp43 hr43=>?_);obtain ⟨u1,w1,rfl, -, -⟩:=LeafRp.sh hr43;refine zz 4 ?_;refine .quiet (.g rfl rfl) rfl (fun _=>.geqS rfl rfl)<|OD.sT 48 rfl (by exact geS_true q5) ?_;refine zz 8 ?_;exact S.rt results79 rfl hR ⟨congrArg Value.bool e.symm,rfl⟩
     ·
      refine S.regionD (L:=.range 34) F.mixed zD ?_;refine zz 2 ?_;refine OD.v0 (.p rfl) zD rfl zD rfl rfl ((mlong_c zB)) ?_;refine OD.sT 19 rfl (by exact zdt q1)<|zz 6 ?_;refine OD.sF 25 rfl (by exact zdf zB)<|zz 6 ?_;refine OD.v0 (.g rfl rfl) zD rfl zD rfl rfl ((mof_c l3 zB)) ?_;refine OD.sT 32 rfl (by exact zdt q3)<|zz 5 ?_;refine OD.sF 37 rfl (by exact zdf zB)<|zz 21 ?_;exact S.melt hm1 (S.wk (ih (k+1) (by exact ⟨by omega,hall.step hk hlf fun w=>absurd w q4⟩) zB))
    ·have e:=not_leaves hk fun w=>q3 (leafOk_iff.1 w).2.2
     refine S.regionD (L:=.range 34) F.mixed zD ?_;refine zz 2 ?_;refine OD.v0 (.p rfl) zD rfl zD rfl rfl ((mlong_c zB)) ?_;refine OD.sT 19 rfl (by exact zdt q1)<|zz 6 ?_;refine OD.sF 25 rfl (by exact zdf zB)<|zz 6 ?_;refine OD.v0 (.g rfl rfl) zD rfl zD rfl rfl ((mof_c l3 zB)) ?_;refine OD.sF 32 rfl (by exact zdf q3)<|zz 24 ?_;exact S.rt results79 rfl hR ⟨congrArg Value.bool e.symm,rfl⟩
   ·have e:=not_leaves hk fun w=>q2 (leafOk_iff.1 w).2.1
    refine S.regionD (L:=.range 34) F.mixed zD ?_;refine zz 2 ?_;refine OD.v0 (.p rfl) zD rfl zD rfl rfl ((mlong_c zB)) ?_;refine OD.sT 19 rfl (by exact zdt q1)<|zz 6 ?_;refine OD.sT 25 rfl (by exact zdt zB)<|zz 31 ?_;exact S.rt results79 rfl hR ⟨congrArg Value.bool e.symm,rfl⟩
  ·have e:=not_leaves hk fun w=>q1 (leafOk_iff.1 w).1
   refine S.regionD (L:=.range 34) F.mixed zD ?_;refine zz 2 ?_;refine OD.v0 (.p rfl) zD rfl zD rfl rfl ((mlong_c zB)) ?_;refine OD.sF 19 rfl (by exact zdf q1)<|zz 37 ?_;exact S.rt results79 rfl hR ⟨congrArg Value.bool e.symm,rfl⟩
 ·clear ih
  have hk:k=x.2.2.2.1.length:=by omega
  subst hk;have hG:=hall.all
  by_cases e:x.1=3
  ·
   refine zz 2 ?_;refine S.regionD (L:=.range 15) F.mixed zD ?_;refine zz 8 ?_
   refine OD.cs 59 rfl (fun h59=>?_) fun h59=>?_
   ·refine zz 14 ?_
    refine O.sT 67 rfl (by rw [e];rfl)<|zz 6 ?_
    refine O.cs 69 rfl (fun h69=>?_) fun h69=>?_
    ·refine zz 5 ?_
     refine S.ret results79 rfl fun w hw=>Holds.end_ hR hw ?_
     first|exact ⟨_,⟨congrArg _ (zdf (fun w=>by have:=(nodeOk_3 hG e).1 w;omega)).symm,rfl⟩,zN⟩|exact ⟨_,⟨congrArg _ (zdt ((nodeOk_3 hG e).2 zB)).symm,rfl⟩,zN⟩|exact ⟨_,⟨congrArg _ (decide_eq_decide.2 ⟨fun h=>(nodeOk_3 hG e).2 zB,fun h=>by have:=(nodeOk_3 hG e).1 h;omega⟩),rfl⟩,zN⟩
    ·refine O.q 4 rfl<|O.nil<|S.ret results79 rfl fun w hw=>Holds.end_ hR hw ?_
     first|exact ⟨_,⟨congrArg _ (zdf (fun w=>by have:=(nodeOk_3 hG e).1 w;omega)).symm,rfl⟩,zN⟩|exact ⟨_,⟨congrArg _ (zdt ((nodeOk_3 hG e).2 zB)).symm,rfl⟩,zN⟩|exact ⟨_,⟨congrArg _ (decide_eq_decide.2 ⟨fun h=>(nodeOk_3 hG e).2 zB,fun h=>by have:=(nodeOk_3 hG e).1 h;omega⟩),rfl⟩,zN⟩
   ·refine zz 14 ?_
    refine O.sT 67 rfl (by rw [e];rfl)<|zz 11 ?_;refine S.ret results79 rfl fun w hw=>Holds.end_ hR hw ?_
    first|exact ⟨_,⟨congrArg _ (zdf (fun w=>by have:=(nodeOk_3 hG e).1 w;omega)).symm,rfl⟩,zN⟩|exact ⟨_,⟨congrArg _ (zdt ((nodeOk_3 hG e).2 zB)).symm,rfl⟩,zN⟩|exact ⟨_,⟨congrArg _ (decide_eq_decide.2 ⟨fun h=>(nodeOk_3 hG e).2 zB,fun h=>by have:=(nodeOk_3 hG e).1 h;omega⟩),rfl⟩,zN⟩
  ·have n3:=e
   by_cases e:x.1=1
   ·
    refine zz 2 ?_;refine S.regionD (L:=.range 15) F.mixed zD ?_;refine zz 8 ?_
    refine OD.cs 59 rfl (fun h59=>?_) fun h59=>?_
    ·refine zz 14 ?_
     refine O.sF 67 rfl (by exact zdf fun w=>n3 (byte_eq (b:=3).1 w)) ?_;refine zz 5 ?_;refine O.opE (.p rfl) (.makeMapK' (enc:=encB)) ?_;rintro _ _ ⟨b74,rfl,rfl⟩;refine O.opU rfl (.insertK (key:=1) underlying223 (keyOkB underlying23) rfl rfl rfl zC) ?_;refine O.opU rfl (.insertK (key:=2) underlying223 (keyOkB underlying23) rfl rfl rfl zC) ?_;refine O.opU rfl (.insertK (key:=4) underlying223 (keyOkB underlying23) rfl rfl rfl zC)<|zz 3 ?_;refine O.op (.p rfl) (.lookupK underlying223 (keyOkB underlying23) zeroValue3 rfl rfl zC) ?_;refine O.q 2 rfl<|O.slot 79 (v' :=.int .i64 0) rfl (by rw [e];rfl) ?_;refine O.q 1 rfl<|O.sT 80 rfl (by rw [e];rfl)<|zz 17 ?_
     refine O.cs 92 rfl (fun h92=>?_) fun h92=>?_
     ·refine zz 5 ?_
      refine O.cs 97 rfl (fun h97=>?_) fun h97=>?_
      ·refine zz 4 ?_
       refine O.cs 101 rfl (fun h101=>?_) fun h101=>?_
       ·refine O.q 6 rfl<|O.nil<|S.ret results79 rfl fun w hw=>Holds.end_ hR hw ?_
        first|exact ⟨_,⟨congrArg _ (zdf (fun w=>by have:=(nodeOk_1 hG e).1 w;omega)).symm,rfl⟩,zN⟩|exact ⟨_,⟨congrArg _ (zdt ((nodeOk_1 hG e).2 zB)).symm,rfl⟩,zN⟩|exact ⟨_,⟨congrArg _ (decide_eq_decide.2 ⟨fun h=>(nodeOk_1 hG e).2 zB,fun h=>by have:=(nodeOk_1 hG e).1 h;omega⟩),rfl⟩,zN⟩
       ·refine zz 3 ?_
        refine O.sF 104 rfl (by rw [e];rfl) ?_;refine O.q 3 rfl<|O.nil<|S.ret results79 rfl fun w hw=>Holds.end_ hR hw ?_
        first|exact ⟨_,⟨congrArg _ (zdf (fun w=>by have:=(nodeOk_1 hG e).1 w;omega)).symm,rfl⟩,zN⟩|exact ⟨_,⟨congrArg _ (zdt ((nodeOk_1 hG e).2 zB)).symm,rfl⟩,zN⟩|exact ⟨_,⟨congrArg _ (decide_eq_decide.2 ⟨fun h=>(nodeOk_1 hG e).2 zB,fun h=>by have:=(nodeOk_1 hG e).1 h;omega⟩),rfl⟩,zN⟩
      ·refine O.q 10 rfl<|O.nil<|S.ret results79 rfl fun w hw=>Holds.end_ hR hw ?_
       first|exact ⟨_,⟨congrArg _ (zdf (fun w=>by have:=(nodeOk_1 hG e).1 w;omega)).symm,rfl⟩,zN⟩|exact ⟨_,⟨congrArg _ (zdt ((nodeOk_1 hG e).2 zB)).symm,rfl⟩,zN⟩|exact ⟨_,⟨congrArg _ (decide_eq_decide.2 ⟨fun h=>(nodeOk_1 hG e).2 zB,fun h=>by have:=(nodeOk_1 hG e).1 h;omega⟩),rfl⟩,zN⟩
     ·refine O.q 15 rfl<|O.nil<|S.ret results79 rfl fun w hw=>Holds.end_ hR hw ?_
      first|exact ⟨_,⟨congrArg _ (zdf (fun w=>by have:=(nodeOk_1 hG e).1 w;omega)).symm,rfl⟩,zN⟩|exact ⟨_,⟨congrArg _ (zdt ((nodeOk_1 hG e).2 zB)).symm,rfl⟩,zN⟩|exact ⟨_,⟨congrArg _ (decide_eq_decide.2 ⟨fun h=>(nodeOk_1 hG e).2 zB,fun h=>by have:=(nodeOk_1 hG e).1 h;omega⟩),rfl⟩,zN⟩
    ·refine zz 14 ?_
     refine O.sF 67 rfl (by exact zdf fun w=>n3 (byte_eq (b:=3).1 w)) ?_;refine zz 5 ?_;refine O.opE (.p rfl) (.makeMapK' (enc:=encB)) ?_;rintro _ _ ⟨b74,rfl,rfl⟩;refine O.opU rfl (.insertK (key:=1) underlying223 (keyOkB underlying23) rfl rfl rfl zC) ?_;refine O.opU rfl (.insertK (key:=2) underlying223 (keyOkB underlying23) rfl rfl rfl zC) ?_;refine O.opU rfl (.insertK (key:=4) underlying223 (keyOkB underlying23) rfl rfl rfl zC)<|zz 3 ?_;refine O.op (.p rfl) (.lookupK underlying223 (keyOkB underlying23) zeroValue3 rfl rfl zC) ?_;refine O.q 2 rfl<|O.slot 79 (v' :=.int .i64 0) rfl (by rw [e];rfl) ?_;refine O.q 1 rfl<|O.sT 80 rfl (by rw [e];rfl)<|zz 17 ?_
     refine O.cs 92 rfl (fun h92=>?_) fun h92=>?_
     ·refine zz 5 ?_
      refine O.cs 97 rfl (fun h97=>?_) fun h97=>?_
      ·refine zz 4 ?_
       refine O.cs 101 rfl (fun h101=>?_) fun h101=>?_
       ·refine O.q 6 rfl<|O.nil<|S.ret results79 rfl fun w hw=>Holds.end_ hR hw ?_
        first|exact ⟨_,⟨congrArg _ (zdf (fun w=>by have:=(nodeOk_1 hG e).1 w;omega)).symm,rfl⟩,zN⟩|exact ⟨_,⟨congrArg _ (zdt ((nodeOk_1 hG e).2 zB)).symm,rfl⟩,zN⟩|exact ⟨_,⟨congrArg _ (decide_eq_decide.2 ⟨fun h=>(nodeOk_1 hG e).2 zB,fun h=>by have:=(nodeOk_1 hG e).1 h;omega⟩),rfl⟩,zN⟩
       ·refine zz 3 ?_
        refine O.sF 104 rfl (by rw [e];rfl) ?_;refine O.q 3 rfl<|O.nil<|S.ret results79 rfl fun w hw=>Holds.end_ hR hw ?_
        first|exact ⟨_,⟨congrArg _ (zdf (fun w=>by have:=(nodeOk_1 hG e).1 w;omega)).symm,rfl⟩,zN⟩|exact ⟨_,⟨congrArg _ (zdt ((nodeOk_1 hG e).2 zB)).symm,rfl⟩,zN⟩|exact ⟨_,⟨congrArg _ (decide_eq_decide.2 ⟨fun h=>(nodeOk_1 hG e).2 zB,fun h=>by have:=(nodeOk_1 hG e).1 h;omega⟩),rfl⟩,zN⟩
      ·refine O.q 10 rfl<|O.nil<|S.ret results79 rfl fun w hw=>Holds.end_ hR hw ?_
       first|exact ⟨_,⟨congrArg _ (zdf (fun w=>by have:=(nodeOk_1 hG e).1 w;omega)).symm,rfl⟩,zN⟩|exact ⟨_,⟨congrArg _ (zdt ((nodeOk_1 hG e).2 zB)).symm,rfl⟩,zN⟩|exact ⟨_,⟨congrArg _ (decide_eq_decide.2 ⟨fun h=>(nodeOk_1 hG e).2 zB,fun h=>by have:=(nodeOk_1 hG e).1 h;omega⟩),rfl⟩,zN⟩
     ·refine O.q 15 rfl<|O.nil<|S.ret results79 rfl fun w hw=>Holds.end_ hR hw ?_
      first|exact ⟨_,⟨congrArg _ (zdf (fun w=>by have:=(nodeOk_1 hG e).1 w;omega)).symm,rfl⟩,zN⟩|exact ⟨_,⟨congrArg _ (zdt ((nodeOk_1 hG e).2 zB)).symm,rfl⟩,zN⟩|exact ⟨_,⟨congrArg _ (decide_eq_decide.2 ⟨fun h=>(nodeOk_1 hG e).2 zB,fun h=>by have:=(nodeOk_1 hG e).1 h;omega⟩),rfl⟩,zN⟩
   ·have n1:=e
    by_cases e:x.1=2
    ·
     refine zz 2 ?_;refine S.regionD (L:=.range 15) F.mixed zD ?_;refine zz 8 ?_
     refine OD.cs 59 rfl (fun h59=>?_) fun h59=>?_
     ·refine zz 14 ?_
      refine O.sF 67 rfl (by exact zdf fun w=>n3 (byte_eq (b:=3).1 w)) ?_;refine zz 5 ?_;refine O.opE (.p rfl) (.makeMapK' (enc:=encB)) ?_;rintro _ _ ⟨b74,rfl,rfl⟩;refine O.opU rfl (.insertK (key:=1) underlying223 (keyOkB underlying23) rfl rfl rfl zC) ?_;refine O.opU rfl (.insertK (key:=2) underlying223 (keyOkB underlying23) rfl rfl rfl zC) ?_;refine O.opU rfl (.insertK (key:=4) underlying223 (keyOkB underlying23) rfl rfl rfl zC)<|zz 3 ?_;refine O.op (.p rfl) (.lookupK underlying223 (keyOkB underlying23) zeroValue3 rfl rfl zC) ?_;refine O.q 2 rfl<|O.slot 79 (v' :=.int .i64 1) rfl (by rw [e];rfl) ?_;refine O.q 1 rfl<|O.sT 80 rfl (by rw [e];rfl)<|zz 17 ?_
      refine O.cs 92 rfl (fun h92=>?_) fun h92=>?_
      ·refine zz 5 ?_
       refine O.cs 97 rfl (fun h97=>?_) fun h97=>?_
       ·refine zz 4 ?_
        refine O.cs 101 rfl (fun h101=>?_) fun h101=>?_
        ·refine O.q 6 rfl<|O.nil<|S.ret results79 rfl fun w hw=>Holds.end_ hR hw ?_
         first|exact ⟨_,⟨congrArg _ (zdf (fun w=>by have:=(nodeOk_2 hG e).1 w;omega)).symm,rfl⟩,zN⟩|exact ⟨_,⟨congrArg _ (zdt ((nodeOk_2 hG e).2 zB)).symm,rfl⟩,zN⟩|exact ⟨_,⟨congrArg _ (decide_eq_decide.2 ⟨fun h=>(nodeOk_2 hG e).2 zB,fun h=>by have:=(nodeOk_2 hG e).1 h;omega⟩),rfl⟩,zN⟩
        ·refine zz 3 ?_
         refine O.sF 104 rfl (by rw [e];rfl) ?_;refine O.q 3 rfl<|O.nil<|S.ret results79 rfl fun w hw=>Holds.end_ hR hw ?_
         first|exact ⟨_,⟨congrArg _ (zdf (fun w=>by have:=(nodeOk_2 hG e).1 w;omega)).symm,rfl⟩,zN⟩|exact ⟨_,⟨congrArg _ (zdt ((nodeOk_2 hG e).2 zB)).symm,rfl⟩,zN⟩|exact ⟨_,⟨congrArg _ (decide_eq_decide.2 ⟨fun h=>(nodeOk_2 hG e).2 zB,fun h=>by have:=(nodeOk_2 hG e).1 h;omega⟩),rfl⟩,zN⟩
       ·refine O.q 10 rfl<|O.nil<|S.ret results79 rfl fun w hw=>Holds.end_ hR hw ?_
        first|exact ⟨_,⟨congrArg _ (zdf (fun w=>by have:=(nodeOk_2 hG e).1 w;omega)).symm,rfl⟩,zN⟩|exact ⟨_,⟨congrArg _ (zdt ((nodeOk_2 hG e).2 zB)).symm,rfl⟩,zN⟩|exact ⟨_,⟨congrArg _ (decide_eq_decide.2 ⟨fun h=>(nodeOk_2 hG e).2 zB,fun h=>by have:=(nodeOk_2 hG e).1 h;omega⟩),rfl⟩,zN⟩
      ·refine O.q 15 rfl<|O.nil<|S.ret results79 rfl fun w hw=>Holds.end_ hR hw ?_
       first|exact ⟨_,⟨congrArg _ (zdf (fun w=>by have:=(nodeOk_2 hG e).1 w;omega)).symm,rfl⟩,zN⟩|exact ⟨_,⟨congrArg _ (zdt ((nodeOk_2 hG e).2 zB)).symm,rfl⟩,zN⟩|exact ⟨_,⟨congrArg _ (decide_eq_decide.2 ⟨fun h=>(nodeOk_2 hG e).2 zB,fun h=>by have:=(nodeOk_2 hG e).1 h;omega⟩),rfl⟩,zN⟩
     ·refine zz 14 ?_
      refine O.sF 67 rfl (by exact zdf fun w=>n3 (byte_eq (b:=3).1 w)) ?_;refine zz 5 ?_;refine O.opE (.p rfl) (.makeMapK' (enc:=encB)) ?_;rintro _ _ ⟨b74,rfl,rfl⟩;refine O.opU rfl (.insertK (key:=1) underlying223 (keyOkB underlying23) rfl rfl rfl zC) ?_;refine O.opU rfl (.insertK (key:=2) underlying223 (keyOkB underlying23) rfl rfl rfl zC) ?_;refine O.opU rfl (.insertK (key:=4) underlying223 (keyOkB underlying23) rfl rfl rfl zC)<|zz 3 ?_;refine O.op (.p rfl) (.lookupK underlying223 (keyOkB underlying23) zeroValue3 rfl rfl zC) ?_;refine O.q 2 rfl<|O.slot 79 (v' :=.int .i64 1) rfl (by rw [e];rfl) ?_;refine O.q 1 rfl<|O.sT 80 rfl (by rw [e];rfl)<|zz 17 ?_
      refine O.cs 92 rfl (fun h92=>?_) fun h92=>?_
      ·refine zz 5 ?_
       refine O.cs 97 rfl (fun h97=>?_) fun h97=>?_
       ·refine zz 4 ?_
        refine O.cs 101 rfl (fun h101=>?_) fun h101=>?_
        ·refine O.q 6 rfl<|O.nil<|S.ret results79 rfl fun w hw=>Holds.end_ hR hw ?_
         first|exact ⟨_,⟨congrArg _ (zdf (fun w=>by have:=(nodeOk_2 hG e).1 w;omega)).symm,rfl⟩,zN⟩|exact ⟨_,⟨congrArg _ (zdt ((nodeOk_2 hG e).2 zB)).symm,rfl⟩,zN⟩|exact ⟨_,⟨congrArg _ (decide_eq_decide.2 ⟨fun h=>(nodeOk_2 hG e).2 zB,fun h=>by have:=(nodeOk_2 hG e).1 h;omega⟩),rfl⟩,zN⟩
        ·refine zz 3 ?_
         refine O.sF 104 rfl (by rw [e];rfl) ?_;refine O.q 3 rfl<|O.nil<|S.ret results79 rfl fun w hw=>Holds.end_ hR hw ?_
         first|exact ⟨_,⟨congrArg _ (zdf (fun w=>by have:=(nodeOk_2 hG e).1 w;omega)).symm,rfl⟩,zN⟩|exact ⟨_,⟨congrArg _ (zdt ((nodeOk_2 hG e).2 zB)).symm,rfl⟩,zN⟩|exact ⟨_,⟨congrArg _ (decide_eq_decide.2 ⟨fun h=>(nodeOk_2 hG e).2 zB,fun h=>by have:=(nodeOk_2 hG e).1 h;omega⟩),rfl⟩,zN⟩
       ·refine O.q 10 rfl<|O.nil<|S.ret results79 rfl fun w hw=>Holds.end_ hR hw ?_
        first|exact ⟨_,⟨congrArg _ (zdf (fun w=>by have:=(nodeOk_2 hG e).1 w;omega)).symm,rfl⟩,zN⟩|exact ⟨_,⟨congrArg _ (zdt ((nodeOk_2 hG e).2 zB)).symm,rfl⟩,zN⟩|exact ⟨_,⟨congrArg _ (decide_eq_decide.2 ⟨fun h=>(nodeOk_2 hG e).2 zB,fun h=>by have:=(nodeOk_2 hG e).1 h;omega⟩),rfl⟩,zN⟩
      ·refine O.q 15 rfl<|O.nil<|S.ret results79 rfl fun w hw=>Holds.end_ hR hw ?_
       first|exact ⟨_,⟨congrArg _ (zdf (fun w=>by have:=(nodeOk_2 hG e).1 w;omega)).symm,rfl⟩,zN⟩|exact ⟨_,⟨congrArg _ (zdt ((nodeOk_2 hG e).2 zB)).symm,rfl⟩,zN⟩|exact ⟨_,⟨congrArg _ (decide_eq_decide.2 ⟨fun h=>(nodeOk_2 hG e).2 zB,fun h=>by have:=(nodeOk_2 hG e).1 h;omega⟩),rfl⟩,zN⟩
    ·have n2:=e
     by_cases e:x.1=4
     ·
      refine zz 2 ?_;refine S.regionD (L:=.range 15) F.mixed zD ?_;refine zz 8 ?_
      refine OD.cs 59 rfl (fun h59=>?_) fun h59=>?_
      ·refine zz 14 ?_
       refine O.sF 67 rfl (by exact zdf fun w=>n3 (byte_eq (b:=3).1 w)) ?_;refine zz 5 ?_;refine O.opE (.p rfl) (.makeMapK' (enc:=encB)) ?_;rintro _ _ ⟨b74,rfl,rfl⟩;refine O.opU rfl (.insertK (key:=1) underlying223 (keyOkB underlying23) rfl rfl rfl zC) ?_;refine O.opU rfl (.insertK (key:=2) underlying223 (keyOkB underlying23) rfl rfl rfl zC) ?_;refine O.opU rfl (.insertK (key:=4) underlying223 (keyOkB underlying23) rfl rfl rfl zC)<|zz 3 ?_;refine O.op (.p rfl) (.lookupK underlying223 (keyOkB underlying23) zeroValue3 rfl rfl zC) ?_;refine O.q 2 rfl<|O.slot 79 (v' :=.int .i64 2) rfl (by rw [e];rfl) ?_;refine O.q 1 rfl<|O.sT 80 rfl (by rw [e];rfl)<|zz 17 ?_
       refine O.cs 92 rfl (fun h92=>?_) fun h92=>?_
       ·refine zz 5 ?_
        refine O.cs 97 rfl (fun h97=>?_) fun h97=>?_
        ·refine zz 4 ?_
         refine O.cs 101 rfl (fun h101=>?_) fun h101=>?_
         ·refine O.q 6 rfl<|O.nil<|S.ret results79 rfl fun w hw=>Holds.end_ hR hw ?_
          first|exact ⟨_,⟨congrArg _ (zdf (fun w=>by have:=(nodeOk_4 hG e).1 w;omega)).symm,rfl⟩,zN⟩|exact ⟨_,⟨congrArg _ (zdt ((nodeOk_4 hG e).2 zB)).symm,rfl⟩,zN⟩|exact ⟨_,⟨congrArg _ (decide_eq_decide.2 ⟨fun h=>(nodeOk_4 hG e).2 zB,fun h=>by have:=(nodeOk_4 hG e).1 h;omega⟩),rfl⟩,zN⟩
         ·refine zz 3 ?_
          refine O.sT 104 rfl (by rw [e];rfl) ?_;refine O.q 3 rfl<|O.nil<|S.ret results79 rfl fun w hw=>Holds.end_ hR hw ?_
          first|exact ⟨_,⟨congrArg _ (zdf (fun w=>by have:=(nodeOk_4 hG e).1 w;omega)).symm,rfl⟩,zN⟩|exact ⟨_,⟨congrArg _ (zdt ((nodeOk_4 hG e).2 zB)).symm,rfl⟩,zN⟩|exact ⟨_,⟨congrArg _ (decide_eq_decide.2 ⟨fun h=>(nodeOk_4 hG e).2 zB,fun h=>by have:=(nodeOk_4 hG e).1 h;omega⟩),rfl⟩,zN⟩
        ·refine O.q 10 rfl<|O.nil<|S.ret results79 rfl fun w hw=>Holds.end_ hR hw ?_
         first|exact ⟨_,⟨congrArg _ (zdf (fun w=>by have:=(nodeOk_4 hG e).1 w;omega)).symm,rfl⟩,zN⟩|exact ⟨_,⟨congrArg _ (zdt ((nodeOk_4 hG e).2 zB)).symm,rfl⟩,zN⟩|exact ⟨_,⟨congrArg _ (decide_eq_decide.2 ⟨fun h=>(nodeOk_4 hG e).2 zB,fun h=>by have:=(nodeOk_4 hG e).1 h;omega⟩),rfl⟩,zN⟩
       ·refine O.q 15 rfl<|O.nil<|S.ret results79 rfl fun w hw=>Holds.end_ hR hw ?_
        first|exact ⟨_,⟨congrArg _ (zdf (fun w=>by have:=(nodeOk_4 hG e).1 w;omega)).symm,rfl⟩,zN⟩|exact ⟨_,⟨congrArg _ (zdt ((nodeOk_4 hG e).2 zB)).symm,rfl⟩,zN⟩|exact ⟨_,⟨congrArg _ (decide_eq_decide.2 ⟨fun h=>(nodeOk_4 hG e).2 zB,fun h=>by have:=(nodeOk_4 hG e).1 h;omega⟩),rfl⟩,zN⟩
      ·refine zz 14 ?_
       refine O.sF 67 rfl (by exact zdf fun w=>n3 (byte_eq (b:=3).1 w)) ?_;refine zz 5 ?_;refine O.opE (.p rfl) (.makeMapK' (enc:=encB)) ?_;rintro _ _ ⟨b74,rfl,rfl⟩;refine O.opU rfl (.insertK (key:=1) underlying223 (keyOkB underlying23) rfl rfl rfl zC) ?_;refine O.opU rfl (.insertK (key:=2) underlying223 (keyOkB underlying23) rfl rfl rfl zC) ?_;refine O.opU rfl (.insertK (key:=4) underlying223 (keyOkB underlying23) rfl rfl rfl zC)<|zz 3 ?_;refine O.op (.p rfl) (.lookupK underlying223 (keyOkB underlying23) zeroValue3 rfl rfl zC) ?_;refine O.q 2 rfl<|O.slot 79 (v' :=.int .i64 2) rfl (by rw [e];rfl) ?_;refine O.q 1 rfl<|O.sT 80 rfl (by rw [e];rfl)<|zz 17 ?_
       refine O.cs 92 rfl (fun h92=>?_) fun h92=>?_
       ·refine zz 5 ?_
        refine O.cs 97 rfl (fun h97=>?_) fun h97=>?_
        ·refine zz 4 ?_
         refine O.cs 101 rfl (fun h101=>?_) fun h101=>?_
         ·refine O.q 6 rfl<|O.nil<|S.ret results79 rfl fun w hw=>Holds.end_ hR hw ?_
          first|exact ⟨_,⟨congrArg _ (zdf (fun w=>by have:=(nodeOk_4 hG e).1 w;omega)).symm,rfl⟩,zN⟩|exact ⟨_,⟨congrArg _ (zdt ((nodeOk_4 hG e).2 zB)).symm,rfl⟩,zN⟩|exact ⟨_,⟨congrArg _ (decide_eq_decide.2 ⟨fun h=>(nodeOk_4 hG e).2 zB,fun h=>by have:=(nodeOk_4 hG e).1 h;omega⟩),rfl⟩,zN⟩
         ·refine zz 3 ?_
          refine O.sT 104 rfl (by rw [e];rfl) ?_;refine O.q 3 rfl<|O.nil<|S.ret results79 rfl fun w hw=>Holds.end_ hR hw ?_
          first|exact ⟨_,⟨congrArg _ (zdf (fun w=>by have:=(nodeOk_4 hG e).1 w;omega)).symm,rfl⟩,zN⟩|exact ⟨_,⟨congrArg _ (zdt ((nodeOk_4 hG e).2 zB)).symm,rfl⟩,zN⟩|exact ⟨_,⟨congrArg _ (decide_eq_decide.2 ⟨fun h=>(nodeOk_4 hG e).2 zB,fun h=>by have:=(nodeOk_4 hG e).1 h;omega⟩),rfl⟩,zN⟩
        ·refine O.q 10 rfl<|O.nil<|S.ret results79 rfl fun w hw=>Holds.end_ hR hw ?_
         first|exact ⟨_,⟨congrArg _ (zdf (fun w=>by have:=(nodeOk_4 hG e).1 w;omega)).symm,rfl⟩,zN⟩|exact ⟨_,⟨congrArg _ (zdt ((nodeOk_4 hG e).2 zB)).symm,rfl⟩,zN⟩|exact ⟨_,⟨congrArg _ (decide_eq_decide.2 ⟨fun h=>(nodeOk_4 hG e).2 zB,fun h=>by have:=(nodeOk_4 hG e).1 h;omega⟩),rfl⟩,zN⟩
       ·refine O.q 15 rfl<|O.nil<|S.ret results79 rfl fun w hw=>Holds.end_ hR hw ?_
        first|exact ⟨_,⟨congrArg _ (zdf (fun w=>by have:=(nodeOk_4 hG e).1 w;omega)).symm,rfl⟩,zN⟩|exact ⟨_,⟨congrArg _ (zdt ((nodeOk_4 hG e).2 zB)).symm,rfl⟩,zN⟩|exact ⟨_,⟨congrArg _ (decide_eq_decide.2 ⟨fun h=>(nodeOk_4 hG e).2 zB,fun h=>by have:=(nodeOk_4 hG e).1 h;omega⟩),rfl⟩,zN⟩
     ·have n4:=e
      have e:=nodeOk_5 n1 n2 n3 n4;refine zz 2 ?_;refine S.regionD (L:=.range 15) F.mixed zD ?_;refine zz 8 ?_
      refine OD.cs 59 rfl (fun h59=>?_) fun h59=>?_
      ·refine zz 14 ?_
       refine O.sF 67 rfl (by exact zdf fun w=>n3 (byte_eq (b:=3).1 w)) ?_;refine zz 5 ?_;refine O.opE (.p rfl) (.makeMapK' (enc:=encB)) ?_;rintro _ _ ⟨b74,rfl,rfl⟩;refine O.opU rfl (.insertK (key:=1) underlying223 (keyOkB underlying23) rfl rfl rfl zC) ?_;refine O.opU rfl (.insertK (key:=2) underlying223 (keyOkB underlying23) rfl rfl rfl zC) ?_;refine O.opU rfl (.insertK (key:=4) underlying223 (keyOkB underlying23) rfl rfl rfl zC)<|zz 3 ?_;refine O.op (.p rfl) (.lookupK underlying223 (keyOkB underlying23) zeroValue3 rfl rfl zC) ?_;refine O.q 3 rfl<|O.sF 80 rfl (by simp [getK,putK,n1,n2,n4,Ne.symm n1,Ne.symm n2,Ne.symm n4])<|zz 33 ?_;refine S.ret results79 rfl fun w hw=>Holds.end_ hR hw ?_
       first|exact ⟨_,⟨congrArg _ (zdf e).symm,rfl⟩,zN⟩
      ·refine zz 14 ?_
       refine O.sF 67 rfl (by exact zdf fun w=>n3 (byte_eq (b:=3).1 w)) ?_;refine zz 5 ?_;refine O.opE (.p rfl) (.makeMapK' (enc:=encB)) ?_;rintro _ _ ⟨b74,rfl,rfl⟩;refine O.opU rfl (.insertK (key:=1) underlying223 (keyOkB underlying23) rfl rfl rfl zC) ?_;refine O.opU rfl (.insertK (key:=2) underlying223 (keyOkB underlying23) rfl rfl rfl zC) ?_;refine O.opU rfl (.insertK (key:=4) underlying223 (keyOkB underlying23) rfl rfl rfl zC)<|zz 3 ?_;refine O.op (.p rfl) (.lookupK underlying223 (keyOkB underlying23) zeroValue3 rfl rfl zC) ?_;refine O.q 3 rfl<|O.sF 80 rfl (by simp [getK,putK,n1,n2,n4,Ne.symm n1,Ne.symm n2,Ne.symm n4])<|zz 33 ?_;refine S.ret results79 rfl fun w hw=>Holds.end_ hR hw ?_
       first|exact ⟨_,⟨congrArg _ (zdf e).symm,rfl⟩,zN⟩
end Go.Proofs.YtojafegjlahajaaGreatDoor
