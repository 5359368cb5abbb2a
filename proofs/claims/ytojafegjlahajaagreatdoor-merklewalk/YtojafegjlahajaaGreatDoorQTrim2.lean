/- Texts of this proof. -/
import Derived.Test.YtojafegjlahajaaGreatDoorQTmerk1
import Derived.Test.YtojafegjlahajaaGreatDoorQSpMapB
open Go Go.Sp Go.Proofs.Tryz
set_option maxRecDepth 100000
set_option maxHeartbeats 1000000
attribute [local irreducible] obj Own OwnP
namespace Go.Proofs.YtojafegjlahajaaGreatDoor
theorem leafOk_iff {x:LeafT}:leafOk x↔keyOk x.1∧0<x.2.1.length∧ofK x.1 x.2.1 :=
 ⟨fun ⟨h1,h2,h3,h4⟩=>⟨h1,h3,h2,fun _=>h4⟩,fun ⟨h1,h2,h3,h4⟩=>⟨h1,h3,h2,h4 h2⟩⟩
theorem not_leaves {n:NodeT} {i:Nat} (h:i<n.2.2.2.1.length) (q:¬ leafOk n.2.2.2.1[i]):decide (nodeOk n)=false:=zdf fun w=>q (w.1.1 _ (List.getElem_mem h))
theorem not_rises {n:NodeT} {i:Nat} (h:i<n.2.2.2.1.length) (h0:0<i) (q:¬ n.2.2.2.1[i - 1].1<n.2.2.2.1[i].1):decide (nodeOk n)=false:=zdf fun w=>q (w.1.2 i h h0)
def LG (x:NodeT) (k:Nat):Prop:=∀ i (q:i<x.2.2.2.1.length),i<k→leafOk x.2.2.2.1[i]∧(0<i→(x.2.2.2.1[i - 1]'zB).1<x.2.2.2.1[i].1)
theorem LG.step {x:NodeT} {k:Nat} (hk:k<x.2.2.2.1.length) (h:LG x k) (hl:leafOk x.2.2.2.1[k]) (hr:0<k→(x.2.2.2.1[k - 1]'zB).1<x.2.2.2.1[k].1):LG x (k+1):=fun i q w=>by
 rcases Nat.lt_or_ge i k with w' |w'
 ·exact h i q w'
 ·have:i=k:=by omega
  subst this;exact ⟨hl,hr⟩
theorem LG.all {x:NodeT} (h:LG x x.2.2.2.1.length):(∀ y∈x.2.2.2.1,leafOk y)∧keysRise (·.1) x.2.2.2.1 :=
 ⟨fun y hy=>by obtain ⟨i,q,rfl⟩:=List.mem_iff_getElem.1 hy;exact (h i q q).1,fun i q w=>(h i q q).2 w⟩
theorem len0 {α:Type} {l:List α}:l.length=0↔l=[]:=List.length_eq_zero_iff
theorem nodeOk_1 {x:NodeT} (hG:(∀ y∈x.2.2.2.1,leafOk y)∧keysRise (·.1) x.2.2.2.1) (e:x.1=1):nodeOk x↔x.2.1.length=0∧x.2.2.1.length=0∧x.2.2.2.1.length=0:=by
 unfold nodeOk;rw [e,len0,len0,len0];exact ⟨fun ⟨_,h⟩=>by rcases h with h|h|h|h;exact h.2;exact absurd h.1 zE;exact absurd h.1 zE;exact absurd h.1 zE,fun h=>⟨hG,.inl ⟨rfl,h⟩⟩⟩
theorem nodeOk_2 {x:NodeT} (hG:(∀ y∈x.2.2.2.1,leafOk y)∧keysRise (·.1) x.2.2.2.1) (e:x.1=2):nodeOk x↔x.2.1.length=0∧x.2.2.1.length=0∧x.2.2.2.1.length=1:=by
 unfold nodeOk;rw [e,len0,len0];exact ⟨fun ⟨_,h⟩=>by rcases h with h|h|h|h;exact absurd h.1 zE;exact h.2;exact absurd h.1 zE;exact absurd h.1 zE,fun h=>⟨hG,.inr (.inl ⟨rfl,h⟩)⟩⟩
theorem nodeOk_3 {x:NodeT} (hG:(∀ y∈x.2.2.2.1,leafOk y)∧keysRise (·.1) x.2.2.2.1) (e:x.1=3):nodeOk x↔x.2.1.length=64∧x.2.2.1.length=64∧x.2.2.2.1.length=0:=by
 unfold nodeOk;rw [e,len0];exact ⟨fun ⟨_,h⟩=>by rcases h with h|h|h|h;exact absurd h.1 zE;exact absurd h.1 zE;exact h.2;exact absurd h.1 zE,fun h=>⟨hG,.inr (.inr (.inl ⟨rfl,h⟩))⟩⟩
theorem nodeOk_4 {x:NodeT} (hG:(∀ y∈x.2.2.2.1,leafOk y)∧keysRise (·.1) x.2.2.2.1) (e:x.1=4):nodeOk x↔x.2.1.length=0∧x.2.2.1.length=0∧2≤x.2.2.2.1.length:=by
 unfold nodeOk;rw [e,len0,len0];exact ⟨fun ⟨_,h⟩=>by rcases h with h|h|h|h;exact absurd h.1 zE;exact absurd h.1 zE;exact absurd h.1 zE;exact h.2,fun h=>⟨hG,.inr (.inr (.inr ⟨rfl,h⟩))⟩⟩
theorem nodeOk_5 {x:NodeT} (e1:x.1≠1) (e2:x.1≠2) (e3:x.1≠3) (e4:x.1≠4):¬ nodeOk x:=fun ⟨_,h⟩=>by
 rcases h with h|h|h|h
 ·exact e1 h.1
 ·exact e2 h.1
 ·exact e3 h.1
 ·exact e4 h.1
theorem byte_eq {a b:UInt8}:((a.toNat:Int)=(b.toNat:Int))↔a=b:=⟨fun h=>u8_inj h,fun h=>by rw [h]⟩
theorem geS_false {a b:List UInt8} (h:a<b):(!Op.bytesLess (str a).toList (str b).toList)=false:=by rw [geqS_eq];exact zdf fun w=>w h
theorem geS_true {a b:List UInt8} (h:¬ a<b):(!Op.bytesLess (str a).toList (str b).toList)=true:=by rw [geqS_eq];exact zdt h
theorem mright_c {r:Fr} {cs:List Value} {x:NodeT} (h:NodeRp.rel r cs x) (hx0:x.2.1.length≤1000000000000∧x.2.2.1.length≤1000000000000) (hx2:∀ y∈x.2.2.2.1,y.2.1.length≤1000000000):Con prog 79 #[.agg cs.toArray] r [] (Ret fun v η=>v=.bool (decide (nodeOk x))∧η=[]):=by
 obtain ⟨a1,a2,a3,c1,c2,c3,rfl,k1,k2,k3⟩:=NodeRp.sh h;obtain ⟨hb5,hb6⟩:=hx0;refine Con.o func79 fun g hg R hR=>?_;have k1:=k1.mono hg;have k2:=k2.mono hg;have k3:=k3.mono hg;have hb:=k3.bound;have hb1:=k1.bound;have hb2:=k2.bound;refine S.seq<|S.region rfl<|O.opE (.p rfl) (.box (cs:=[_,_,_,_]) rfl rfl) ?_;rintro _ _ ⟨b1,rfl,rfl⟩;refine zz 4 ?_;refine S.objIs (b:=b1) (cs' :=[byteV x.1,.slice a1 x.2.1.length c1,.slice a2 x.2.2.1.length c2,.slice a3 x.2.2.2.1.length c3]) zD rfl ?_;refine S.frzO zD fun g hs hm h1=>?_;replace hg:=zfs hg hs;replace hR:=melted hR hm
 try replace k1:=k1.mono hs
 try replace k2:=k2.mono hs
 try replace k3:=k3.mono hs
 clear hs hm;refine zz 7 ?_;refine S.loopK (ι:=Nat) (fun k=>k≤x.2.2.2.1.length∧LG x k) (fun k=>[(12,.int .i64 (k:Int))]) [(1,_),(10,_),(11,_)] (fun k=>[]) (fun k=>x.2.2.2.1.length - k) (0) (by exact ⟨by omega,fun i q w=>by omega⟩) zq zq rfl fun k hx ih=>?_;have hm1:=meltRefl (g:=g);obtain ⟨hx1,hall⟩:=hx;refine zz 5 ?_;refine S.cd rfl (fun h13=>?_) fun h13=>?_
 ·have hk:k<x.2.2.2.1.length:=by omega
  have hset:=hx2 _ (List.getElem_mem hk);refine zz 6 ?_;refine O.iz (k3) (h:=fun p15 cs15 hp15 hr15=>?_);obtain ⟨l1,m1,rfl,l2,l3⟩:=LeafRp.sh hr15;have l3:=l3;refine O.op (.p rfl) (.loadAgg isAgg31 zC rfl hp15) ?_;refine O.opE (.p rfl) (.alloc (cs:=[.string ⟨#[]⟩,.slice none 0 0]) zeroValue31 rfl) ?_;rintro _ _ ⟨b4,rfl,rfl⟩;refine zz 2 ?_;refine O.nil<|S.seq<|S.objIs (b:=b4) (cs' :=[.string (str x.2.2.2.1[k].1),.slice l1 x.2.2.2.1[k].2.1.length m1]) zD rfl ?_;refine S.frzO zD fun g hs hm h4=>?_;replace hg:=zfs hg hs;replace hR:=melted hR hm
  try replace k1:=k1.mono hs
  try replace k2:=k2.mono hs
  try replace k3:=k3.mono hs
  try replace h1:=h1.mono hs
  try replace hp15:=hp15.mono hs
  try replace l3:=l3.mono hs
  try replace hp15:=hp15.mono hs
  replace hm1:=meltTrans hm1 hm;clear hs hm
  by_cases q1:keyOk x.2.2.2.1[k].1
  ·by_cases q2:0<x.2.2.2.1[k].2.1.length
   ·by_cases q3:ofK x.2.2.2.1[k].1 x.2.2.2.1[k].2.1
    ·have hlf:=leafOk_iff.2 ⟨q1,q2,q3⟩
     by_cases q4:0<k
     ·by_cases q5:(x.2.2.2.1[k - 1]'zB).1<x.2.2.2.1[k].1
      ·
       refine S.regionD (L:=.range 34) F.mixed zC ?_;refine zz 2 ?_;refine OD.v0 (.p rfl) zC rfl zC rfl rfl ((mlong_c zB)) ?_;refine OD.sT 19 rfl (by exact zdt q1)<|zz 6 ?_;refine OD.sF 25 rfl (by exact zdf zB)<|zz 6 ?_;refine OD.v0 (.g rfl rfl) zC rfl zC rfl rfl ((mof_c l3 zB)) ?_;refine OD.sT 32 rfl (by exact zdt q3)<|zz 5 ?_;refine OD.sT 37 rfl (by exact zdt zB)<|zz 5 ?_;refine OD.slot 42 (v' :=.int .i64 ((k - 1:Nat):Int)) rfl (by exact congrArg (Value.int .i64) zB) ?_;refine OD.ia (.g rfl rfl) underlying25 size31 rfl rfl (show _=(((k-1):Nat):Int) by omega) (k3) (h:=fun p43 cs43 hp43 hr43=>?_);obtain ⟨u1,w1,rfl, -, -⟩:=LeafRp.sh hr43;refine zz 4 ?_;refine .quiet (.g rfl rfl) rfl (fun _=>.geqS rfl rfl)<|OD.sF 48 rfl (by exact geS_false q5) ?_;refine zz 10 ?_;exact S.melt hm1 (S.wk (ih (k+1) (by exact ⟨by omega,hall.step hk hlf fun _=>q5⟩) zB))
      ·have e:=not_rises hk q4 q5
       refine S.regionD (L:=.range 34) F.mixed zC ?_;refine zz 2 ?_;refine OD.v0 (.p rfl) zC rfl zC rfl rfl ((mlong_c zB)) ?_;refine OD.sT 19 rfl (by exact zdt q1)<|zz 6 ?_;refine OD.sF 25 rfl (by exact zdf zB)<|zz 6 ?_;refine OD.v0 (.g rfl rfl) zC rfl zC rfl rfl ((mof_c l3 zB)) ?_;refine OD.sT 32 rfl (by exact zdt q3)<|zz 5 ?_;refine OD.sT 37 rfl (by exact zdt zB)<|zz 5 ?_;refine OD.slot 42 (v' :=.int .i64 ((k - 1:Nat):Int)) rfl (by exact congrArg (Value.int .i64) zB) ?_;refine OD.ia (.g rfl rfl) underlying25 size31 rfl rfl (show _=(((k-1):Nat):Int) by omega) (k3) (h:=fun p43 cs43 hp43 hr43=>?_);obtain ⟨u1,w1,rfl, -, -⟩:=LeafRp.sh hr43;refine zz 4 ?_;refine .quiet (.g rfl rfl) rfl (fun _=>.geqS rfl rfl)<|OD.sT 48 rfl (by exact geS_true q5) ?_;refine zz 8 ?_;exact S.rt results79 rfl hR ⟨congrArg Value.bool e.symm,rfl⟩
     ·
      refine S.regionD (L:=.range 34) F.mixed zC ?_;refine zz 2 ?_;refine OD.v0 (.p rfl) zC rfl zC rfl rfl ((mlong_c zB)) ?_;refine OD.sT 19 rfl (by exact zdt q1)<|zz 6 ?_;refine OD.sF 25 rfl (by exact zdf zB)<|zz 6 ?_;refine OD.v0 (.g rfl rfl) zC rfl zC rfl rfl ((mof_c l3 zB)) ?_;refine OD.sT 32 rfl (by exact zdt q3)<|zz 5 ?_;refine OD.sF 37 rfl (by exact zdf zB)<|zz 21 ?_;exact S.melt hm1 (S.wk (ih (k+1) (by exact ⟨by omega,hall.step hk hlf fun w=>absurd w q4⟩) zB))
    ·have e:=not_leaves hk fun w=>q3 (leafOk_iff.1 w).2.2
     refine S.regionD (L:=.range 34) F.mixed zC ?_;refine zz 2 ?_;refine OD.v0 (.p rfl) zC rfl zC rfl rfl ((mlong_c zB)) ?_;refine OD.sT 19 rfl (by exact zdt q1)<|zz 6 ?_;refine OD.sF 25 rfl (by exact zdf zB)<|zz 6 ?_;refine OD.v0 (.g rfl rfl) zC rfl zC rfl rfl ((mof_c l3 zB)) ?_;refine OD.sF 32 rfl (by exact zdf q3)<|zz 24 ?_;exact S.rt results79 rfl hR ⟨congrArg Value.bool e.symm,rfl⟩
   ·have e:=not_leaves hk fun w=>q2 (leafOk_iff.1 w).2.1
    refine S.regionD (L:=.range 34) F.mixed zC ?_;refine zz 2 ?_;refine OD.v0 (.p rfl) zC rfl zC rfl rfl ((mlong_c zB)) ?_;refine OD.sT 19 rfl (by exact zdt q1)<|zz 6 ?_;refine OD.sT 25 rfl (by exact zdt zB)<|zz 31 ?_;exact S.rt results79 rfl hR ⟨congrArg Value.bool e.symm,rfl⟩
  ·have e:=not_leaves hk fun w=>q1 (leafOk_iff.1 w).1
   refine S.regionD (L:=.range 34) F.mixed zC ?_;refine zz 2 ?_;refine OD.v0 (.p rfl) zC rfl zC rfl rfl ((mlong_c zB)) ?_;refine OD.sF 19 rfl (by exact zdf q1)<|zz 37 ?_;exact S.rt results79 rfl hR ⟨congrArg Value.bool e.symm,rfl⟩
 ·clear ih
  have hk:k=x.2.2.2.1.length:=by omega
  subst hk;have hG:=hall.all
  by_cases e:x.1=3
  ·
   refine zz 2 ?_;refine S.regionD (L:=.range 15) F.mixed zC ?_;refine zz 8 ?_
   refine OD.cs 59 rfl (fun h59=>?_) fun h59=>?_
   ·refine zz 14 ?_
    refine O.sT 67 rfl (by rw [e];rfl)<|zz 6 ?_
    refine O.cs 69 rfl (fun h69=>?_) fun h69=>?_
    ·refine zz 5 ?_
     refine S.ret results79 rfl fun w hw=>Holds.end_ hR hw ?_
     first|exact ⟨_,⟨congrArg _ (zdf (fun w=>by have:=(nodeOk_3 hG e).1 w;omega)).symm,rfl⟩,zP⟩|exact ⟨_,⟨congrArg _ (zdt ((nodeOk_3 hG e).2 zB)).symm,rfl⟩,zP⟩|exact ⟨_,⟨congrArg _ (decide_eq_decide.2 ⟨fun h=>(nodeOk_3 hG e).2 zB,fun h=>by have:=(nodeOk_3 hG e).1 h;omega⟩),rfl⟩,zP⟩
    ·refine O.q 4 rfl<|O.nil<|S.ret results79 rfl fun w hw=>Holds.end_ hR hw ?_
     first|exact ⟨_,⟨congrArg _ (zdf (fun w=>by have:=(nodeOk_3 hG e).1 w;omega)).symm,rfl⟩,zP⟩|exact ⟨_,⟨congrArg _ (zdt ((nodeOk_3 hG e).2 zB)).symm,rfl⟩,zP⟩|exact ⟨_,⟨congrArg _ (decide_eq_decide.2 ⟨fun h=>(nodeOk_3 hG e).2 zB,fun h=>by have:=(nodeOk_3 hG e).1 h;omega⟩),rfl⟩,zP⟩
   ·refine zz 14 ?_
    refine O.sT 67 rfl (by rw [e];rfl)<|zz 11 ?_;refine S.ret results79 rfl fun w hw=>Holds.end_ hR hw ?_
    first|exact ⟨_,⟨congrArg _ (zdf (fun w=>by have:=(nodeOk_3 hG e).1 w;omega)).symm,rfl⟩,zP⟩|exact ⟨_,⟨congrArg _ (zdt ((nodeOk_3 hG e).2 zB)).symm,rfl⟩,zP⟩|exact ⟨_,⟨congrArg _ (decide_eq_decide.2 ⟨fun h=>(nodeOk_3 hG e).2 zB,fun h=>by have:=(nodeOk_3 hG e).1 h;omega⟩),rfl⟩,zP⟩
  ·have n3:=e
   by_cases e:x.1=1
   ·
    refine zz 2 ?_;refine S.regionD (L:=.range 15) F.mixed zC ?_;refine zz 8 ?_
    refine OD.cs 59 rfl (fun h59=>?_) fun h59=>?_
    ·refine zz 14 ?_
     refine O.sF 67 rfl (by exact zdf fun w=>n3 (byte_eq (b:=3).1 w)) ?_;refine zz 5 ?_;refine O.opE (.p rfl) (.makeMapK' (enc:=encB)) ?_;rintro _ _ ⟨b74,rfl,rfl⟩;refine O.opU rfl (.insertK (key:=1) underlying223 (keyOkB underlying23) rfl rfl rfl zD) ?_;refine O.opU rfl (.insertK (key:=2) underlying223 (keyOkB underlying23) rfl rfl rfl zD) ?_;refine O.opU rfl (.insertK (key:=4) underlying223 (keyOkB underlying23) rfl rfl rfl zD)<|zz 3 ?_;refine O.op (.p rfl) (.lookupK underlying223 (keyOkB underlying23) zeroValue3 rfl rfl zD) ?_;refine O.q 2 rfl<|O.slot 79 (v' :=.int .i64 0) rfl (by rw [e];rfl) ?_;refine O.q 1 rfl<|O.sT 80 rfl (by rw [e];rfl)<|zz 17 ?_
     refine O.cs 92 rfl (fun h92=>?_) fun h92=>?_
     ·refine zz 5 ?_
      refine O.cs 97 rfl (fun h97=>?_) fun h97=>?_
      ·refine zz 4 ?_
       refine O.cs 101 rfl (fun h101=>?_) fun h101=>?_
       ·refine O.q 6 rfl<|O.nil<|S.ret results79 rfl fun w hw=>Holds.end_ hR hw ?_
        first|exact ⟨_,⟨congrArg _ (zdf (fun w=>by have:=(nodeOk_1 hG e).1 w;omega)).symm,rfl⟩,zP⟩|exact ⟨_,⟨congrArg _ (zdt ((nodeOk_1 hG e).2 zB)).symm,rfl⟩,zP⟩|exact ⟨_,⟨congrArg _ (decide_eq_decide.2 ⟨fun h=>(nodeOk_1 hG e).2 zB,fun h=>by have:=(nodeOk_1 hG e).1 h;omega⟩),rfl⟩,zP⟩
       ·refine zz 3 ?_
        refine O.sF 104 rfl (by rw [e];rfl) ?_;refine O.q 3 rfl<|O.nil<|S.ret results79 rfl fun w hw=>Holds.end_ hR hw ?_
        first|exact ⟨_,⟨congrArg _ (zdf (fun w=>by have:=(nodeOk_1 hG e).1 w;omega)).symm,rfl⟩,zP⟩|exact ⟨_,⟨congrArg _ (zdt ((nodeOk_1 hG e).2 zB)).symm,rfl⟩,zP⟩|exact ⟨_,⟨congrArg _ (decide_eq_decide.2 ⟨fun h=>(nodeOk_1 hG e).2 zB,fun h=>by have:=(nodeOk_1 hG e).1 h;omega⟩),rfl⟩,zP⟩
      ·refine O.q 10 rfl<|O.nil<|S.ret results79 rfl fun w hw=>Holds.end_ hR hw ?_
       first|exact ⟨_,⟨congrArg _ (zdf (fun w=>by have:=(nodeOk_1 hG e).1 w;omega)).symm,rfl⟩,zP⟩|exact ⟨_,⟨congrArg _ (zdt ((nodeOk_1 hG e).2 zB)).symm,rfl⟩,zP⟩|exact ⟨_,⟨congrArg _ (decide_eq_decide.2 ⟨fun h=>(nodeOk_1 hG e).2 zB,fun h=>by have:=(nodeOk_1 hG e).1 h;omega⟩),rfl⟩,zP⟩
     ·refine O.q 15 rfl<|O.nil<|S.ret results79 rfl fun w hw=>Holds.end_ hR hw ?_
      first|exact ⟨_,⟨congrArg _ (zdf (fun w=>by have:=(nodeOk_1 hG e).1 w;omega)).symm,rfl⟩,zP⟩|exact ⟨_,⟨congrArg _ (zdt ((nodeOk_1 hG e).2 zB)).symm,rfl⟩,zP⟩|exact ⟨_,⟨congrArg _ (decide_eq_decide.2 ⟨fun h=>(nodeOk_1 hG e).2 zB,fun h=>by have:=(nodeOk_1 hG e).1 h;omega⟩),rfl⟩,zP⟩
    ·refine zz 14 ?_
     refine O.sF 67 rfl (by exact zdf fun w=>n3 (byte_eq (b:=3).1 w)) ?_;refine zz 5 ?_;refine O.opE (.p rfl) (.makeMapK' (enc:=encB)) ?_;rintro _ _ ⟨b74,rfl,rfl⟩;refine O.opU rfl (.insertK (key:=1) underlying223 (keyOkB underlying23) rfl rfl rfl zD) ?_;refine O.opU rfl (.insertK (key:=2) underlying223 (keyOkB underlying23) rfl rfl rfl zD) ?_;refine O.opU rfl (.insertK (key:=4) underlying223 (keyOkB underlying23) rfl rfl rfl zD)<|zz 3 ?_;refine O.op (.p rfl) (.lookupK underlying223 (keyOkB underlying23) zeroValue3 rfl rfl zD) ?_;refine O.q 2 rfl<|O.slot 79 (v' :=.int .i64 0) rfl (by rw [e];rfl) ?_;refine O.q 1 rfl<|O.sT 80 rfl (by rw [e];rfl)<|zz 17 ?_
     refine O.cs 92 rfl (fun h92=>?_) fun h92=>?_
     ·refine zz 5 ?_
      refine O.cs 97 rfl (fun h97=>?_) fun h97=>?_
      ·refine zz 4 ?_
       refine O.cs 101 rfl (fun h101=>?_) fun h101=>?_
       ·refine O.q 6 rfl<|O.nil<|S.ret results79 rfl fun w hw=>Holds.end_ hR hw ?_
        first|exact ⟨_,⟨congrArg _ (zdf (fun w=>by have:=(nodeOk_1 hG e).1 w;omega)).symm,rfl⟩,zP⟩|exact ⟨_,⟨congrArg _ (zdt ((nodeOk_1 hG e).2 zB)).symm,rfl⟩,zP⟩|exact ⟨_,⟨congrArg _ (decide_eq_decide.2 ⟨fun h=>(nodeOk_1 hG e).2 zB,fun h=>by have:=(nodeOk_1 hG e).1 h;omega⟩),rfl⟩,zP⟩
       ·refine zz 3 ?_
        refine O.sF 104 rfl (by rw [e];rfl) ?_;refine O.q 3 rfl<|O.nil<|S.ret results79 rfl fun w hw=>Holds.end_ hR hw ?_
        first|exact ⟨_,⟨congrArg _ (zdf (fun w=>by have:=(nodeOk_1 hG e).1 w;omega)).symm,rfl⟩,zP⟩|exact ⟨_,⟨congrArg _ (zdt ((nodeOk_1 hG e).2 zB)).symm,rfl⟩,zP⟩|exact ⟨_,⟨congrArg _ (decide_eq_decide.2 ⟨fun h=>(nodeOk_1 hG e).2 zB,fun h=>by have:=(nodeOk_1 hG e).1 h;omega⟩),rfl⟩,zP⟩
      ·refine O.q 10 rfl<|O.nil<|S.ret results79 rfl fun w hw=>Holds.end_ hR hw ?_
       first|exact ⟨_,⟨congrArg _ (zdf (fun w=>by have:=(nodeOk_1 hG e).1 w;omega)).symm,rfl⟩,zP⟩|exact ⟨_,⟨congrArg _ (zdt ((nodeOk_1 hG e).2 zB)).symm,rfl⟩,zP⟩|exact ⟨_,⟨congrArg _ (decide_eq_decide.2 ⟨fun h=>(nodeOk_1 hG e).2 zB,fun h=>by have:=(nodeOk_1 hG e).1 h;omega⟩),rfl⟩,zP⟩
     ·refine O.q 15 rfl<|O.nil<|S.ret results79 rfl fun w hw=>Holds.end_ hR hw ?_
      first|exact ⟨_,⟨congrArg _ (zdf (fun w=>by have:=(nodeOk_1 hG e).1 w;omega)).symm,rfl⟩,zP⟩|exact ⟨_,⟨congrArg _ (zdt ((nodeOk_1 hG e).2 zB)).symm,rfl⟩,zP⟩|exact ⟨_,⟨congrArg _ (decide_eq_decide.2 ⟨fun h=>(nodeOk_1 hG e).2 zB,fun h=>by have:=(nodeOk_1 hG e).1 h;omega⟩),rfl⟩,zP⟩
   ·have n1:=e
    by_cases e:x.1=2
    ·
     refine zz 2 ?_;refine S.regionD (L:=.range 15) F.mixed zC ?_;refine zz 8 ?_
     refine OD.cs 59 rfl (fun h59=>?_) fun h59=>?_
     ·refine zz 14 ?_
      refine O.sF 67 rfl (by exact zdf fun w=>n3 (byte_eq (b:=3).1 w)) ?_;refine zz 5 ?_;refine O.opE (.p rfl) (.makeMapK' (enc:=encB)) ?_;rintro _ _ ⟨b74,rfl,rfl⟩;refine O.opU rfl (.insertK (key:=1) underlying223 (keyOkB underlying23) rfl rfl rfl zD) ?_;refine O.opU rfl (.insertK (key:=2) underlying223 (keyOkB underlying23) rfl rfl rfl zD) ?_;refine O.opU rfl (.insertK (key:=4) underlying223 (keyOkB underlying23) rfl rfl rfl zD)<|zz 3 ?_;refine O.op (.p rfl) (.lookupK underlying223 (keyOkB underlying23) zeroValue3 rfl rfl zD) ?_;refine O.q 2 rfl<|O.slot 79 (v' :=.int .i64 1) rfl (by rw [e];rfl) ?_;refine O.q 1 rfl<|O.sT 80 rfl (by rw [e];rfl)<|zz 17 ?_
      refine O.cs 92 rfl (fun h92=>?_) fun h92=>?_
      ·refine zz 5 ?_
       refine O.cs 97 rfl (fun h97=>?_) fun h97=>?_
       ·refine zz 4 ?_
        refine O.cs 101 rfl (fun h101=>?_) fun h101=>?_
        ·refine O.q 6 rfl<|O.nil<|S.ret results79 rfl fun w hw=>Holds.end_ hR hw ?_
         first|exact ⟨_,⟨congrArg _ (zdf (fun w=>by have:=(nodeOk_2 hG e).1 w;omega)).symm,rfl⟩,zP⟩|exact ⟨_,⟨congrArg _ (zdt ((nodeOk_2 hG e).2 zB)).symm,rfl⟩,zP⟩|exact ⟨_,⟨congrArg _ (decide_eq_decide.2 ⟨fun h=>(nodeOk_2 hG e).2 zB,fun h=>by have:=(nodeOk_2 hG e).1 h;omega⟩),rfl⟩,zP⟩
        ·refine zz 3 ?_
         refine O.sF 104 rfl (by rw [e];rfl) ?_;refine O.q 3 rfl<|O.nil<|S.ret results79 rfl fun w hw=>Holds.end_ hR hw ?_
         first|exact ⟨_,⟨congrArg _ (zdf (fun w=>by have:=(nodeOk_2 hG e).1 w;omega)).symm,rfl⟩,zP⟩|exact ⟨_,⟨congrArg _ (zdt ((nodeOk_2 hG e).2 zB)).symm,rfl⟩,zP⟩|exact ⟨_,⟨congrArg _ (decide_eq_decide.2 ⟨fun h=>(nodeOk_2 hG e).2 zB,fun h=>by have:=(nodeOk_2 hG e).1 h;omega⟩),rfl⟩,zP⟩
       ·refine O.q 10 rfl<|O.nil<|S.ret results79 rfl fun w hw=>Holds.end_ hR hw ?_
        first|exact ⟨_,⟨congrArg _ (zdf (fun w=>by have:=(nodeOk_2 hG e).1 w;omega)).symm,rfl⟩,zP⟩|exact ⟨_,⟨congrArg _ (zdt ((nodeOk_2 hG e).2 zB)).symm,rfl⟩,zP⟩|exact ⟨_,⟨congrArg _ (decide_eq_decide.2 ⟨fun h=>(nodeOk_2 hG e).2 zB,fun h=>by have:=(nodeOk_2 hG e).1 h;omega⟩),rfl⟩,zP⟩
      ·refine O.q 15 rfl<|O.nil<|S.ret results79 rfl fun w hw=>Holds.end_ hR hw ?_
       first|exact ⟨_,⟨congrArg _ (zdf (fun w=>by have:=(nodeOk_2 hG e).1 w;omega)).symm,rfl⟩,zP⟩|exact ⟨_,⟨congrArg _ (zdt ((nodeOk_2 hG e).2 zB)).symm,rfl⟩,zP⟩|exact ⟨_,⟨congrArg _ (decide_eq_decide.2 ⟨fun h=>(nodeOk_2 hG e).2 zB,fun h=>by have:=(nodeOk_2 hG e).1 h;omega⟩),rfl⟩,zP⟩
     ·refine zz 14 ?_
      refine O.sF 67 rfl (by exact zdf fun w=>n3 (byte_eq (b:=3).1 w)) ?_;refine zz 5 ?_;refine O.opE (.p rfl) (.makeMapK' (enc:=encB)) ?_;rintro _ _ ⟨b74,rfl,rfl⟩;refine O.opU rfl (.insertK (key:=1) underlying223 (keyOkB underlying23) rfl rfl rfl zD) ?_;refine O.opU rfl (.insertK (key:=2) underlying223 (keyOkB underlying23) rfl rfl rfl zD) ?_;refine O.opU rfl (.insertK (key:=4) underlying223 (keyOkB underlying23) rfl rfl rfl zD)<|zz 3 ?_;refine O.op (.p rfl) (.lookupK underlying223 (keyOkB underlying23) zeroValue3 rfl rfl zD) ?_;refine O.q 2 rfl<|O.slot 79 (v' :=.int .i64 1) rfl (by rw [e];rfl) ?_;refine O.q 1 rfl<|O.sT 80 rfl (by rw [e];rfl)<|zz 17 ?_
      refine O.cs 92 rfl (fun h92=>?_) fun h92=>?_
      ·refine zz 5 ?_
       refine O.cs 97 rfl (fun h97=>?_) fun h97=>?_
       ·refine zz 4 ?_
        refine O.cs 101 rfl (fun h101=>?_) fun h101=>?_
        ·refine O.q 6 rfl<|O.nil<|S.ret results79 rfl fun w hw=>Holds.end_ hR hw ?_
         first|exact ⟨_,⟨congrArg _ (zdf (fun w=>by have:=(nodeOk_2 hG e).1 w;omega)).symm,rfl⟩,zP⟩|exact ⟨_,⟨congrArg _ (zdt ((nodeOk_2 hG e).2 zB)).symm,rfl⟩,zP⟩|exact ⟨_,⟨congrArg _ (decide_eq_decide.2 ⟨fun h=>(nodeOk_2 hG e).2 zB,fun h=>by have:=(nodeOk_2 hG e).1 h;omega⟩),rfl⟩,zP⟩
        ·refine zz 3 ?_
         refine O.sF 104 rfl (by rw [e];rfl) ?_;refine O.q 3 rfl<|O.nil<|S.ret results79 rfl fun w hw=>Holds.end_ hR hw ?_
         first|exact ⟨_,⟨congrArg _ (zdf (fun w=>by have:=(nodeOk_2 hG e).1 w;omega)).symm,rfl⟩,zP⟩|exact ⟨_,⟨congrArg _ (zdt ((nodeOk_2 hG e).2 zB)).symm,rfl⟩,zP⟩|exact ⟨_,⟨congrArg _ (decide_eq_decide.2 ⟨fun h=>(nodeOk_2 hG e).2 zB,fun h=>by have:=(nodeOk_2 hG e).1 h;omega⟩),rfl⟩,zP⟩
       ·refine O.q 10 rfl<|O.nil<|S.ret results79 rfl fun w hw=>Holds.end_ hR hw ?_
        first|exact ⟨_,⟨congrArg _ (zdf (fun w=>by have:=(nodeOk_2 hG e).1 w;omega)).symm,rfl⟩,zP⟩|exact ⟨_,⟨congrArg _ (zdt ((nodeOk_2 hG e).2 zB)).symm,rfl⟩,zP⟩|exact ⟨_,⟨congrArg _ (decide_eq_decide.2 ⟨fun h=>(nodeOk_2 hG e).2 zB,fun h=>by have:=(nodeOk_2 hG e).1 h;omega⟩),rfl⟩,zP⟩
      ·refine O.q 15 rfl<|O.nil<|S.ret results79 rfl fun w hw=>Holds.end_ hR hw ?_
       first|exact ⟨_,⟨congrArg _ (zdf (fun w=>by have:=(nodeOk_2 hG e).1 w;omega)).symm,rfl⟩,zP⟩|exact ⟨_,⟨congrArg _ (zdt ((nodeOk_2 hG e).2 zB)).symm,rfl⟩,zP⟩|exact ⟨_,⟨congrArg _ (decide_eq_decide.2 ⟨fun h=>(nodeOk_2 hG e).2 zB,fun h=>by have:=(nodeOk_2 hG e).1 h;omega⟩),rfl⟩,zP⟩
    ·have n2:=e
     by_cases e:x.1=4
     ·
      refine zz 2 ?_;refine S.regionD (L:=.range 15) F.mixed zC ?_;refine zz 8 ?_
      refine OD.cs 59 rfl (fun h59=>?_) fun h59=>?_
      ·refine zz 14 ?_
       refine O.sF 67 rfl (by exact zdf fun w=>n3 (byte_eq (b:=3).1 w)) ?_;refine zz 5 ?_;refine O.opE (.p rfl) (.makeMapK' (enc:=encB)) ?_;rintro _ _ ⟨b74,rfl,rfl⟩;refine O.opU rfl (.insertK (key:=1) underlying223 (keyOkB underlying23) rfl rfl rfl zD) ?_;refine O.opU rfl (.insertK (key:=2) underlying223 (keyOkB underlying23) rfl rfl rfl zD) ?_;refine O.opU rfl (.insertK (key:=4) underlying223 (keyOkB underlying23) rfl rfl rfl zD)<|zz 3 ?_;refine O.op (.p rfl) (.lookupK underlying223 (keyOkB underlying23) zeroValue3 rfl rfl zD) ?_;refine O.q 2 rfl<|O.slot 79 (v' :=.int .i64 2) rfl (by rw [e];rfl) ?_;refine O.q 1 rfl<|O.sT 80 rfl (by rw [e];rfl)<|zz 17 ?_
       refine O.cs 92 rfl (fun h92=>?_) fun h92=>?_
       ·refine zz 5 ?_
        refine O.cs 97 rfl (fun h97=>?_) fun h97=>?_
        ·refine zz 4 ?_
         refine O.cs 101 rfl (fun h101=>?_) fun h101=>?_
         ·refine O.q 6 rfl<|O.nil<|S.ret results79 rfl fun w hw=>Holds.end_ hR hw ?_
          first|exact ⟨_,⟨congrArg _ (zdf (fun w=>by have:=(nodeOk_4 hG e).1 w;omega)).symm,rfl⟩,zP⟩|exact ⟨_,⟨congrArg _ (zdt ((nodeOk_4 hG e).2 zB)).symm,rfl⟩,zP⟩|exact ⟨_,⟨congrArg _ (decide_eq_decide.2 ⟨fun h=>(nodeOk_4 hG e).2 zB,fun h=>by have:=(nodeOk_4 hG e).1 h;omega⟩),rfl⟩,zP⟩
         ·refine zz 3 ?_
          refine O.sT 104 rfl (by rw [e];rfl) ?_;refine O.q 3 rfl<|O.nil<|S.ret results79 rfl fun w hw=>Holds.end_ hR hw ?_
          first|exact ⟨_,⟨congrArg _ (zdf (fun w=>by have:=(nodeOk_4 hG e).1 w;omega)).symm,rfl⟩,zP⟩|exact ⟨_,⟨congrArg _ (zdt ((nodeOk_4 hG e).2 zB)).symm,rfl⟩,zP⟩|exact ⟨_,⟨congrArg _ (decide_eq_decide.2 ⟨fun h=>(nodeOk_4 hG e).2 zB,fun h=>by have:=(nodeOk_4 hG e).1 h;omega⟩),rfl⟩,zP⟩
        ·refine O.q 10 rfl<|O.nil<|S.ret results79 rfl fun w hw=>Holds.end_ hR hw ?_
         first|exact ⟨_,⟨congrArg _ (zdf (fun w=>by have:=(nodeOk_4 hG e).1 w;omega)).symm,rfl⟩,zP⟩|exact ⟨_,⟨congrArg _ (zdt ((nodeOk_4 hG e).2 zB)).symm,rfl⟩,zP⟩|exact ⟨_,⟨congrArg _ (decide_eq_decide.2 ⟨fun h=>(nodeOk_4 hG e).2 zB,fun h=>by have:=(nodeOk_4 hG e).1 h;omega⟩),rfl⟩,zP⟩
       ·refine O.q 15 rfl<|O.nil<|S.ret results79 rfl fun w hw=>Holds.end_ hR hw ?_
        first|exact ⟨_,⟨congrArg _ (zdf (fun w=>by have:=(nodeOk_4 hG e).1 w;omega)).symm,rfl⟩,zP⟩|exact ⟨_,⟨congrArg _ (zdt ((nodeOk_4 hG e).2 zB)).symm,rfl⟩,zP⟩|exact ⟨_,⟨congrArg _ (decide_eq_decide.2 ⟨fun h=>(nodeOk_4 hG e).2 zB,fun h=>by have:=(nodeOk_4 hG e).1 h;omega⟩),rfl⟩,zP⟩
      ·refine zz 14 ?_
       refine O.sF 67 rfl (by exact zdf fun w=>n3 (byte_eq (b:=3).1 w)) ?_;refine zz 5 ?_;refine O.opE (.p rfl) (.makeMapK' (enc:=encB)) ?_;rintro _ _ ⟨b74,rfl,rfl⟩;refine O.opU rfl (.insertK (key:=1) underlying223 (keyOkB underlying23) rfl rfl rfl zD) ?_;refine O.opU rfl (.insertK (key:=2) underlying223 (keyOkB underlying23) rfl rfl rfl zD) ?_;refine O.opU rfl (.insertK (key:=4) underlying223 (keyOkB underlying23) rfl rfl rfl zD)<|zz 3 ?_;refine O.op (.p rfl) (.lookupK underlying223 (keyOkB underlying23) zeroValue3 rfl rfl zD) ?_;refine O.q 2 rfl<|O.slot 79 (v' :=.int .i64 2) rfl (by rw [e];rfl) ?_;refine O.q 1 rfl<|O.sT 80 rfl (by rw [e];rfl)<|zz 17 ?_
       refine O.cs 92 rfl (fun h92=>?_) fun h92=>?_
       ·refine zz 5 ?_
        refine O.cs 97 rfl (fun h97=>?_) fun h97=>?_
        ·refine zz 4 ?_
         refine O.cs 101 rfl (fun h101=>?_) fun h101=>?_
         ·refine O.q 6 rfl<|O.nil<|S.ret results79 rfl fun w hw=>Holds.end_ hR hw ?_
          first|exact ⟨_,⟨congrArg _ (zdf (fun w=>by have:=(nodeOk_4 hG e).1 w;omega)).symm,rfl⟩,zP⟩|exact ⟨_,⟨congrArg _ (zdt ((nodeOk_4 hG e).2 zB)).symm,rfl⟩,zP⟩|exact ⟨_,⟨congrArg _ (decide_eq_decide.2 ⟨fun h=>(nodeOk_4 hG e).2 zB,fun h=>by have:=(nodeOk_4 hG e).1 h;omega⟩),rfl⟩,zP⟩
         ·refine zz 3 ?_
          refine O.sT 104 rfl (by rw [e];rfl) ?_;refine O.q 3 rfl<|O.nil<|S.ret results79 rfl fun w hw=>Holds.end_ hR hw ?_
          first|exact ⟨_,⟨congrArg _ (zdf (fun w=>by have:=(nodeOk_4 hG e).1 w;omega)).symm,rfl⟩,zP⟩|exact ⟨_,⟨congrArg _ (zdt ((nodeOk_4 hG e).2 zB)).symm,rfl⟩,zP⟩|exact ⟨_,⟨congrArg _ (decide_eq_decide.2 ⟨fun h=>(nodeOk_4 hG e).2 zB,fun h=>by have:=(nodeOk_4 hG e).1 h;omega⟩),rfl⟩,zP⟩
        ·refine O.q 10 rfl<|O.nil<|S.ret results79 rfl fun w hw=>Holds.end_ hR hw ?_
         first|exact ⟨_,⟨congrArg _ (zdf (fun w=>by have:=(nodeOk_4 hG e).1 w;omega)).symm,rfl⟩,zP⟩|exact ⟨_,⟨congrArg _ (zdt ((nodeOk_4 hG e).2 zB)).symm,rfl⟩,zP⟩|exact ⟨_,⟨congrArg _ (decide_eq_decide.2 ⟨fun h=>(nodeOk_4 hG e).2 zB,fun h=>by have:=(nodeOk_4 hG e).1 h;omega⟩),rfl⟩,zP⟩
       ·refine O.q 15 rfl<|O.nil<|S.ret results79 rfl fun w hw=>Holds.end_ hR hw ?_
        first|exact ⟨_,⟨congrArg _ (zdf (fun w=>by have:=(nodeOk_4 hG e).1 w;omega)).symm,rfl⟩,zP⟩|exact ⟨_,⟨congrArg _ (zdt ((nodeOk_4 hG e).2 zB)).symm,rfl⟩,zP⟩|exact ⟨_,⟨congrArg _ (decide_eq_decide.2 ⟨fun h=>(nodeOk_4 hG e).2 zB,fun h=>by have:=(nodeOk_4 hG e).1 h;omega⟩),rfl⟩,zP⟩
     ·have n4:=e
      have e:=nodeOk_5 n1 n2 n3 n4;refine zz 2 ?_;refine S.regionD (L:=.range 15) F.mixed zC ?_;refine zz 8 ?_
      refine OD.cs 59 rfl (fun h59=>?_) fun h59=>?_
      ·refine zz 14 ?_
       refine O.sF 67 rfl (by exact zdf fun w=>n3 (byte_eq (b:=3).1 w)) ?_;refine zz 5 ?_;refine O.opE (.p rfl) (.makeMapK' (enc:=encB)) ?_;rintro _ _ ⟨b74,rfl,rfl⟩;refine O.opU rfl (.insertK (key:=1) underlying223 (keyOkB underlying23) rfl rfl rfl zD) ?_;refine O.opU rfl (.insertK (key:=2) underlying223 (keyOkB underlying23) rfl rfl rfl zD) ?_;refine O.opU rfl (.insertK (key:=4) underlying223 (keyOkB underlying23) rfl rfl rfl zD)<|zz 3 ?_;refine O.op (.p rfl) (.lookupK underlying223 (keyOkB underlying23) zeroValue3 rfl rfl zD) ?_;refine O.q 3 rfl<|O.sF 80 rfl (by simp [getK,putK,n1,n2,n4,Ne.symm n1,Ne.symm n2,Ne.symm n4])<|zz 33 ?_;refine S.ret results79 rfl fun w hw=>Holds.end_ hR hw ?_
       first|exact ⟨_,⟨congrArg _ (zdf e).symm,rfl⟩,zP⟩
      ·refine zz 14 ?_
       refine O.sF 67 rfl (by exact zdf fun w=>n3 (byte_eq (b:=3).1 w)) ?_;refine zz 5 ?_;refine O.opE (.p rfl) (.makeMapK' (enc:=encB)) ?_;rintro _ _ ⟨b74,rfl,rfl⟩;refine O.opU rfl (.insertK (key:=1) underlying223 (keyOkB underlying23) rfl rfl rfl zD) ?_;refine O.opU rfl (.insertK (key:=2) underlying223 (keyOkB underlying23) rfl rfl rfl zD) ?_;refine O.opU rfl (.insertK (key:=4) underlying223 (keyOkB underlying23) rfl rfl rfl zD)<|zz 3 ?_;refine O.op (.p rfl) (.lookupK underlying223 (keyOkB underlying23) zeroValue3 rfl rfl zD) ?_;refine O.q 3 rfl<|O.sF 80 rfl (by simp [getK,putK,n1,n2,n4,Ne.symm n1,Ne.symm n2,Ne.symm n4])<|zz 33 ?_;refine S.ret results79 rfl fun w hw=>Holds.end_ hR hw ?_
       first|exact ⟨_,⟨congrArg _ (zdf e).symm,rfl⟩,zP⟩
theorem owned_one {α:Type} {T:Rp α} {e:TypeId} {v:Value} {xs:List α} {m:Fr} (h:Sat [OwnP T e v xs] m):Arr T m v xs:=by
 obtain ⟨m1,_,_,s1,_,o,_⟩:=h;exact (OwnP.arr o).mono s1
theorem each_arr {α:Type} {T:Rp α} {e:TypeId} {vs:List Value} {xs:List (List α)} {m k:Fr} (s:m.sub k) (x:EachP (OwnP T e) vs xs m):All2 (Arr T k) vs xs:=EachP.all2 (R:=fun v a=>Arr T k v a) (fun _ _ _ z w=>Arr.mono w (OwnP.arr z)) x s
theorem each_two {β α:Type} {A:β→α→SProp} {bs:List β} {ys:List α} {b1 b2:β} {a1 a2:α} {m:Fr} (st:Sat [EachP A bs ys,A b1 a1,A b2 a2] m):EachP A (bs++[b1,b2]) (ys++[a1,a2]) m:=by
 obtain ⟨h1,h2,d,s1,s2,x,y⟩:=st;exact EachP.app ⟨h1,h2,d,s1,s2,x,h2,Fr.emp,Fr.disj_symm (Fr.emp_disj _),Fr.sub_refl _,Fr.emp_sub _,EachP.of_sat (A:=A) (bs:=[b1,b2]) rfl y,trivial⟩
theorem nodeTag_val {k:UInt8} (h:k.toNat<5):byteV ([0,0,1,2,3]:List UInt8)[k.toNat]=byteV (nodeTag k):=by
 unfold nodeTag;rw [List.getD_eq_getElem?_getD,List.getElem?_eq_getElem (show k.toNat<([0,0,1,2,3]:List UInt8).length from h)]
 rfl
theorem nodeSum_c {r:Fr} {cs:List Value} {x:NodeT} (h:NodeRp.rel r cs x) (hx0:x.2.1.length≤1000000000000∧x.2.2.1.length≤1000000000000) (hx2:x.2.2.2.1.length≤10000000∧∀ y∈x.2.2.2.1,y.2.1.length≤10000000) (hH:At r ⟨0,0,none⟩ (w64s shaH)) (hK:At r ⟨1,0,none⟩ (w64s shaK)) :
  Con prog 22 #[.agg cs.toArray] r [] (Ret fun v η=>∃ a c,v=.slice a (nodeSumP x).length c∧η=[OwnP Rp.u8 5 (.slice a (nodeSumP x).length c) (nodeSumP x)]):=by
 have h0:=h;obtain ⟨a1,a2,a3,c1,c2,c3,rfl,k1,k2,k3⟩:=NodeRp.sh h;refine Con.of (n:=40) _ rfl func22 rfl rfl rfl fun g hg R hR=>?_;have h:=h.mono hg;have h0:=h0.mono hg;have k1:=k1.mono hg;have k2:=k2.mono hg;have k3:=k3.mono hg;have hH:=hH.mono hg;have hK:=hK.mono hg;have hb:=k3.bound;refine S.seq<|S.region rfl<|O.opE (.p rfl) (.box (cs:=[_,_,_,_]) rfl rfl) ?_;rintro _ _ ⟨b1,rfl,rfl⟩;refine O.q 1 rfl<|O.nil<|S.seq<|S.seq<|S.objIs (b:=b1) (cs' :=[byteV x.1,.slice a1 x.2.1.length c1,.slice a2 x.2.2.1.length c2,.slice a3 x.2.2.2.1.length c3]) zD rfl ?_;refine S.frzO zD fun g hs hm h1=>?_;replace hg:=Fr.sub_trans hg hs;replace hR:=melted hR hm
 try replace h:=h.mono hs
 try replace h0:=h0.mono hs
 try replace k1:=k1.mono hs
 try replace k2:=k2.mono hs
 try replace k3:=k3.mono hs
 try replace hH:=hH.mono hs
 try replace hK:=hK.mono hs
 clear hs hm
 by_cases e:nodeOk x
 ·have hkd:=node_kind e
  have hkeys:∀ y∈x.2.2.2.1,y.1.length≤64:=fun y hy=>(e.1.1 y hy).1.2;have h64:x.2.1.length≤64∧x.2.2.1.length≤64:=by rcases e.2 with q|q|q|q;rw [q.2.1,q.2.2.1];decide;rw [q.2.1,q.2.2.1];decide;omega;rw [q.2.1,q.2.2.1];decide
  refine S.region rfl<|O.op (.p rfl) (.loadAgg isAgg27 zC rfl h1) ?_;refine O.call0 (.p rfl) rfl zC rfl rfl ((mright_c h0 hx0 (fun y hy=>by have:=hx2.2 y hy;omega))) ?_;rintro _ _ ⟨rfl,rfl⟩
  try simp only [zx1,zx2,zx3]
  refine O.sT 7 rfl (by exact decide_eq_true e) ?_;refine O.op (.p rfl) (.not rfl)<|O.nil<|S.condF rfl<|S.skip<|S.seq<|S.regionD (L:=[1,2,6,7,8,9,0,3,4,5,10,11]) F.mixed zC ?_;refine .quiet (.p rfl) rfl (fun _=>.fieldAddr fld27x0 rfl)<|.quiet (.p rfl) rfl (fun _=>.loadAt flat23 rfl h1 rfl) ?_;refine .quiet (.p rfl) rfl (fun _=>.fieldAddr fld27x1 rfl)<|.quiet (.p rfl) rfl (fun _=>.loadAt flat24 rfl (h1.drop 1) rfl) ?_;refine .quiet (.p rfl) rfl (fun _=>.fieldAddr fld27x2 rfl)<|.quiet (.p rfl) rfl (fun _=>.loadAt flat24 rfl (h1.drop 2) rfl) ?_;refine OD.litP (T:=Rp.u8) (ys:=[0,0,1,2,3]) (.p rfl) zC underlying24 elem5 zE rfl rfl ⟨rfl,rfl,rfl,rfl,rfl,trivial⟩ zE (fun a9 c9=>?_);refine OD.idxOwn (T:=Rp.u8) (e:=5) (v:=.slice a9 5 c9) (xs:=[0,0,1,2,3]) (j:=x.1.toNat) (.p rfl) zC underlying24 size5 rfl rfl rfl zD hkd (fun p12 hp12=>?_);refine OD.loadL (.p rfl) zC (fun _=>.loadOwn (T:=Rp.u8) (xs:=[0,0,1,2,3]) (j:=x.1.toNat) flat5 rfl hp12 rfl zD hkd (by rintro _ rfl;exact congrArg (fun v=>[v]) (nodeTag_val hkd))) ?_;refine OD.litP (.p rfl) zC (T:=Rp.u8) (ys:=[nodeTag x.1]) underlying24 elem5 zE rfl rfl ⟨rfl,trivial⟩ zE (fun a14 c14=>?_)
  refine OD.litP (.p rfl) zC (T:=Rp.val) (ys:=[.slice a14 1 c14,.slice a1 x.2.1.length c1,.slice a2 x.2.2.1.length c2]) underlying109 elem24 zE rfl rfl ⟨⟨rfl,rfl⟩,⟨rfl,rfl⟩,⟨rfl,rfl⟩,trivial⟩ zE (fun a19 c19=>?_);refine OD.q 1 rfl<|ODx.nil<|S.seq<|S.seq<|S.frz (A:=OwnP Rp.u8 5 (.slice a14 1 c14) [nodeTag x.1]) zD fun g hs hm ⟨_,x',s'⟩=>?_;have ht:=(fun s x=>Arr.mono s (OwnP.arr x)) s' x';clear x' s';replace hg:=Fr.sub_trans hg hs;replace hR:=melted hR hm
  try replace h:=h.mono hs
  try replace h0:=h0.mono hs
  try replace k1:=k1.mono hs
  try replace k2:=k2.mono hs
  try replace k3:=k3.mono hs
  try replace hH:=hH.mono hs
  try replace hK:=hK.mono hs
  try replace h1:=h1.mono hs
  clear hs hm;refine S.frz (A:=OwnP Rp.u8 5 (.slice a9 5 c9) [0,0,1,2,3]) zD fun g hs hm ⟨_,x',s'⟩=>?_;have h9:=(fun s x=>Arr.mono s (OwnP.arr x)) s' x';clear x' s';replace hg:=Fr.sub_trans hg hs;replace hR:=melted hR hm
  try replace h:=h.mono hs
  try replace h0:=h0.mono hs
  try replace k1:=k1.mono hs
  try replace k2:=k2.mono hs
  try replace k3:=k3.mono hs
  try replace hH:=hH.mono hs
  try replace hK:=hK.mono hs
  try replace h1:=h1.mono hs
  try replace ht:=ht.mono hs
  clear hs hm;refine S.foldS (A:=EachP (OwnP Rp.u8 5) [] (leafParts (x.2.2.2.1.take 0))) (bs:=[]) .nil (fun m _=>trivial) ?_;refine S.region rfl<|O.op (.p rfl) (.fieldAddr fld27x3 rfl)<|O.op (.p rfl) (.loadAt flat25 rfl (h1.drop 3) rfl) ?_;refine O.op (.p rfl) (.len rfl underlying25 rfl)<|O.q 1 rfl<|O.nil<|S.block<|S.loopK3 (ι:=Nat) (κ:=Option Addr × Nat) (υ:=List Value) (fun k s vs=>k≤x.2.2.2.1.length∧vs.length=2*k) (fun k s vs=>[(23,.int .i64 (k:Int)),(3,.slice s.1 (3+2*k) s.2)]) [(21,_),(22,_)] (fun k s vs=>[EachP (OwnP Rp.u8 5) vs (leafParts (x.2.2.2.1.take k)),OwnP Rp.val 24 (.slice s.1 (3+2*k) s.2) ([.slice a14 1 c14,.slice a1 x.2.1.length c1,.slice a2 x.2.2.1.length c2]++vs)]) (fun k s vs=>x.2.2.2.1.length - k) (0) ((a19,c19)) ([]) (by exact ⟨by omega,rfl⟩) (.cons rfl (.cons rfl (.nil))) (.cons rfl (.cons rfl (.nil))) rfl fun k s vs hx ih=>?_;have hm1:=meltRefl (g:=g);obtain ⟨hx1,hvl⟩:=hx;refine S.seq<|S.region rfl<|O.op (.p rfl) (.lss rfl rfl)<|O.nil (S.seq ?_)
  first|refine S.condD rfl (fun h24=>?_) (fun h24=>?_)|refine S.condB rfl (fun h24=>?_) (fun h24=>?_)
  ·have hk:k<x.2.2.2.1.length:=by omega
   have hset:=hx2.2 _ (List.getElem_mem hk);have hkey:=hkeys _ (List.getElem_mem hk);have hsn:=leafParts_snoc hk;refine S.skip<|S.seq<|S.block<|S.seq<|S.region rfl<|O.ia (.p rfl) underlying25 size31 rfl rfl rfl (k3) (h:=fun p25 cs25 hp25 hr25=>?_);obtain ⟨l1,m1,rfl,l2,l3⟩:=LeafRp.sh hr25;have l3:=l3;refine O.op (.p rfl) (.loadAgg isAgg31 zC rfl hp25) ?_;refine O.opE (.p rfl) (.alloc (cs:=[.string ⟨#[]⟩,.slice none 0 0]) zeroValue31 rfl) ?_;rintro _ _ ⟨b5,rfl,rfl⟩;refine O.opU rfl (.storeObj zC rfl rfl rfl rfl zD zM) ?_;refine O.nil ?_;generalize x.2.2.2.1[k]=y at *;refine S.objIs (b:=b5) (cs' :=[.string (str y.1),.slice l1 y.2.1.length m1]) zD rfl ?_;refine S.frzO zD fun g hs hm h5=>?_;replace hg:=Fr.sub_trans hg hs;replace hR:=melted hR hm
   try replace h:=h.mono hs
   try replace h0:=h0.mono hs
   try replace k1:=k1.mono hs
   try replace k2:=k2.mono hs
   try replace k3:=k3.mono hs
   try replace hH:=hH.mono hs
   try replace hK:=hK.mono hs
   try replace h1:=h1.mono hs
   try replace ht:=ht.mono hs
   try replace h9:=h9.mono hs
   try replace hp25:=hp25.mono hs
   try replace l3:=l3.mono hs
   replace hm1:=meltTrans hm1 hm;clear hs hm;refine S.regionD (L:=[0,1,2,5,6,3,4,7,8,9,10]) F.mixed zC ?_;refine OD.q 1 rfl<|.quiet (.p rfl) rfl (fun _=>.fieldAddr fld31x0 rfl)<|.quiet (.p rfl) rfl (fun _=>.loadAt flat9 rfl h5 rfl) ?_;refine .quiet (.p rfl) rfl (fun _=>.fieldAddr fld31x1 rfl)<|.quiet (.p rfl) rfl (fun _=>.loadAt flat22 rfl (h5.drop 1) rfl) ?_;refine OD.strBytesO (.p rfl) zC underlying9 underlying24 underlying5 rfl (by first|assumption|omega|(simp;done)|(simp;omega)) (fun a30 c30=>?_);refine OD.callB (.p rfl) zC rfl zC rfl rfl (bs:=[OwnP Rp.u8 5 (.slice a30 y.1.length c30) y.1]) zG (fun m hm hd=>wBytes_c ((owned_one hm).right hd) zB) ?_;rintro _ _ ⟨a31,c31,rfl,rfl⟩
   try simp only [zx1,zx2,zx3]
   refine OD.call0 (.p rfl) zC rfl zC rfl rfl ((setSum_c l3 hH hK hset)) ?_;rintro _ _ ⟨a34,c34,rfl,rfl⟩
   try simp only [zx1,zx2,zx3]
   refine OD.litP (.p rfl) zC (T:=Rp.val) (ys:=[.slice a31 (bytesOf y.1).length c31,.slice a34 (setD y.2.1).length c34]) underlying109 elem24 zE rfl rfl ⟨⟨rfl,rfl⟩,⟨rfl,rfl⟩,trivial⟩ zE (fun a35 c35=>?_);refine OD.appendO (.p rfl) zC (T:=Rp.val) underlying109 elem24 zE rfl rfl zD zD zH zH (fun a36 c36=>?_);refine OD.q 1 rfl<|ODx.nil<|S.inBlock<|S.foldS (A:=EachP (OwnP Rp.u8 5) (vs++[.slice a31 (bytesOf y.1).length c31,.slice a34 (setD y.2.1).length c34]) (leafParts (x.2.2.2.1.take (k+1)))) (bs:=[EachP (OwnP Rp.u8 5) vs (leafParts (x.2.2.2.1.take k)),OwnP Rp.u8 5 (.slice a31 (bytesOf y.1).length c31) (bytesOf y.1),OwnP Rp.u8 5 (.slice a34 (setD y.2.1).length c34) (setD y.2.1)]) zG (fun m st=>by rw [← hsn];exact each_two st) ?_;refine S.frz (A:=OwnP Rp.u8 5 (.slice a30 y.1.length c30) y.1) zD fun g hs hm ⟨_,x',s'⟩=>?_;have hg0:=(fun s x=>Arr.mono s (OwnP.arr x)) s' x';clear x' s';replace hg:=Fr.sub_trans hg hs;replace hR:=melted hR hm
   try replace h:=h.mono hs
   try replace h0:=h0.mono hs
   try replace k1:=k1.mono hs
   try replace k2:=k2.mono hs
   try replace k3:=k3.mono hs
   try replace hH:=hH.mono hs
   try replace hK:=hK.mono hs
   try replace h1:=h1.mono hs
   try replace ht:=ht.mono hs
   try replace h9:=h9.mono hs
   try replace hp25:=hp25.mono hs
   try replace l3:=l3.mono hs
   try replace h5:=h5.mono hs
   replace hm1:=meltTrans hm1 hm;clear hs hm;refine S.ownIs (T:=Rp.val) (e:=24) (v' :=.slice a36 (3+2*(k+1)) c36) (xs' :=[.slice a14 1 c14,.slice a1 x.2.1.length c1,.slice a2 x.2.2.1.length c2]++(vs++[.slice a31 (bytesOf y.1).length c31,.slice a34 (setD y.2.1).length c34])) zD (by congr 1;simp only [List.length_cons,List.length_nil,hvl];omega) zI ?_;refine S.slot 3 (v' :=.slice a36 (3+2*(k+1)) c36) rfl (by congr 1;simp only [List.length_cons,List.length_nil,hvl];omega) ?_;refine S.region rfl<|O.op (.p rfl) (.add rfl rfl (IntWalk.i64_in _ zB))<|O.q 1 rfl<|O.nil ?_;exact S.melt hm1 (S.pw (ih (k+1) ((a36,c36)) ((vs++[.slice a31 (bytesOf y.1).length c31,.slice a34 (setD y.2.1).length c34])) (by exact ⟨by omega,by rw [List.length_append,hvl];simp only [List.length_cons,List.length_nil];omega⟩) zB))
  ·clear ih
   have hk:k=x.2.2.2.1.length:=by omega
   subst hk;rw [List.take_length];refine S.exit rfl<|S.seq<|S.frzA zD fun g hs hm hpv=>?_;replace hg:=Fr.sub_trans hg hs;replace hR:=melted hR hm
   try replace h:=h.mono hs
   try replace h0:=h0.mono hs
   try replace k1:=k1.mono hs
   try replace k2:=k2.mono hs
   try replace k3:=k3.mono hs
   try replace hH:=hH.mono hs
   try replace hK:=hK.mono hs
   try replace h1:=h1.mono hs
   try replace ht:=ht.mono hs
   try replace h9:=h9.mono hs
   replace hm1:=meltTrans hm1 hm;clear hs hm;refine S.frz (A:=EachP (OwnP Rp.u8 5) vs (leafParts x.2.2.2.1)) zD fun g hs hm ⟨_,x',s'⟩=>?_;have he:=each_arr s' x';clear x' s';replace hg:=Fr.sub_trans hg hs;replace hR:=melted hR hm
   try replace h:=h.mono hs
   try replace h0:=h0.mono hs
   try replace k1:=k1.mono hs
   try replace k2:=k2.mono hs
   try replace k3:=k3.mono hs
   try replace hH:=hH.mono hs
   try replace hK:=hK.mono hs
   try replace h1:=h1.mono hs
   try replace ht:=ht.mono hs
   try replace h9:=h9.mono hs
   try replace hpv:=hpv.mono hs
   replace hm1:=meltTrans hm1 hm;clear hs hm;have hpa:Arr (Rp.slice Rp.u8) g.h (.slice s.1 (3+2*x.2.2.2.1.length) s.2) (nodeParts x):=Arr.rows hpv ⟨ht,k1,k2,he⟩;have hsl:=leafParts_sum x.2.2.2.1 hkeys;have hfl:(nodeParts x).flatten.length≤10000000000:=by unfold nodeParts;simp only [List.flatten_append,List.flatten_cons,List.flatten_nil,List.length_append,List.length_cons,List.length_nil];omega
   refine S.region rfl<|O.q 1 rfl<|O.call0 (.p rfl) rfl zC rfl rfl ((shaSum_c hpa hH hK zB)) ?_;rintro _ _ ⟨a39,c39,rfl,rfl⟩
   try simp only [zx1,zx2,zx3]
   refine O.q 1 rfl<|O.nil ?_;have e1:=nodeSumY e;have e2:(nodeSumP x).length=64:=(nodeSum_64 x).2 e;refine S.ownIs (T:=Rp.u8) (e:=5) (v' :=.slice a39 (nodeSumP x).length c39) (xs' :=nodeSumP x) zD (by rw [e2]) e1.symm ?_;exact S.rt results22 rfl hR ⟨a39,c39,by rw [e2],rfl⟩
 ·have e1:=nodeSumN e
  refine S.region rfl<|O.op (.p rfl) (.loadAgg isAgg27 zC rfl h1) ?_;refine O.call0 (.p rfl) rfl zC rfl rfl ((mright_c h0 hx0 (fun y hy=>by have:=hx2.2 y hy;omega))) ?_;rintro _ _ ⟨rfl,rfl⟩
  try simp only [zx1,zx2,zx3]
  refine O.sF 7 rfl (by exact decide_eq_false e) ?_;refine O.op (.p rfl) (.not rfl)<|O.nil<|S.condT rfl<|S.seq<|S.region rfl<|O.q 1 rfl<|O.nil<|S.addNil (T:=Rp.u8) (e:=5) ?_;refine S.ownIs (T:=Rp.u8) (e:=5) (v' :=.slice none (nodeSumP x).length 0) (xs' :=nodeSumP x) zD (by rw [e1];rfl) e1.symm ?_;exact S.rt results22 rfl hR ⟨none,0,by rw [e1];rfl,rfl⟩
def bit01 (c:UInt8):Bool:=c.toNat ==48 ||c.toNat ==49
def bits01:List Value:=(List.range 256).map fun i=>.bool (i ==48 ||i ==49)
theorem bits01_get (c:UInt8):bits01[c.toNat]?=some (.bool (bit01 c)):=by
 have:=c.toNat_lt;simp only [bits01,bit01,List.getElem?_map];rw [List.getElem?_range zB];rfl
theorem bit01_iff {c:UInt8}:bit01 c=true↔c=48∨c=49:=by
 unfold bit01;rw [Bool.or_eq_true,beq_iff_eq,beq_iff_eq]
 constructor
 ·rintro (h|h)
  ·exact .inl (UInt8.toNat_inj.1 h)
  ·exact .inr (UInt8.toNat_inj.1 h)
 ·rintro (rfl|rfl)
  ·exact .inl rfl
  ·exact .inr rfl
theorem has01_c {r:Fr} {b:Nat} {c:UInt8} (h:At r ⟨b,0,none⟩ bits01):Con prog 312 #[.pointer (some ⟨b,0,none⟩),byteV c] r [] (Ret fun v η=>v=.bool (bit01 c)∧η=[]):=by
 have hc:=c.toNat_lt;refine Con.o func312 fun g hg R hR=>?_;have h:=h.mono hg;refine zz 9 ?_;refine O.op (.p rfl) (.idxArrA (j:=c.toNat) underlying310 size4 rfl rfl rfl zB)<|O.op (.p rfl) (.load flat4 rfl (h.at (bits01_get c))) ?_;refine zz 2 ?_;exact S.rt results312 rfl hR ⟨rfl,rfl⟩
theorem str_size_q (l:List UInt8):(str l).size=l.length:=by simp
theorem tail_step {s:List UInt8} {i:Nat} (hi:i<s.length) (h:∀ j (q:j<s.length),s.length - i≤j→bit01 s[j]=true) (e:bit01 (s[s.length - i - 1]'zB)=true):∀ j (q:j<s.length),s.length - (i+1)≤j→bit01 s[j]=true:=fun j q w=>by
 rcases Nat.lt_or_ge j (s.length - i) with w' |w'
 ·have:j=s.length - i - 1:=by omega
  subst this;exact e
 ·exact h j q w'
theorem trimR_c {r:Fr} {b:Nat} {s:List UInt8} (h:At r ⟨b,0,none⟩ bits01) (hl:s.length≤1000000000000):Con prog 247 #[.string (str s),.pointer (some ⟨b,0,none⟩)] r [] (Ret fun v η=>∃ k,k≤s.length∧v=.string (str (s.take k))∧(∀ j (q:j<s.length),k≤j→bit01 s[j]=true)∧(∀ q:k - 1<s.length,0<k→bit01 s[k - 1]=false)∧η=[]):=by
 have h0:=h;refine Con.o func247 fun g hg R hR=>?_;have h:=h.mono hg;refine zz 6 ?_;refine S.slot 0 (v' :=.string (str (s.take (s.length - 0)))) rfl (by rw [Nat.sub_zero,List.take_length]) ?_;refine S.loopK (ι:=Nat) (fun i=>i≤s.length∧∀ j (q:j<s.length),s.length - i≤j→bit01 s[j]=true) (fun i=>[(0,.string (str (s.take (s.length - i))))]) [(1,_)] (fun i=>[]) (fun i=>s.length - i) (0) (by exact ⟨by omega,fun j q w=>by omega⟩) zq zq rfl fun i hx ih=>?_;have hm1:=meltRefl (g:=g);obtain ⟨hx1,hall⟩:=hx;have htl:(s.take (s.length - i)).length=s.length - i:=by rw [zlt];omega
 have htg:∀ q:s.length - i - 1<(s.take (s.length - i)).length,(s.take (s.length - i))[s.length - i - 1]=s[s.length - i - 1]'zB:=fun q=>List.getElem_take
 by_cases hi:i<s.length
 ·have hj:s.length - i - 1<(s.take (s.length - i)).length:=by omega
  have hsz:(str (s.take (s.length - i))).size=s.length - i:=by rw [str_size_q,htl]
  cases e:bit01 (s[s.length - i - 1]'zB) with
  |true =>
   refine zz 6 ?_;refine O.sT 7 rfl (by exact zdt (by rw [hsz];omega))<|zz 11 ?_;refine O.op (.p rfl) (.sub rfl rfl (IntWalk.i64_in _ zB))<|O.slot 12 (v' :=.int .i64 ((s.length - i - 1:Nat):Int)) rfl (by exact congrArg (Value.int .i64) (by rw [hsz];omega)) ?_;refine O.op (.p rfl) (.indexS (j:=s.length - i - 1) underlying9 rfl rfl zW zH) ?_;refine O.slot 13 (v' :=byteV (s[s.length - i - 1]'zB)) rfl (by exact congrArg byteV (htg hj)) ?_;refine O.v0 (.p rfl) rfl zC rfl rfl ((has01_c (h0.mono hg))) ?_;refine O.sT 14 rfl (by exact e)<|zz 8 ?_;refine O.op (.p rfl) (.sub rfl rfl (IntWalk.i64_in _ zB))<|O.slot 19 (v' :=.int .i64 ((s.length - i - 1:Nat):Int)) rfl (by exact congrArg (Value.int .i64) (by rw [hsz];omega)) ?_;refine O.strTo (b:=s.length - i - 1) (.p rfl) underlying9 rfl rfl (show _=(((s.length - i - 1):Nat):Int) by omega) zH<|zz 3 ?_;refine S.slot 0 (v' :=.string (str (s.take (s.length - (i+1))))) rfl (by rw [List.take_take,show min (s.length - i - 1) (s.length - i)=s.length - (i+1) from by omega]) ?_;exact S.wk (ih (i+1) (by exact ⟨by omega,tail_step hi hall e⟩) zB)
  |false =>
   refine zz 6 ?_;refine O.sT 7 rfl (by exact zdt (by rw [hsz];omega))<|zz 11 ?_;refine O.op (.p rfl) (.sub rfl rfl (IntWalk.i64_in _ zB))<|O.slot 12 (v' :=.int .i64 ((s.length - i - 1:Nat):Int)) rfl (by exact congrArg (Value.int .i64) (by rw [hsz];omega)) ?_;refine O.op (.p rfl) (.indexS (j:=s.length - i - 1) underlying9 rfl rfl zW zH) ?_;refine O.slot 13 (v' :=byteV (s[s.length - i - 1]'zB)) rfl (by exact congrArg byteV (htg hj)) ?_;refine O.v0 (.p rfl) rfl zC rfl rfl ((has01_c (h0.mono hg))) ?_;refine O.sF 14 rfl (by exact e)<|zz 9 ?_;exact S.rt results247 rfl hR ⟨s.length - i,by omega,rfl,hall,fun _ _=>e,rfl⟩
 ·have hii:i=s.length:=by omega
  have hsz:(str (s.take (s.length - i))).size=0:=by rw [hii];simp
  refine zz 6 ?_;refine O.sF 7 rfl (by exact zdf (by rw [hsz];omega))<|zz 8 ?_;exact S.rt results247 rfl hR ⟨s.length - i,by omega,rfl,hall,fun _ w=>by omega,rfl⟩
theorem head_step {s:List UInt8} {i:Nat} (hi:i<s.length) (h:∀ j (q:j<s.length),j<i→bit01 s[j]=true) (e:bit01 s[i]=true):∀ j (q:j<s.length),j<i+1→bit01 s[j]=true:=fun j q w=>by
 rcases Nat.lt_or_ge j i with w' |w'
 ·exact h j q w'
 ·have:j=i:=by omega
  subst this;exact e
theorem trimL_c {r:Fr} {b:Nat} {s:List UInt8} (h:At r ⟨b,0,none⟩ bits01) (hl:s.length≤1000000000000):Con prog 246 #[.string (str s),.pointer (some ⟨b,0,none⟩)] r [] (Ret fun v η=>∃ k,k≤s.length∧v=.string (str (s.drop k))∧(∀ j (q:j<s.length),j<k→bit01 s[j]=true)∧(∀ q:k<s.length,bit01 s[k]=false)∧η=[]):=by
 have h0:=h;refine Con.o func246 fun g hg R hR=>?_;have h:=h.mono hg;refine zz 6 ?_;refine S.slot 0 (v' :=.string (str (s.drop 0))) rfl rfl ?_;refine S.loopK (ι:=Nat) (fun i=>i≤s.length∧∀ j (q:j<s.length),j<i→bit01 s[j]=true) (fun i=>[(0,.string (str (s.drop i)))]) [(1,_)] (fun i=>[]) (fun i=>s.length - i) (0) (by exact ⟨by omega,fun j q w=>by omega⟩) zq zq rfl fun i hx ih=>?_;have hm1:=meltRefl (g:=g);obtain ⟨hx1,hall⟩:=hx;have hsz:(str (s.drop i)).size=s.length - i:=by rw [str_size_q,List.length_drop]
 have hdl:(s.drop i).length=s.length - i:=List.length_drop
 by_cases hi:i<s.length
 ·have htg:(s.drop i)[0]'zB=s[i]:=by rw [List.getElem_drop];simp
  cases e:bit01 s[i] with
  |true =>
   refine zz 6 ?_;refine O.sT 7 rfl (by exact zdt (by rw [hsz];omega))<|zz 9 ?_;refine O.op (.p rfl) (.indexS (j:=0) underlying9 rfl rfl zW zH) ?_;refine O.slot 10 (v' :=byteV s[i]) rfl (by exact congrArg byteV htg) ?_;refine O.v0 (.p rfl) rfl zC rfl rfl ((has01_c (h0.mono hg))) ?_;refine O.sT 11 rfl (by exact e)<|zz 6 ?_;refine O.strFrom (a:=1) (.p rfl) underlying9 rfl rfl (show _=(((1):Nat):Int) by omega) zH<|zz 3 ?_;refine S.slot 0 (v' :=.string (str (s.drop (i+1)))) rfl (by rw [List.drop_drop]) ?_;exact S.wk (ih (i+1) (by exact ⟨by omega,head_step hi hall e⟩) zB)
  |false =>
   refine zz 6 ?_;refine O.sT 7 rfl (by exact zdt (by rw [hsz];omega))<|zz 9 ?_;refine O.op (.p rfl) (.indexS (j:=0) underlying9 rfl rfl zW zH) ?_;refine O.slot 10 (v' :=byteV s[i]) rfl (by exact congrArg byteV htg) ?_;refine O.v0 (.p rfl) rfl zC rfl rfl ((has01_c (h0.mono hg))) ?_;refine O.sF 11 rfl (by exact e)<|zz 9 ?_;exact S.rt results246 rfl hR ⟨i,by omega,rfl,hall,fun _=>e,rfl⟩
 ·have hii:i=s.length:=by omega
  refine zz 6 ?_;refine O.sF 7 rfl (by exact zdf (by rw [hsz];omega))<|zz 8 ?_;exact S.rt results246 rfl hR ⟨i,by omega,rfl,hall,fun w=>by omega,rfl⟩
theorem bits01_len:bits01.length=256:=by simp [bits01]
theorem bits01_all:∀ v∈bits01,v.oneCell' =true:=fun v hv=>by
 obtain ⟨i,_,rfl⟩:=List.mem_map.1 hv;rfl
theorem mset_c {r:Fr}:Con prog 245 #[.string (str [48,49])] r [] (Ret fun v η=>v=.tuple #[.agg bits01.toArray,.bool true]∧η=[]):=by
 refine Con.o func245 fun g hg R hR=>?_
 refine S.seq<|S.region rfl<|O.opE (.p rfl) (.alloc (cs:=[.bool false,.bool false,.bool false,.bool false,.bool false,.bool false,.bool false,.bool false,.bool false,.bool false,.bool false,.bool false,.bool false,.bool false,.bool false,.bool false,.bool false,.bool false,.bool false,.bool false,.bool false,.bool false,.bool false,.bool false,.bool false,.bool false,.bool false,.bool false,.bool false,.bool false,.bool false,.bool false,.bool false,.bool false,.bool false,.bool false,.bool false,.bool false,.bool false,.bool false,.bool false,.bool false,.bool false,.bool false,.bool false,.bool false,.bool false,.bool false,.bool false,.bool false,.bool false,.bool false,.bool false,.bool false,.bool false,.bool false,.bool false,.bool false,.bool false,.bool false,.bool false,.bool false,.bool false,.bool false,.bool false,.bool false,.bool false,.bool false,.bool false,.bool false,.bool false,.bool false,.bool false,.bool false,.bool false,.bool false,.bool false,.bool false,.bool false,.bool false,.bool false,.bool false,.bool false,.bool false,.bool false,.bool false,.bool false,.bool false,.bool false,.bool false,.bool false,.bool false,.bool false,.bool false,.bool false,.bool false,.bool false,.bool false,.bool false,.bool false,.bool false,.bool false,.bool false,.bool false,.bool false,.bool false,.bool false,.bool false,.bool false,.bool false,.bool false,.bool false,.bool false,.bool false,.bool false,.bool false,.bool false,.bool false,.bool false,.bool false,.bool false,.bool false,.bool false,.bool false,.bool false,.bool false,.bool false,.bool false,.bool false,.bool false,.bool false,.bool false,.bool false,.bool false,.bool false,.bool false,.bool false,.bool false,.bool false,.bool false,.bool false,.bool false,.bool false,.bool false,.bool false,.bool false,.bool false,.bool false,.bool false,.bool false,.bool false,.bool false,.bool false,.bool false,.bool false,.bool false,.bool false,.bool false,.bool false,.bool false,.bool false,.bool false,.bool false,.bool false,.bool false,.bool false,.bool false,.bool false,.bool false,.bool false,.bool false,.bool false,.bool false,.bool false,.bool false,.bool false,.bool false,.bool false,.bool false,.bool false,.bool false,.bool false,.bool false,.bool false,.bool false,.bool false,.bool false,.bool false,.bool false,.bool false,.bool false,.bool false,.bool false,.bool false,.bool false,.bool false,.bool false,.bool false,.bool false,.bool false,.bool false,.bool false,.bool false,.bool false,.bool false,.bool false,.bool false,.bool false,.bool false,.bool false,.bool false,.bool false,.bool false,.bool false,.bool false,.bool false,.bool false,.bool false,.bool false,.bool false,.bool false,.bool false,.bool false,.bool false,.bool false,.bool false,.bool false,.bool false,.bool false,.bool false,.bool false,.bool false,.bool false,.bool false,.bool false,.bool false,.bool false,.bool false,.bool false,.bool false,.bool false,.bool false,.bool false,.bool false,.bool false,.bool false,.bool false,.bool false,.bool false,.bool false,.bool false,.bool false,.bool false,.bool false,.bool false,.bool false]) zeroValue310 rfl) ?_
 rintro _ _ ⟨b2,rfl,rfl⟩;refine zz 8 ?_;refine S.objIs (b:=b2) (cs' :=List.replicate 256 (.bool false)) zD rfl ?_;refine zz 8 ?_;refine O.sT 9 rfl zF ?_;refine zz 9 ?_;refine O.op (.p rfl) (.indexS (j:=0) underlying9 rfl rfl zW zH) ?_;refine O.slot 14 (v' :=.int .u8 48) rfl zF ?_;refine zz 7 ?_;refine O.sF 16 rfl zF ?_;refine zz 5 ?_;refine O.op (.p rfl) (.idxArr (j:=48) underlying310 size4 rfl rfl (show _=(((48):Nat):Int) by omega) zB) ?_;refine zz 8 ?_;refine S.objIs (b:=b2) (cs' :=(List.replicate 256 (.bool false)).set 48 (.bool true)) zD rfl ?_;refine zz 8 ?_;refine O.sT 9 rfl zF ?_;refine zz 9 ?_;refine O.op (.p rfl) (.indexS (j:=1) underlying9 rfl rfl zW zH) ?_;refine O.slot 14 (v' :=.int .u8 49) rfl zF ?_;refine zz 7 ?_;refine O.sF 16 rfl zF ?_;refine zz 5 ?_;refine O.op (.p rfl) (.idxArr (j:=49) underlying310 size4 rfl rfl (show _=(((49):Nat):Int) by omega) zB) ?_;refine zz 8 ?_;refine S.objIs (b:=b2) (cs' :=bits01) zD rfl ?_;refine zz 8 ?_;refine O.sF 9 rfl zF ?_;refine zz 5 ?_;refine O.op (.p rfl) (.loadObjAgg (news:=bits01) isAgg310 (by rw [bits01_len];kernel_rfl) rfl zD (by rw [List.drop_zero,List.take_length])) ?_;refine O.opU rfl (.storeObj (news:=bits01) (by rw [bits01_len];kernel_rfl) rfl rfl zV (List.all_eq_true.2 bits01_all) zD (by rw [bits01_len];decide)) ?_
 refine O.q 1 rfl<|O.nil<|S.objIs (b:=b2) (cs' :=bits01) zD (by rw [List.take_zero,List.nil_append,List.drop_eq_nil_of_le (by rw [bits01_len];decide),List.append_nil]) ?_;refine S.retCellT results245 rfl rfl zD (LoadsAs.agg isAgg310 (by rw [bits01_len];kernel_rfl)) fun w hw=>Holds.end_ hR hw ?_;exact pk ⟨rfl,rfl⟩
theorem trim_none {s:List UInt8} {k m:Nat} (hk:k≤s.length) (h1:∀ j (q:j<s.length),k≤j→bit01 s[j]=true) (h2:∀ q:k - 1<s.length,0<k→bit01 s[k - 1]=false)
  (hm:m≤(s.take k).length) (h3:∀ j (q:j<(s.take k).length),j<m→bit01 (s.take k)[j]=true) (h4:∀ q:m<(s.take k).length,bit01 (s.take k)[m]=false):(s.take k).drop m=[]↔∀ c∈s,c=48∨c=49:=by
 have hl:(s.take k).length=k:=by rw [zlt];omega
 constructor
 ·intro e c hc
  have hmk:m=k:=by have:=congrArg List.length e;rw [List.length_drop,hl] at this;simp at this;omega
  obtain ⟨j,q,rfl⟩:=List.mem_iff_getElem.1 hc;rw [← bit01_iff]
  rcases Nat.lt_or_ge j k with w|w
  ·have:=h3 j zB zB
   rw [List.getElem_take] at this;exact this
  ·exact h1 j q w
 ·intro w
  have h0:k=0:=Nat.eq_zero_of_not_pos fun hp=>by
   have q:k - 1<s.length:=by omega
   have:=h2 q hp;rw [bit01_iff.2 (w _ (List.getElem_mem q))] at this;cases this
  subst h0;simp
theorem trim_c {r:Fr} {s:List UInt8} (hl:s.length≤1000000000000):Con prog 163 #[.string (str s),.string (str [48,49])] r [] (Ret fun v η=>∃ t,v=.string (str t)∧(t=[]↔∀ c∈s,c=48∨c=49)∧η=[]):=by
 refine Con.o func163 fun g hg R hR=>?_
 by_cases h0:s=[]
 ·
  refine zz 8 ?_;refine O.op (.p rfl) (.eqlS rfl rfl)<|O.sT 8 rfl (by simp [h0])<|zz 11 ?_;exact S.rt results163 rfl hR ⟨s,rfl,⟨fun _=>by rw [h0];exact fun _ h=>(by cases h),fun _=>h0⟩,rfl⟩
 ·
  refine zz 8 ?_;refine O.op (.p rfl) (.eqlS rfl rfl)<|O.sF 8 rfl (by exact zdf (fun q=>h0 (str_eqL q))) ?_;refine O.q 2 rfl<|O.op (.g rfl rfl) (.eqlS rfl rfl)<|O.sF 11 rfl zI<|zz 10 ?_;refine O.sF 16 rfl zF<|zz 12 ?_;refine O.v0 (.p rfl) rfl zC rfl rfl (mset_c) ?_
  refine O.q 3 rfl<|O.opE (.p rfl) (.alloc (cs:=[.bool false,.bool false,.bool false,.bool false,.bool false,.bool false,.bool false,.bool false,.bool false,.bool false,.bool false,.bool false,.bool false,.bool false,.bool false,.bool false,.bool false,.bool false,.bool false,.bool false,.bool false,.bool false,.bool false,.bool false,.bool false,.bool false,.bool false,.bool false,.bool false,.bool false,.bool false,.bool false,.bool false,.bool false,.bool false,.bool false,.bool false,.bool false,.bool false,.bool false,.bool false,.bool false,.bool false,.bool false,.bool false,.bool false,.bool false,.bool false,.bool false,.bool false,.bool false,.bool false,.bool false,.bool false,.bool false,.bool false,.bool false,.bool false,.bool false,.bool false,.bool false,.bool false,.bool false,.bool false,.bool false,.bool false,.bool false,.bool false,.bool false,.bool false,.bool false,.bool false,.bool false,.bool false,.bool false,.bool false,.bool false,.bool false,.bool false,.bool false,.bool false,.bool false,.bool false,.bool false,.bool false,.bool false,.bool false,.bool false,.bool false,.bool false,.bool false,.bool false,.bool false,.bool false,.bool false,.bool false,.bool false,.bool false,.bool false,.bool false,.bool false,.bool false,.bool false,.bool false,.bool false,.bool false,.bool false,.bool false,.bool false,.bool false,.bool false,.bool false,.bool false,.bool false,.bool false,.bool false,.bool false,.bool false,.bool false,.bool false,.bool false,.bool false,.bool false,.bool false,.bool false,.bool false,.bool false,.bool false,.bool false,.bool false,.bool false,.bool false,.bool false,.bool false,.bool false,.bool false,.bool false,.bool false,.bool false,.bool false,.bool false,.bool false,.bool false,.bool false,.bool false,.bool false,.bool false,.bool false,.bool false,.bool false,.bool false,.bool false,.bool false,.bool false,.bool false,.bool false,.bool false,.bool false,.bool false,.bool false,.bool false,.bool false,.bool false,.bool false,.bool false,.bool false,.bool false,.bool false,.bool false,.bool false,.bool false,.bool false,.bool false,.bool false,.bool false,.bool false,.bool false,.bool false,.bool false,.bool false,.bool false,.bool false,.bool false,.bool false,.bool false,.bool false,.bool false,.bool false,.bool false,.bool false,.bool false,.bool false,.bool false,.bool false,.bool false,.bool false,.bool false,.bool false,.bool false,.bool false,.bool false,.bool false,.bool false,.bool false,.bool false,.bool false,.bool false,.bool false,.bool false,.bool false,.bool false,.bool false,.bool false,.bool false,.bool false,.bool false,.bool false,.bool false,.bool false,.bool false,.bool false,.bool false,.bool false,.bool false,.bool false,.bool false,.bool false,.bool false,.bool false,.bool false,.bool false,.bool false,.bool false,.bool false,.bool false,.bool false,.bool false,.bool false,.bool false,.bool false,.bool false,.bool false,.bool false,.bool false,.bool false,.bool false,.bool false,.bool false,.bool false,.bool false,.bool false,.bool false,.bool false,.bool false,.bool false,.bool false]) zeroValue310 rfl) ?_
  rintro _ _ ⟨b5,rfl,rfl⟩;refine O.opU rfl (.storeObj (news:=bits01) (by rw [bits01_len];kernel_rfl) rfl rfl zV (List.all_eq_true.2 bits01_all) zD (by rw [bits01_len];decide)) ?_;refine zz 3 ?_;refine S.objIs (b:=b5) (cs' :=bits01) zD (by rw [List.take_zero,List.nil_append,List.drop_eq_nil_of_le (by rw [bits01_len];decide),List.append_nil]) ?_;refine S.frzO zD fun g hs hm h5=>?_;replace hg:=zfs hg hs;replace hR:=melted hR hm;clear hs hm;refine zz 2 ?_;refine O.sT 34 rfl zF ?_;refine zz 5 ?_;refine O.call0 (.p rfl) rfl zC rfl rfl ((trimR_c h5 hl)) ?_;rintro v36 _ ⟨k,hk,rfl,h1,h2,rfl⟩;refine O.call0 (.p rfl) rfl zC rfl rfl ((trimL_c h5 (by rw [zlt];omega))) ?_;rintro v37 _ ⟨m,hm,rfl,h3,h4,rfl⟩;refine zz 2 ?_;exact S.rt results163 rfl hR ⟨(s.take k).drop m,rfl,trim_none hk h1 h2 hm h3 h4,rfl⟩
end Go.Proofs.YtojafegjlahajaaGreatDoor
