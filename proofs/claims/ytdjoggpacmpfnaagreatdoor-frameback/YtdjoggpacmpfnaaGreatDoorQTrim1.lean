/- Texts of this proof. -/
import Derived.Test.YtdjoggpacmpfnaaGreatDoorQMerk1
import Derived.Test.YtdjoggpacmpfnaaGreatDoorQSpMapB
open Go Go.Sp Go.Proofs.Tryz
set_option maxRecDepth 100000
set_option maxHeartbeats 1000000
attribute [local irreducible] obj Own OwnP
namespace Go.Proofs.YtdjoggpacmpfnaaGreatDoor
theorem leafOk_iff {x:LeafT}:leafOk x↔keyOk x.1∧0<x.2.1.length∧ofK x.1 x.2.1 :=
 ⟨fun ⟨h1,h2,h3,h4⟩=>⟨h1,h3,h2,fun _=>h4⟩,fun ⟨h1,h2,h3,h4⟩=>⟨h1,h3,h2,h4 h2⟩⟩
theorem not_leaves {n:NodeT} {i:Nat} (h:i<n.2.2.2.1.length) (q:¬ leafOk n.2.2.2.1[i]):decide (nodeOk n)=false:=zdf fun w=>q (w.1.1 _ (List.getElem_mem h))
theorem not_rises {n:NodeT} {i:Nat} (h:i<n.2.2.2.1.length) (h0:0<i) (q:¬ n.2.2.2.1[i - 1].1<n.2.2.2.1[i].1):decide (nodeOk n)=false:=zdf fun w=>q (w.1.2 i h h0)
def LG (x:NodeT) (k:Nat):Prop:=∀ i (q:i<x.2.2.2.1.length),i<k→leafOk x.2.2.2.1[i]∧(0<i→(x.2.2.2.1[i - 1]'zD).1<x.2.2.2.1[i].1)
theorem LG.step {x:NodeT} {k:Nat} (hk:k<x.2.2.2.1.length) (h:LG x k) (hl:leafOk x.2.2.2.1[k]) (hr:0<k→(x.2.2.2.1[k - 1]'zD).1<x.2.2.2.1[k].1):LG x (k+1):=fun i q w=>by
 rcases Nat.lt_or_ge i k with w' |w'
 ·exact h i q w'
 ·have:i=k:=by omega
  subst this;exact ⟨hl,hr⟩
theorem LG.all {x:NodeT} (h:LG x x.2.2.2.1.length):(∀ y∈x.2.2.2.1,leafOk y)∧keysRise (·.1) x.2.2.2.1 :=
 ⟨fun y hy=>by obtain ⟨i,q,rfl⟩:=List.mem_iff_getElem.1 hy;exact (h i q q).1,fun i q w=>(h i q q).2 w⟩
theorem len0 {α:Type} {l:List α}:l.length=0↔l=[]:=List.length_eq_zero_iff
theorem nodeOk_1 {x:NodeT} (hG:(∀ y∈x.2.2.2.1,leafOk y)∧keysRise (·.1) x.2.2.2.1) (e:x.1=1):nodeOk x↔x.2.1.length=0∧x.2.2.1.length=0∧x.2.2.2.1.length=0:=by
 unfold nodeOk;rw [e,len0,len0,len0];exact ⟨fun ⟨_,h⟩=>by rcases h with h|h|h|h;exact h.2;exact absurd h.1 zE;exact absurd h.1 zE;exact absurd h.1 zE,fun h=>⟨hG,.inl ⟨rfl,h⟩⟩⟩
theorem nodeOk_2 {x:NodeT} (hG:(∀ y∈x.2.2.2.1,leafOk y)∧keysRise (·.1) x.2.2.2.1) (e:x.1=2):nodeOk x↔x.2.1.length=0∧x.2.2.1.length=0∧x.2.2.2.1.length=1:=by
 unfold nodeOk;rw [e,len0,len0];exact ⟨fun ⟨_,h⟩=>by rcases h with h|h|h|h;exact absurd h.1 zE;exact h.2;exact absurd h.1 zE;exact absurd h.1 zE,fun h=>⟨hG,.inr (.inl ⟨rfl,h⟩)⟩⟩
theorem nodeOk_3 {x:NodeT} (hG:(∀ y∈x.2.2.2.1,leafOk y)∧keysRise (·.1) x.2.2.2.1) (e:x.1=3):nodeOk x↔x.2.1.length=64∧x.2.2.1.length=64∧x.2.2.2.1.length=0:=by
 unfold nodeOk;rw [e,len0];exact ⟨fun ⟨_,h⟩=>by rcases h with h|h|h|h;exact absurd h.1 zE;exact absurd h.1 zE;exact h.2;exact absurd h.1 zE,fun h=>⟨hG,.inr (.inr (.inl ⟨rfl,h⟩))⟩⟩
theorem nodeOk_4 {x:NodeT} (hG:(∀ y∈x.2.2.2.1,leafOk y)∧keysRise (·.1) x.2.2.2.1) (e:x.1=4):nodeOk x↔x.2.1.length=0∧x.2.2.1.length=0∧2≤x.2.2.2.1.length:=by
 unfold nodeOk;rw [e,len0,len0];exact ⟨fun ⟨_,h⟩=>by rcases h with h|h|h|h;exact absurd h.1 zE;exact absurd h.1 zE;exact absurd h.1 zE;exact h.2,fun h=>⟨hG,.inr (.inr (.inr ⟨rfl,h⟩))⟩⟩
theorem nodeOk_5 {x:NodeT} (e1:x.1≠1) (e2:x.1≠2) (e3:x.1≠3) (e4:x.1≠4):¬ nodeOk x:=fun ⟨_,h⟩=>by
 rcases h with h|h|h|h
 ·exact e1 h.1
 ·exact e2 h.1
 ·exact e3 h.1
 ·exact e4 h.1
theorem byte_eq {a b:UInt8}:((a.toNat:Int)=(b.toNat:Int))↔a=b:=⟨fun h=>u8_inj h,fun h=>by rw [h]⟩
theorem geS_false {a b:List UInt8} (h:a<b):(!Op.bytesLess (str a).toList (str b).toList)=false:=by rw [geqS_eq];exact zdf fun w=>w h
theorem geS_true {a b:List UInt8} (h:¬ a<b):(!Op.bytesLess (str a).toList (str b).toList)=true:=by rw [geqS_eq];exact zdt h
theorem mright_c {r:Fr} {cs:List Value} {x:NodeT} (h:NodeRp.rel r cs x) (hx0:x.2.1.length≤1000000000000∧x.2.2.1.length≤1000000000000) (hx2:∀ y∈x.2.2.2.1,y.2.1.length≤1000000000):Con prog 277 #[.agg cs.toArray] r [] (Ret fun v η=>v=.bool (decide (nodeOk x))∧η=[]):=by
 obtain ⟨a1,a2,a3,c1,c2,c3,rfl,k1,k2,k3⟩:=NodeRp.sh h;obtain ⟨hb5,hb6⟩:=hx0;refine Con.o func277 fun g hg R hR=>?_;have k1:=k1.mono hg;have k2:=k2.mono hg;have k3:=k3.mono hg;have hb:=k3.bound;have hb1:=k1.bound;have hb2:=k2.bound;refine S.seq<|S.region rfl<|O.opE (.p rfl) (.box (cs:=[_,_,_,_]) rfl rfl) ?_;rintro _ _ ⟨b1,rfl,rfl⟩;refine zz 4 ?_;refine S.objIs (b:=b1) (cs' :=[byteV x.1,.slice a1 x.2.1.length c1,.slice a2 x.2.2.1.length c2,.slice a3 x.2.2.2.1.length c3]) zC rfl ?_;refine S.frzO zC fun g hs hm h1=>?_;replace hg:=zfs hg hs;replace hR:=melted hR hm
 try replace k1:=k1.mono hs
 try replace k2:=k2.mono hs
 try replace k3:=k3.mono hs
 clear hs hm;refine zz 1 ?_;refine O.op (.p rfl) (.fieldAddr fld35x3 rfl) ?_;refine zz 5 ?_;refine S.loopK (ι:=Nat) (fun k=>k≤x.2.2.2.1.length∧LG x k) (fun k=>[(12,.int .i64 (k:Int))]) [(1,_),(10,_),(11,_)] (fun k=>[]) (fun k=>x.2.2.2.1.length - k) (0) (by exact ⟨by omega,fun i q w=>by omega⟩) zq zq rfl fun k hx ih=>?_;have hm1:=meltRefl (g:=g);obtain ⟨hx1,hall⟩:=hx;refine zz 5 ?_;refine S.cd rfl (fun h13=>?_) fun h13=>?_
 ·have hk:k<x.2.2.2.1.length:=by omega
  have hset:=hx2 _ (List.getElem_mem hk);refine zz 6 ?_;refine O.iz (k3) (h:=fun p15 cs15 hp15 hr15=>?_);obtain ⟨l1,m1,rfl,l2,l3⟩:=LeafRp.sh hr15;have l3:=l3;refine O.op (.p rfl) (.loadAgg isAgg120 zB rfl hp15) ?_;refine O.opE (.p rfl) (.alloc (cs:=[.string ⟨#[]⟩,.slice none 0 0]) zeroValue120 rfl) ?_;rintro _ _ ⟨b4,rfl,rfl⟩;refine zz 2 ?_;refine O.nil<|S.seq<|S.objIs (b:=b4) (cs' :=[.string (str x.2.2.2.1[k].1),.slice l1 x.2.2.2.1[k].2.1.length m1]) zC rfl ?_;refine S.frzO zC fun g hs hm h4=>?_;replace hg:=zfs hg hs;replace hR:=melted hR hm
  try replace k1:=k1.mono hs
  try replace k2:=k2.mono hs
  try replace k3:=k3.mono hs
  try replace h1:=h1.mono hs
  try replace hp15:=hp15.mono hs
  try replace l3:=l3.mono hs
  try replace hp15:=hp15.mono hs
  replace hm1:=meltTrans hm1 hm;clear hs hm
  by_cases q1:keyOk x.2.2.2.1[k].1
  ·by_cases q2:0<x.2.2.2.1[k].2.1.length
   ·by_cases q3:ofK x.2.2.2.1[k].1 x.2.2.2.1[k].2.1
    ·have hlf:=leafOk_iff.2 ⟨q1,q2,q3⟩
     by_cases q4:0<k
     ·by_cases q5:(x.2.2.2.1[k - 1]'zD).1<x.2.2.2.1[k].1
      ·
       refine S.regionD (L:=.range 34) F.mixed zB ?_;refine zz 2 ?_;refine OD.v0 (.p rfl) zB rfl zB rfl rfl ((mlong_c zD)) ?_;refine OD.sT 19 rfl (by exact zdt q1)<|zz 6 ?_;refine OD.sF 25 rfl (by exact zdf zD)<|zz 6 ?_;refine OD.v0 (.g rfl rfl) zB rfl zB rfl rfl ((mof_c l3 zD)) ?_;refine OD.sT 32 rfl (by exact zdt q3)<|zz 5 ?_;refine OD.sT 37 rfl (by exact zdt zD)<|zz 5 ?_;refine OD.slot 42 (v' :=.int .i64 ((k - 1:Nat):Int)) rfl (by exact congrArg (Value.int .i64) zD) ?_;refine OD.ia (.g rfl rfl) underlying33 size120 rfl rfl (show _=(((k-1):Nat):Int) by omega) (k3) (h:=fun p43 cs43 hp43 hr43=>?_);obtain ⟨u1,w1,rfl, -, -⟩:=LeafRp.sh hr43;refine zz 4 ?_;refine .quiet (.g rfl rfl) rfl (fun _=>.geqS rfl rfl)<|OD.sF 48 rfl (by exact geS_false q5) ?_;refine zz 10 ?_;exact S.melt hm1 (S.wk (ih (k+1) (by exact ⟨by omega,hall.step hk hlf fun _=>q5⟩) zD))
      ·have e:=not_rises hk q4 q5
       refine S.regionD (L:=.range 34) F.mixed zB ?_;refine zz 2 ?_;refine OD.v0 (.p rfl) zB rfl zB rfl rfl ((mlong_c zD)) ?_;refine OD.sT 19 rfl (by exact zdt q1)<|zz 6 ?_;refine OD.sF 25 rfl (by exact zdf zD)<|zz 6 ?_;refine OD.v0 (.g rfl rfl) zB rfl zB rfl rfl ((mof_c l3 zD)) ?_;refine OD.sT 32 rfl (by exact zdt q3)<|zz 5 ?_;refine OD.sT 37 rfl (by exact zdt zD)<|zz 5 ?_;refine OD.slot 42 (v' :=.int .i64 ((k - 1:Nat):Int)) rfl (by exact congrArg (Value.int .i64) zD) ?_;refine OD.ia (.g rfl rfl) underlying33 size120 rfl rfl (show _=(((k-1):Nat):Int) by omega) (k3) (h:=fun p43 cs43 hp43 hr43=>?_);obtain ⟨u1,w1,rfl, -, -⟩:=LeafRp.sh hr43;refine zz 4 ?_;refine .quiet (.g rfl rfl) rfl (fun _=>.geqS rfl rfl)<|OD.sT 48 rfl (by exact geS_true q5) ?_;refine zz 8 ?_;exact S.rt results277 rfl hR ⟨congrArg Value.bool e.symm,rfl⟩
     ·
      refine S.regionD (L:=.range 34) F.mixed zB ?_;refine zz 2 ?_;refine OD.v0 (.p rfl) zB rfl zB rfl rfl ((mlong_c zD)) ?_;refine OD.sT 19 rfl (by exact zdt q1)<|zz 6 ?_;refine OD.sF 25 rfl (by exact zdf zD)<|zz 6 ?_;refine OD.v0 (.g rfl rfl) zB rfl zB rfl rfl ((mof_c l3 zD)) ?_;refine OD.sT 32 rfl (by exact zdt q3)<|zz 5 ?_;refine OD.sF 37 rfl (by exact zdf zD)<|zz 21 ?_;exact S.melt hm1 (S.wk (ih (k+1) (by exact ⟨by omega,hall.step hk hlf fun w=>absurd w q4⟩) zD))
    ·have e:=not_leaves hk fun w=>q3 (leafOk_iff.1 w).2.2
     refine S.regionD (L:=.range 34) F.mixed zB ?_;refine zz 2 ?_;refine OD.v0 (.p rfl) zB rfl zB rfl rfl ((mlong_c zD)) ?_;refine OD.sT 19 rfl (by exact zdt q1)<|zz 6 ?_;refine OD.sF 25 rfl (by exact zdf zD)<|zz 6 ?_;refine OD.v0 (.g rfl rfl) zB rfl zB rfl rfl ((mof_c l3 zD)) ?_;refine OD.sF 32 rfl (by exact zdf q3)<|zz 24 ?_;exact S.rt results277 rfl hR ⟨congrArg Value.bool e.symm,rfl⟩
   ·have e:=not_leaves hk fun w=>q2 (leafOk_iff.1 w).2.1
    refine S.regionD (L:=.range 34) F.mixed zB ?_;refine zz 2 ?_;refine OD.v0 (.p rfl) zB rfl zB rfl rfl ((mlong_c zD)) ?_;refine OD.sT 19 rfl (by exact zdt q1)<|zz 6 ?_;refine OD.sT 25 rfl (by exact zdt zD)<|zz 31 ?_;exact S.rt results277 rfl hR ⟨congrArg Value.bool e.symm,rfl⟩
  ·have e:=not_leaves hk fun w=>q1 (leafOk_iff.1 w).1
   refine S.regionD (L:=.range 34) F.mixed zB ?_;refine zz 2 ?_;refine OD.v0 (.p rfl) zB rfl zB rfl rfl ((mlong_c zD)) ?_;refine OD.sF 19 rfl (by exact zdf q1)<|zz 37 ?_;exact S.rt results277 rfl hR ⟨congrArg Value.bool e.symm,rfl⟩
 ·clear ih
  have hk:k=x.2.2.2.1.length:=by omega
  subst hk;have hG:=hall.all
  by_cases e:x.1=3
  ·
   refine zz 2 ?_;refine S.regionD (L:=.range 15) F.mixed zB ?_;refine zz 8 ?_
   refine OD.cs 59 rfl (fun h59=>?_) fun h59=>?_
   ·refine zz 11 ?_
    refine O.op (.p rfl) (.fieldAddr fld35x0 rfl)<|zz 2 ?_;refine O.sT 67 rfl (by rw [e];rfl)<|zz 6 ?_
    refine O.cs 69 rfl (fun h69=>?_) fun h69=>?_
    ·refine zz 5 ?_
     refine S.ret results277 rfl fun w hw=>Holds.end_ hR hw ?_
     first|exact ⟨_,⟨congrArg _ (zdf (fun w=>by have:=(nodeOk_3 hG e).1 w;omega)).symm,rfl⟩,zM⟩|exact ⟨_,⟨congrArg _ (zdt ((nodeOk_3 hG e).2 zD)).symm,rfl⟩,zM⟩|exact ⟨_,⟨congrArg _ (decide_eq_decide.2 ⟨fun h=>(nodeOk_3 hG e).2 zD,fun h=>by have:=(nodeOk_3 hG e).1 h;omega⟩),rfl⟩,zM⟩
    ·refine O.q 4 rfl<|O.nil<|S.ret results277 rfl fun w hw=>Holds.end_ hR hw ?_
     first|exact ⟨_,⟨congrArg _ (zdf (fun w=>by have:=(nodeOk_3 hG e).1 w;omega)).symm,rfl⟩,zM⟩|exact ⟨_,⟨congrArg _ (zdt ((nodeOk_3 hG e).2 zD)).symm,rfl⟩,zM⟩|exact ⟨_,⟨congrArg _ (decide_eq_decide.2 ⟨fun h=>(nodeOk_3 hG e).2 zD,fun h=>by have:=(nodeOk_3 hG e).1 h;omega⟩),rfl⟩,zM⟩
   ·refine zz 11 ?_
    refine O.op (.p rfl) (.fieldAddr fld35x0 rfl)<|zz 2 ?_;refine O.sT 67 rfl (by rw [e];rfl)<|zz 11 ?_;refine S.ret results277 rfl fun w hw=>Holds.end_ hR hw ?_
    first|exact ⟨_,⟨congrArg _ (zdf (fun w=>by have:=(nodeOk_3 hG e).1 w;omega)).symm,rfl⟩,zM⟩|exact ⟨_,⟨congrArg _ (zdt ((nodeOk_3 hG e).2 zD)).symm,rfl⟩,zM⟩|exact ⟨_,⟨congrArg _ (decide_eq_decide.2 ⟨fun h=>(nodeOk_3 hG e).2 zD,fun h=>by have:=(nodeOk_3 hG e).1 h;omega⟩),rfl⟩,zM⟩
  ·have n3:=e
   by_cases e:x.1=1
   ·
    refine zz 2 ?_;refine S.regionD (L:=.range 15) F.mixed zB ?_;refine zz 8 ?_
    refine OD.cs 59 rfl (fun h59=>?_) fun h59=>?_
    ·refine zz 11 ?_
     refine O.op (.p rfl) (.fieldAddr fld35x0 rfl)<|zz 2 ?_;refine O.sF 67 rfl (by exact zdf fun w=>n3 (byte_eq (b:=3).1 w)) ?_;refine zz 5 ?_;refine O.opE (.p rfl) (.makeMapK' (enc:=encB)) ?_;rintro _ _ ⟨b74,rfl,rfl⟩;refine O.opU rfl (.insertK (key:=1) underlying335 (keyOkB underlying32) rfl rfl rfl zC) ?_;refine O.opU rfl (.insertK (key:=2) underlying335 (keyOkB underlying32) rfl rfl rfl zC) ?_;refine O.opU rfl (.insertK (key:=4) underlying335 (keyOkB underlying32) rfl rfl rfl zC)<|zz 1 ?_;refine O.op (.p rfl) (.fieldAddr fld35x0 rfl)<|zz 1 ?_;refine O.op (.p rfl) (.lookupK underlying335 (keyOkB underlying32) zeroValue3 rfl rfl zC) ?_;refine O.q 2 rfl<|O.slot 79 (v' :=.int .i64 0) rfl (by rw [e];rfl) ?_;refine O.q 1 rfl<|O.sT 80 rfl (by rw [e];rfl)<|zz 7 ?_;refine O.op (.g rfl rfl) (.fieldAddr fld35x1 rfl)<|zz 2 ?_;refine O.op (.g rfl rfl) (.fieldAddr fld35x2 rfl)<|zz 6 ?_
     refine O.cs 92 rfl (fun h92=>?_) fun h92=>?_
     ·refine zz 5 ?_
      refine O.cs 97 rfl (fun h97=>?_) fun h97=>?_
      ·refine zz 4 ?_
       refine O.cs 101 rfl (fun h101=>?_) fun h101=>?_
       ·refine O.q 6 rfl<|O.nil<|S.ret results277 rfl fun w hw=>Holds.end_ hR hw ?_
        first|exact ⟨_,⟨congrArg _ (zdf (fun w=>by have:=(nodeOk_1 hG e).1 w;omega)).symm,rfl⟩,zM⟩|exact ⟨_,⟨congrArg _ (zdt ((nodeOk_1 hG e).2 zD)).symm,rfl⟩,zM⟩|exact ⟨_,⟨congrArg _ (decide_eq_decide.2 ⟨fun h=>(nodeOk_1 hG e).2 zD,fun h=>by have:=(nodeOk_1 hG e).1 h;omega⟩),rfl⟩,zM⟩
       ·refine O.op (.g rfl rfl) (.fieldAddr fld35x0 rfl) ?_
        refine zz 2 ?_;refine O.sF 104 rfl (by rw [e];rfl) ?_;refine O.q 3 rfl<|O.nil<|S.ret results277 rfl fun w hw=>Holds.end_ hR hw ?_
        first|exact ⟨_,⟨congrArg _ (zdf (fun w=>by have:=(nodeOk_1 hG e).1 w;omega)).symm,rfl⟩,zM⟩|exact ⟨_,⟨congrArg _ (zdt ((nodeOk_1 hG e).2 zD)).symm,rfl⟩,zM⟩|exact ⟨_,⟨congrArg _ (decide_eq_decide.2 ⟨fun h=>(nodeOk_1 hG e).2 zD,fun h=>by have:=(nodeOk_1 hG e).1 h;omega⟩),rfl⟩,zM⟩
      ·refine O.q 10 rfl<|O.nil<|S.ret results277 rfl fun w hw=>Holds.end_ hR hw ?_
       first|exact ⟨_,⟨congrArg _ (zdf (fun w=>by have:=(nodeOk_1 hG e).1 w;omega)).symm,rfl⟩,zM⟩|exact ⟨_,⟨congrArg _ (zdt ((nodeOk_1 hG e).2 zD)).symm,rfl⟩,zM⟩|exact ⟨_,⟨congrArg _ (decide_eq_decide.2 ⟨fun h=>(nodeOk_1 hG e).2 zD,fun h=>by have:=(nodeOk_1 hG e).1 h;omega⟩),rfl⟩,zM⟩
     ·refine O.q 15 rfl<|O.nil<|S.ret results277 rfl fun w hw=>Holds.end_ hR hw ?_
      first|exact ⟨_,⟨congrArg _ (zdf (fun w=>by have:=(nodeOk_1 hG e).1 w;omega)).symm,rfl⟩,zM⟩|exact ⟨_,⟨congrArg _ (zdt ((nodeOk_1 hG e).2 zD)).symm,rfl⟩,zM⟩|exact ⟨_,⟨congrArg _ (decide_eq_decide.2 ⟨fun h=>(nodeOk_1 hG e).2 zD,fun h=>by have:=(nodeOk_1 hG e).1 h;omega⟩),rfl⟩,zM⟩
    ·refine zz 11 ?_
     refine O.op (.p rfl) (.fieldAddr fld35x0 rfl)<|zz 2 ?_;refine O.sF 67 rfl (by exact zdf fun w=>n3 (byte_eq (b:=3).1 w)) ?_;refine zz 5 ?_;refine O.opE (.p rfl) (.makeMapK' (enc:=encB)) ?_;rintro _ _ ⟨b74,rfl,rfl⟩;refine O.opU rfl (.insertK (key:=1) underlying335 (keyOkB underlying32) rfl rfl rfl zC) ?_;refine O.opU rfl (.insertK (key:=2) underlying335 (keyOkB underlying32) rfl rfl rfl zC) ?_;refine O.opU rfl (.insertK (key:=4) underlying335 (keyOkB underlying32) rfl rfl rfl zC)<|zz 1 ?_;refine O.op (.p rfl) (.fieldAddr fld35x0 rfl)<|zz 1 ?_;refine O.op (.p rfl) (.lookupK underlying335 (keyOkB underlying32) zeroValue3 rfl rfl zC) ?_;refine O.q 2 rfl<|O.slot 79 (v' :=.int .i64 0) rfl (by rw [e];rfl) ?_;refine O.q 1 rfl<|O.sT 80 rfl (by rw [e];rfl)<|zz 7 ?_;refine O.op (.g rfl rfl) (.fieldAddr fld35x1 rfl)<|zz 2 ?_;refine O.op (.g rfl rfl) (.fieldAddr fld35x2 rfl)<|zz 6 ?_
     refine O.cs 92 rfl (fun h92=>?_) fun h92=>?_
     ·refine zz 5 ?_
      refine O.cs 97 rfl (fun h97=>?_) fun h97=>?_
      ·refine zz 4 ?_
       refine O.cs 101 rfl (fun h101=>?_) fun h101=>?_
       ·refine O.q 6 rfl<|O.nil<|S.ret results277 rfl fun w hw=>Holds.end_ hR hw ?_
        first|exact ⟨_,⟨congrArg _ (zdf (fun w=>by have:=(nodeOk_1 hG e).1 w;omega)).symm,rfl⟩,zM⟩|exact ⟨_,⟨congrArg _ (zdt ((nodeOk_1 hG e).2 zD)).symm,rfl⟩,zM⟩|exact ⟨_,⟨congrArg _ (decide_eq_decide.2 ⟨fun h=>(nodeOk_1 hG e).2 zD,fun h=>by have:=(nodeOk_1 hG e).1 h;omega⟩),rfl⟩,zM⟩
       ·refine O.op (.g rfl rfl) (.fieldAddr fld35x0 rfl) ?_
        refine zz 2 ?_;refine O.sF 104 rfl (by rw [e];rfl) ?_;refine O.q 3 rfl<|O.nil<|S.ret results277 rfl fun w hw=>Holds.end_ hR hw ?_
        first|exact ⟨_,⟨congrArg _ (zdf (fun w=>by have:=(nodeOk_1 hG e).1 w;omega)).symm,rfl⟩,zM⟩|exact ⟨_,⟨congrArg _ (zdt ((nodeOk_1 hG e).2 zD)).symm,rfl⟩,zM⟩|exact ⟨_,⟨congrArg _ (decide_eq_decide.2 ⟨fun h=>(nodeOk_1 hG e).2 zD,fun h=>by have:=(nodeOk_1 hG e).1 h;omega⟩),rfl⟩,zM⟩
      ·refine O.q 10 rfl<|O.nil<|S.ret results277 rfl fun w hw=>Holds.end_ hR hw ?_
       first|exact ⟨_,⟨congrArg _ (zdf (fun w=>by have:=(nodeOk_1 hG e).1 w;omega)).symm,rfl⟩,zM⟩|exact ⟨_,⟨congrArg _ (zdt ((nodeOk_1 hG e).2 zD)).symm,rfl⟩,zM⟩|exact ⟨_,⟨congrArg _ (decide_eq_decide.2 ⟨fun h=>(nodeOk_1 hG e).2 zD,fun h=>by have:=(nodeOk_1 hG e).1 h;omega⟩),rfl⟩,zM⟩
     ·refine O.q 15 rfl<|O.nil<|S.ret results277 rfl fun w hw=>Holds.end_ hR hw ?_
      first|exact ⟨_,⟨congrArg _ (zdf (fun w=>by have:=(nodeOk_1 hG e).1 w;omega)).symm,rfl⟩,zM⟩|exact ⟨_,⟨congrArg _ (zdt ((nodeOk_1 hG e).2 zD)).symm,rfl⟩,zM⟩|exact ⟨_,⟨congrArg _ (decide_eq_decide.2 ⟨fun h=>(nodeOk_1 hG e).2 zD,fun h=>by have:=(nodeOk_1 hG e).1 h;omega⟩),rfl⟩,zM⟩
   ·have n1:=e
    by_cases e:x.1=2
    ·
     refine zz 2 ?_;refine S.regionD (L:=.range 15) F.mixed zB ?_;refine zz 8 ?_
     refine OD.cs 59 rfl (fun h59=>?_) fun h59=>?_
     ·refine zz 11 ?_
      refine O.op (.p rfl) (.fieldAddr fld35x0 rfl)<|zz 2 ?_;refine O.sF 67 rfl (by exact zdf fun w=>n3 (byte_eq (b:=3).1 w)) ?_;refine zz 5 ?_;refine O.opE (.p rfl) (.makeMapK' (enc:=encB)) ?_;rintro _ _ ⟨b74,rfl,rfl⟩;refine O.opU rfl (.insertK (key:=1) underlying335 (keyOkB underlying32) rfl rfl rfl zC) ?_;refine O.opU rfl (.insertK (key:=2) underlying335 (keyOkB underlying32) rfl rfl rfl zC) ?_;refine O.opU rfl (.insertK (key:=4) underlying335 (keyOkB underlying32) rfl rfl rfl zC)<|zz 1 ?_;refine O.op (.p rfl) (.fieldAddr fld35x0 rfl)<|zz 1 ?_;refine O.op (.p rfl) (.lookupK underlying335 (keyOkB underlying32) zeroValue3 rfl rfl zC) ?_;refine O.q 2 rfl<|O.slot 79 (v' :=.int .i64 1) rfl (by rw [e];rfl) ?_;refine O.q 1 rfl<|O.sT 80 rfl (by rw [e];rfl)<|zz 7 ?_;refine O.op (.g rfl rfl) (.fieldAddr fld35x1 rfl)<|zz 2 ?_;refine O.op (.g rfl rfl) (.fieldAddr fld35x2 rfl)<|zz 6 ?_
      refine O.cs 92 rfl (fun h92=>?_) fun h92=>?_
      ·refine zz 5 ?_
       refine O.cs 97 rfl (fun h97=>?_) fun h97=>?_
       ·refine zz 4 ?_
        refine O.cs 101 rfl (fun h101=>?_) fun h101=>?_
        ·refine O.q 6 rfl<|O.nil<|S.ret results277 rfl fun w hw=>Holds.end_ hR hw ?_
         first|exact ⟨_,⟨congrArg _ (zdf (fun w=>by have:=(nodeOk_2 hG e).1 w;omega)).symm,rfl⟩,zM⟩|exact ⟨_,⟨congrArg _ (zdt ((nodeOk_2 hG e).2 zD)).symm,rfl⟩,zM⟩|exact ⟨_,⟨congrArg _ (decide_eq_decide.2 ⟨fun h=>(nodeOk_2 hG e).2 zD,fun h=>by have:=(nodeOk_2 hG e).1 h;omega⟩),rfl⟩,zM⟩
        ·refine O.op (.g rfl rfl) (.fieldAddr fld35x0 rfl) ?_
         refine zz 2 ?_;refine O.sF 104 rfl (by rw [e];rfl) ?_;refine O.q 3 rfl<|O.nil<|S.ret results277 rfl fun w hw=>Holds.end_ hR hw ?_
         first|exact ⟨_,⟨congrArg _ (zdf (fun w=>by have:=(nodeOk_2 hG e).1 w;omega)).symm,rfl⟩,zM⟩|exact ⟨_,⟨congrArg _ (zdt ((nodeOk_2 hG e).2 zD)).symm,rfl⟩,zM⟩|exact ⟨_,⟨congrArg _ (decide_eq_decide.2 ⟨fun h=>(nodeOk_2 hG e).2 zD,fun h=>by have:=(nodeOk_2 hG e).1 h;omega⟩),rfl⟩,zM⟩
       ·refine O.q 10 rfl<|O.nil<|S.ret results277 rfl fun w hw=>Holds.end_ hR hw ?_
        first|exact ⟨_,⟨congrArg _ (zdf (fun w=>by have:=(nodeOk_2 hG e).1 w;omega)).symm,rfl⟩,zM⟩|exact ⟨_,⟨congrArg _ (zdt ((nodeOk_2 hG e).2 zD)).symm,rfl⟩,zM⟩|exact ⟨_,⟨congrArg _ (decide_eq_decide.2 ⟨fun h=>(nodeOk_2 hG e).2 zD,fun h=>by have:=(nodeOk_2 hG e).1 h;omega⟩),rfl⟩,zM⟩
      ·refine O.q 15 rfl<|O.nil<|S.ret results277 rfl fun w hw=>Holds.end_ hR hw ?_
       first|exact ⟨_,⟨congrArg _ (zdf (fun w=>by have:=(nodeOk_2 hG e).1 w;omega)).symm,rfl⟩,zM⟩|exact ⟨_,⟨congrArg _ (zdt ((nodeOk_2 hG e).2 zD)).symm,rfl⟩,zM⟩|exact ⟨_,⟨congrArg _ (decide_eq_decide.2 ⟨fun h=>(nodeOk_2 hG e).2 zD,fun h=>by have:=(nodeOk_2 hG e).1 h;omega⟩),rfl⟩,zM⟩
     ·refine zz 11 ?_
      refine O.op (.p rfl) (.fieldAddr fld35x0 rfl)<|zz 2 ?_;refine O.sF 67 rfl (by exact zdf fun w=>n3 (byte_eq (b:=3).1 w)) ?_;refine zz 5 ?_;refine O.opE (.p rfl) (.makeMapK' (enc:=encB)) ?_;rintro _ _ ⟨b74,rfl,rfl⟩;refine O.opU rfl (.insertK (key:=1) underlying335 (keyOkB underlying32) rfl rfl rfl zC) ?_;refine O.opU rfl (.insertK (key:=2) underlying335 (keyOkB underlying32) rfl rfl rfl zC) ?_;refine O.opU rfl (.insertK (key:=4) underlying335 (keyOkB underlying32) rfl rfl rfl zC)<|zz 1 ?_;refine O.op (.p rfl) (.fieldAddr fld35x0 rfl)<|zz 1 ?_;refine O.op (.p rfl) (.lookupK underlying335 (keyOkB underlying32) zeroValue3 rfl rfl zC) ?_;refine O.q 2 rfl<|O.slot 79 (v' :=.int .i64 1) rfl (by rw [e];rfl) ?_;refine O.q 1 rfl<|O.sT 80 rfl (by rw [e];rfl)<|zz 7 ?_;refine O.op (.g rfl rfl) (.fieldAddr fld35x1 rfl)<|zz 2 ?_;refine O.op (.g rfl rfl) (.fieldAddr fld35x2 rfl)<|zz 6 ?_
      refine O.cs 92 rfl (fun h92=>?_) fun h92=>?_
      ·refine zz 5 ?_
       refine O.cs 97 rfl (fun h97=>?_) fun h97=>?_
       ·refine zz 4 ?_
        refine O.cs 101 rfl (fun h101=>?_) fun h101=>?_
        ·refine O.q 6 rfl<|O.nil<|S.ret results277 rfl fun w hw=>Holds.end_ hR hw ?_
         first|exact ⟨_,⟨congrArg _ (zdf (fun w=>by have:=(nodeOk_2 hG e).1 w;omega)).symm,rfl⟩,zM⟩|exact ⟨_,⟨congrArg _ (zdt ((nodeOk_2 hG e).2 zD)).symm,rfl⟩,zM⟩|exact ⟨_,⟨congrArg _ (decide_eq_decide.2 ⟨fun h=>(nodeOk_2 hG e).2 zD,fun h=>by have:=(nodeOk_2 hG e).1 h;omega⟩),rfl⟩,zM⟩
        ·refine O.op (.g rfl rfl) (.fieldAddr fld35x0 rfl) ?_
         refine zz 2 ?_;refine O.sF 104 rfl (by rw [e];rfl) ?_;refine O.q 3 rfl<|O.nil<|S.ret results277 rfl fun w hw=>Holds.end_ hR hw ?_
         first|exact ⟨_,⟨congrArg _ (zdf (fun w=>by have:=(nodeOk_2 hG e).1 w;omega)).symm,rfl⟩,zM⟩|exact ⟨_,⟨congrArg _ (zdt ((nodeOk_2 hG e).2 zD)).symm,rfl⟩,zM⟩|exact ⟨_,⟨congrArg _ (decide_eq_decide.2 ⟨fun h=>(nodeOk_2 hG e).2 zD,fun h=>by have:=(nodeOk_2 hG e).1 h;omega⟩),rfl⟩,zM⟩
       ·refine O.q 10 rfl<|O.nil<|S.ret results277 rfl fun w hw=>Holds.end_ hR hw ?_
        first|exact ⟨_,⟨congrArg _ (zdf (fun w=>by have:=(nodeOk_2 hG e).1 w;omega)).symm,rfl⟩,zM⟩|exact ⟨_,⟨congrArg _ (zdt ((nodeOk_2 hG e).2 zD)).symm,rfl⟩,zM⟩|exact ⟨_,⟨congrArg _ (decide_eq_decide.2 ⟨fun h=>(nodeOk_2 hG e).2 zD,fun h=>by have:=(nodeOk_2 hG e).1 h;omega⟩),rfl⟩,zM⟩
      ·refine O.q 15 rfl<|O.nil<|S.ret results277 rfl fun w hw=>Holds.end_ hR hw ?_
       first|exact ⟨_,⟨congrArg _ (zdf (fun w=>by have:=(nodeOk_2 hG e).1 w;omega)).symm,rfl⟩,zM⟩|exact ⟨_,⟨congrArg _ (zdt ((nodeOk_2 hG e).2 zD)).symm,rfl⟩,zM⟩|exact ⟨_,⟨congrArg _ (decide_eq_decide.2 ⟨fun h=>(nodeOk_2 hG e).2 zD,fun h=>by have:=(nodeOk_2 hG e).1 h;omega⟩),rfl⟩,zM⟩
    ·have n2:=e
     by_cases e:x.1=4
     ·
      refine zz 2 ?_;refine S.regionD (L:=.range 15) F.mixed zB ?_;refine zz 8 ?_
      refine OD.cs 59 rfl (fun h59=>?_) fun h59=>?_
      ·refine zz 11 ?_
       refine O.op (.p rfl) (.fieldAddr fld35x0 rfl)<|zz 2 ?_;refine O.sF 67 rfl (by exact zdf fun w=>n3 (byte_eq (b:=3).1 w)) ?_;refine zz 5 ?_;refine O.opE (.p rfl) (.makeMapK' (enc:=encB)) ?_;rintro _ _ ⟨b74,rfl,rfl⟩;refine O.opU rfl (.insertK (key:=1) underlying335 (keyOkB underlying32) rfl rfl rfl zC) ?_;refine O.opU rfl (.insertK (key:=2) underlying335 (keyOkB underlying32) rfl rfl rfl zC) ?_;refine O.opU rfl (.insertK (key:=4) underlying335 (keyOkB underlying32) rfl rfl rfl zC)<|zz 1 ?_;refine O.op (.p rfl) (.fieldAddr fld35x0 rfl)<|zz 1 ?_;refine O.op (.p rfl) (.lookupK underlying335 (keyOkB underlying32) zeroValue3 rfl rfl zC) ?_;refine O.q 2 rfl<|O.slot 79 (v' :=.int .i64 2) rfl (by rw [e];rfl) ?_;refine O.q 1 rfl<|O.sT 80 rfl (by rw [e];rfl)<|zz 7 ?_;refine O.op (.g rfl rfl) (.fieldAddr fld35x1 rfl)<|zz 2 ?_;refine O.op (.g rfl rfl) (.fieldAddr fld35x2 rfl)<|zz 6 ?_
       refine O.cs 92 rfl (fun h92=>?_) fun h92=>?_
       ·refine zz 5 ?_
        refine O.cs 97 rfl (fun h97=>?_) fun h97=>?_
        ·refine zz 4 ?_
         refine O.cs 101 rfl (fun h101=>?_) fun h101=>?_
         ·refine O.q 6 rfl<|O.nil<|S.ret results277 rfl fun w hw=>Holds.end_ hR hw ?_
          first|exact ⟨_,⟨congrArg _ (zdf (fun w=>by have:=(nodeOk_4 hG e).1 w;omega)).symm,rfl⟩,zM⟩|exact ⟨_,⟨congrArg _ (zdt ((nodeOk_4 hG e).2 zD)).symm,rfl⟩,zM⟩|exact ⟨_,⟨congrArg _ (decide_eq_decide.2 ⟨fun h=>(nodeOk_4 hG e).2 zD,fun h=>by have:=(nodeOk_4 hG e).1 h;omega⟩),rfl⟩,zM⟩
         ·refine O.op (.g rfl rfl) (.fieldAddr fld35x0 rfl) ?_
          refine zz 2 ?_;refine O.sT 104 rfl (by rw [e];rfl) ?_;refine O.q 3 rfl<|O.nil<|S.ret results277 rfl fun w hw=>Holds.end_ hR hw ?_
          first|exact ⟨_,⟨congrArg _ (zdf (fun w=>by have:=(nodeOk_4 hG e).1 w;omega)).symm,rfl⟩,zM⟩|exact ⟨_,⟨congrArg _ (zdt ((nodeOk_4 hG e).2 zD)).symm,rfl⟩,zM⟩|exact ⟨_,⟨congrArg _ (decide_eq_decide.2 ⟨fun h=>(nodeOk_4 hG e).2 zD,fun h=>by have:=(nodeOk_4 hG e).1 h;omega⟩),rfl⟩,zM⟩
        ·refine O.q 10 rfl<|O.nil<|S.ret results277 rfl fun w hw=>Holds.end_ hR hw ?_
         first|exact ⟨_,⟨congrArg _ (zdf (fun w=>by have:=(nodeOk_4 hG e).1 w;omega)).symm,rfl⟩,zM⟩|exact ⟨_,⟨congrArg _ (zdt ((nodeOk_4 hG e).2 zD)).symm,rfl⟩,zM⟩|exact ⟨_,⟨congrArg _ (decide_eq_decide.2 ⟨fun h=>(nodeOk_4 hG e).2 zD,fun h=>by have:=(nodeOk_4 hG e).1 h;omega⟩),rfl⟩,zM⟩
       ·refine O.q 15 rfl<|O.nil<|S.ret results277 rfl fun w hw=>Holds.end_ hR hw ?_
        first|exact ⟨_,⟨congrArg _ (zdf (fun w=>by have:=(nodeOk_4 hG e).1 w;omega)).symm,rfl⟩,zM⟩|exact ⟨_,⟨congrArg _ (zdt ((nodeOk_4 hG e).2 zD)).symm,rfl⟩,zM⟩|exact ⟨_,⟨congrArg _ (decide_eq_decide.2 ⟨fun h=>(nodeOk_4 hG e).2 zD,fun h=>by have:=(nodeOk_4 hG e).1 h;omega⟩),rfl⟩,zM⟩
      ·refine zz 11 ?_
       refine O.op (.p rfl) (.fieldAddr fld35x0 rfl)<|zz 2 ?_;refine O.sF 67 rfl (by exact zdf fun w=>n3 (byte_eq (b:=3).1 w)) ?_;refine zz 5 ?_;refine O.opE (.p rfl) (.makeMapK' (enc:=encB)) ?_;rintro _ _ ⟨b74,rfl,rfl⟩;refine O.opU rfl (.insertK (key:=1) underlying335 (keyOkB underlying32) rfl rfl rfl zC) ?_;refine O.opU rfl (.insertK (key:=2) underlying335 (keyOkB underlying32) rfl rfl rfl zC) ?_;refine O.opU rfl (.insertK (key:=4) underlying335 (keyOkB underlying32) rfl rfl rfl zC)<|zz 1 ?_;refine O.op (.p rfl) (.fieldAddr fld35x0 rfl)<|zz 1 ?_;refine O.op (.p rfl) (.lookupK underlying335 (keyOkB underlying32) zeroValue3 rfl rfl zC) ?_;refine O.q 2 rfl<|O.slot 79 (v' :=.int .i64 2) rfl (by rw [e];rfl) ?_;refine O.q 1 rfl<|O.sT 80 rfl (by rw [e];rfl)<|zz 7 ?_;refine O.op (.g rfl rfl) (.fieldAddr fld35x1 rfl)<|zz 2 ?_;refine O.op (.g rfl rfl) (.fieldAddr fld35x2 rfl)<|zz 6 ?_
       refine O.cs 92 rfl (fun h92=>?_) fun h92=>?_
       ·refine zz 5 ?_
        refine O.cs 97 rfl (fun h97=>?_) fun h97=>?_
        ·refine zz 4 ?_
         refine O.cs 101 rfl (fun h101=>?_) fun h101=>?_
         ·refine O.q 6 rfl<|O.nil<|S.ret results277 rfl fun w hw=>Holds.end_ hR hw ?_
          first|exact ⟨_,⟨congrArg _ (zdf (fun w=>by have:=(nodeOk_4 hG e).1 w;omega)).symm,rfl⟩,zM⟩|exact ⟨_,⟨congrArg _ (zdt ((nodeOk_4 hG e).2 zD)).symm,rfl⟩,zM⟩|exact ⟨_,⟨congrArg _ (decide_eq_decide.2 ⟨fun h=>(nodeOk_4 hG e).2 zD,fun h=>by have:=(nodeOk_4 hG e).1 h;omega⟩),rfl⟩,zM⟩
         ·refine O.op (.g rfl rfl) (.fieldAddr fld35x0 rfl) ?_
          refine zz 2 ?_;refine O.sT 104 rfl (by rw [e];rfl) ?_;refine O.q 3 rfl<|O.nil<|S.ret results277 rfl fun w hw=>Holds.end_ hR hw ?_
          first|exact ⟨_,⟨congrArg _ (zdf (fun w=>by have:=(nodeOk_4 hG e).1 w;omega)).symm,rfl⟩,zM⟩|exact ⟨_,⟨congrArg _ (zdt ((nodeOk_4 hG e).2 zD)).symm,rfl⟩,zM⟩|exact ⟨_,⟨congrArg _ (decide_eq_decide.2 ⟨fun h=>(nodeOk_4 hG e).2 zD,fun h=>by have:=(nodeOk_4 hG e).1 h;omega⟩),rfl⟩,zM⟩
        ·refine O.q 10 rfl<|O.nil<|S.ret results277 rfl fun w hw=>Holds.end_ hR hw ?_
         first|exact ⟨_,⟨congrArg _ (zdf (fun w=>by have:=(nodeOk_4 hG e).1 w;omega)).symm,rfl⟩,zM⟩|exact ⟨_,⟨congrArg _ (zdt ((nodeOk_4 hG e).2 zD)).symm,rfl⟩,zM⟩|exact ⟨_,⟨congrArg _ (decide_eq_decide.2 ⟨fun h=>(nodeOk_4 hG e).2 zD,fun h=>by have:=(nodeOk_4 hG e).1 h;omega⟩),rfl⟩,zM⟩
       ·refine O.q 15 rfl<|O.nil<|S.ret results277 rfl fun w hw=>Holds.end_ hR hw ?_
        first|exact ⟨_,⟨congrArg _ (zdf (fun w=>by have:=(nodeOk_4 hG e).1 w;omega)).symm,rfl⟩,zM⟩|exact ⟨_,⟨congrArg _ (zdt ((nodeOk_4 hG e).2 zD)).symm,rfl⟩,zM⟩|exact ⟨_,⟨congrArg _ (decide_eq_decide.2 ⟨fun h=>(nodeOk_4 hG e).2 zD,fun h=>by have:=(nodeOk_4 hG e).1 h;omega⟩),rfl⟩,zM⟩
     ·have n4:=e
      have e:=nodeOk_5 n1 n2 n3 n4;refine zz 2 ?_;refine S.regionD (L:=.range 15) F.mixed zB ?_;refine zz 8 ?_
      refine OD.cs 59 rfl (fun h59=>?_) fun h59=>?_
      ·refine zz 11 ?_
       refine O.op (.p rfl) (.fieldAddr fld35x0 rfl)<|zz 2 ?_;refine O.sF 67 rfl (by exact zdf fun w=>n3 (byte_eq (b:=3).1 w)) ?_;refine zz 5 ?_;refine O.opE (.p rfl) (.makeMapK' (enc:=encB)) ?_;rintro _ _ ⟨b74,rfl,rfl⟩;refine O.opU rfl (.insertK (key:=1) underlying335 (keyOkB underlying32) rfl rfl rfl zC) ?_;refine O.opU rfl (.insertK (key:=2) underlying335 (keyOkB underlying32) rfl rfl rfl zC) ?_;refine O.opU rfl (.insertK (key:=4) underlying335 (keyOkB underlying32) rfl rfl rfl zC)<|zz 1 ?_;refine O.op (.p rfl) (.fieldAddr fld35x0 rfl)<|zz 1 ?_;refine O.op (.p rfl) (.lookupK underlying335 (keyOkB underlying32) zeroValue3 rfl rfl zC) ?_;refine O.q 3 rfl<|O.sF 80 rfl (by simp [getK,putK,n1,n2,n4,Ne.symm n1,Ne.symm n2,Ne.symm n4])<|zz 33 ?_;refine S.ret results277 rfl fun w hw=>Holds.end_ hR hw ?_
       first|exact ⟨_,⟨congrArg _ (zdf e).symm,rfl⟩,zM⟩
      ·refine zz 11 ?_
       refine O.op (.p rfl) (.fieldAddr fld35x0 rfl)<|zz 2 ?_;refine O.sF 67 rfl (by exact zdf fun w=>n3 (byte_eq (b:=3).1 w)) ?_;refine zz 5 ?_;refine O.opE (.p rfl) (.makeMapK' (enc:=encB)) ?_;rintro _ _ ⟨b74,rfl,rfl⟩;refine O.opU rfl (.insertK (key:=1) underlying335 (keyOkB underlying32) rfl rfl rfl zC) ?_;refine O.opU rfl (.insertK (key:=2) underlying335 (keyOkB underlying32) rfl rfl rfl zC) ?_;refine O.opU rfl (.insertK (key:=4) underlying335 (keyOkB underlying32) rfl rfl rfl zC)<|zz 1 ?_;refine O.op (.p rfl) (.fieldAddr fld35x0 rfl)<|zz 1 ?_;refine O.op (.p rfl) (.lookupK underlying335 (keyOkB underlying32) zeroValue3 rfl rfl zC) ?_;refine O.q 3 rfl<|O.sF 80 rfl (by simp [getK,putK,n1,n2,n4,Ne.symm n1,Ne.symm n2,Ne.symm n4])<|zz 33 ?_;refine S.ret results277 rfl fun w hw=>Holds.end_ hR hw ?_
       first|exact ⟨_,⟨congrArg _ (zdf e).symm,rfl⟩,zM⟩
theorem owned_one {α:Type} {T:Rp α} {e:TypeId} {v:Value} {xs:List α} {m:Fr} (h:Sat [OwnP T e v xs] m):Arr T m v xs:=by
 obtain ⟨m1,_,_,s1,_,o,_⟩:=h;exact (OwnP.arr o).mono s1
theorem each_arr {α:Type} {T:Rp α} {e:TypeId} {vs:List Value} {xs:List (List α)} {m k:Fr} (s:m.sub k) (x:EachP (OwnP T e) vs xs m):All2 (Arr T k) vs xs:=EachP.all2 (R:=fun v a=>Arr T k v a) (fun _ _ _ z w=>Arr.mono w (OwnP.arr z)) x s
theorem each_two {β α:Type} {A:β→α→SProp} {bs:List β} {ys:List α} {b1 b2:β} {a1 a2:α} {m:Fr} (st:Sat [EachP A bs ys,A b1 a1,A b2 a2] m):EachP A (bs++[b1,b2]) (ys++[a1,a2]) m:=by
 obtain ⟨h1,h2,d,s1,s2,x,y⟩:=st;exact EachP.app ⟨h1,h2,d,s1,s2,x,h2,Fr.emp,Fr.disj_symm (Fr.emp_disj _),Fr.sub_refl _,Fr.emp_sub _,EachP.of_sat (A:=A) (bs:=[b1,b2]) rfl y,trivial⟩
def nodeTag (k:UInt8):UInt8:=[0,0,1,2,3].getD k.toNat 0
noncomputable def leafParts (l:List LeafT):List (List UInt8):=(l.map fun y=>[bytesOf y.1,setP_q y.2.1]).flatten
noncomputable def nodeParts (x:NodeT):List (List UInt8):=[[nodeTag x.1],x.2.1,x.2.2.1]++leafParts x.2.2.2.1
noncomputable def nodeSumP (x:NodeT):List UInt8:=if nodeOk x then shaSum (nodeParts x).flatten else []
theorem nodeSumY {x:NodeT} (h:nodeOk x):nodeSumP x=shaSum (nodeParts x).flatten:=by unfold nodeSumP;rw [if_pos h]
theorem nodeSumN {x:NodeT} (h:¬ nodeOk x):nodeSumP x=[]:=by unfold nodeSumP;rw [if_neg h]
theorem nodeSum_64 (x:NodeT):(nodeSumP x).length=64↔nodeOk x:=by
 by_cases h:nodeOk x
 ·rw [nodeSumY h,shaSum_len];exact ⟨fun _=>h,fun _=>rfl⟩
 ·rw [nodeSumN h];exact ⟨fun w=>absurd w zE,fun w=>absurd w h⟩
theorem leafParts_snoc {l:List LeafT} {k:Nat} (h:k<l.length):leafParts (l.take k)++[bytesOf l[k].1,setP_q l[k].2.1]=leafParts (l.take (k+1)):=by
 rw [List.take_succ_eq_append_getElem h];unfold leafParts;rw [List.map_append,List.flatten_append];simp
theorem leafParts_sum:∀ l:List LeafT,(∀ y∈l,y.1.length≤64)→(leafParts l).flatten.length≤136*l.length
 |[],_=>Nat.zero_le _
 |y::l,h=>by
  have:=leafParts_sum l fun z hz=>h z (by simp [hz]);have h1:=h y zG;have h2:=setP_len_q y.2.1;unfold leafParts at *;simp only [List.map_cons,List.flatten_cons,List.flatten_append,List.length_append,List.length_cons,List.flatten_nil,List.length_nil,bytesOf_length];omega
theorem nodeTag_val {k:UInt8} (h:k.toNat<5):byteV ([0,0,1,2,3]:List UInt8)[k.toNat]=byteV (nodeTag k):=by
 unfold nodeTag;rw [List.getD_eq_getElem?_getD,List.getElem?_eq_getElem (show k.toNat<([0,0,1,2,3]:List UInt8).length from h)]
 rfl
theorem node_kind {x:NodeT} (h:nodeOk x):x.1.toNat<5:=by
 rcases h.2 with h|h|h|h<;>(rw [h.1];decide)
theorem nodeSum_c {r:Fr} {cs:List Value} {x:NodeT} (h:NodeRp.rel r cs x) (hx0:x.2.1.length≤1000000000000∧x.2.2.1.length≤1000000000000) (hx2:x.2.2.2.1.length≤10000000∧∀ y∈x.2.2.2.1,y.2.1.length≤10000000) (hH:At r ⟨0,0,none⟩ (w64s shaH)) (hK:At r ⟨1,0,none⟩ (w64s shaK)) :
  Con prog 238 #[.agg cs.toArray] r [] (Ret fun v η=>∃ a c,v=.slice a (nodeSumP x).length c∧η=[OwnP Rp.u8 5 (.slice a (nodeSumP x).length c) (nodeSumP x)]):=by
 have h0:=h;obtain ⟨a1,a2,a3,c1,c2,c3,rfl,k1,k2,k3⟩:=NodeRp.sh h;refine Con.of (n:=40) _ rfl func238 rfl rfl rfl fun g hg R hR=>?_;have h:=h.mono hg;have h0:=h0.mono hg;have k1:=k1.mono hg;have k2:=k2.mono hg;have k3:=k3.mono hg;have hH:=hH.mono hg;have hK:=hK.mono hg;have hb:=k3.bound;refine S.seq<|S.region rfl<|O.opE (.p rfl) (.box (cs:=[_,_,_,_]) rfl rfl) ?_;rintro _ _ ⟨b1,rfl,rfl⟩;refine O.q 1 rfl<|O.nil<|S.seq<|S.seq<|S.objIs (b:=b1) (cs' :=[byteV x.1,.slice a1 x.2.1.length c1,.slice a2 x.2.2.1.length c2,.slice a3 x.2.2.2.1.length c3]) zC rfl ?_;refine S.frzO zC fun g hs hm h1=>?_;replace hg:=Fr.sub_trans hg hs;replace hR:=melted hR hm
 try replace h:=h.mono hs
 try replace h0:=h0.mono hs
 try replace k1:=k1.mono hs
 try replace k2:=k2.mono hs
 try replace k3:=k3.mono hs
 try replace hH:=hH.mono hs
 try replace hK:=hK.mono hs
 clear hs hm
 by_cases e:nodeOk x
 ·have hkd:=node_kind e
  have hkeys:∀ y∈x.2.2.2.1,y.1.length≤64:=fun y hy=>(e.1.1 y hy).1.2;have h64:x.2.1.length≤64∧x.2.2.1.length≤64:=by rcases e.2 with q|q|q|q;rw [q.2.1,q.2.2.1];decide;rw [q.2.1,q.2.2.1];decide;omega;rw [q.2.1,q.2.2.1];decide
  refine S.region rfl<|O.op (.p rfl) (.loadAgg isAgg35 zB rfl h1) ?_;refine O.call0 (.p rfl) rfl zB rfl rfl ((mright_c h0 hx0 (fun y hy=>by have:=hx2.2 y hy;omega))) ?_;rintro _ _ ⟨rfl,rfl⟩
  try simp only [zx1,zx2,zx3]
  refine O.sT 7 rfl (by exact decide_eq_true e) ?_;refine O.op (.p rfl) (.not rfl)<|O.nil<|S.condF rfl<|S.skip<|S.seq<|S.regionD (L:=[1,2,6,7,8,9,0,3,4,5,10,11]) F.mixed zB ?_;refine .quiet (.p rfl) rfl (fun _=>.fieldAddr fld35x0 rfl)<|.quiet (.p rfl) rfl (fun _=>.loadAt flat32 rfl h1 rfl) ?_;refine .quiet (.p rfl) rfl (fun _=>.fieldAddr fld35x1 rfl)<|.quiet (.p rfl) rfl (fun _=>.loadAt flat22 rfl (h1.drop 1) rfl) ?_;refine .quiet (.p rfl) rfl (fun _=>.fieldAddr fld35x2 rfl)<|.quiet (.p rfl) rfl (fun _=>.loadAt flat22 rfl (h1.drop 2) rfl) ?_;refine OD.litP (T:=Rp.u8) (ys:=[0,0,1,2,3]) (.p rfl) zB underlying22 elem5 zE rfl rfl ⟨rfl,rfl,rfl,rfl,rfl,trivial⟩ zE (fun a9 c9=>?_);refine OD.idxOwn (T:=Rp.u8) (e:=5) (v:=.slice a9 5 c9) (xs:=[0,0,1,2,3]) (j:=x.1.toNat) (.p rfl) zB underlying22 size5 rfl rfl rfl zC hkd (fun p12 hp12=>?_);refine OD.loadL (.p rfl) zB (fun _=>.loadOwn (T:=Rp.u8) (xs:=[0,0,1,2,3]) (j:=x.1.toNat) flat5 rfl hp12 rfl zC hkd (by rintro _ rfl;exact congrArg (fun v=>[v]) (nodeTag_val hkd))) ?_;refine OD.litP (.p rfl) zB (T:=Rp.u8) (ys:=[nodeTag x.1]) underlying22 elem5 zE rfl rfl ⟨rfl,trivial⟩ zE (fun a14 c14=>?_)
  refine OD.litP (.p rfl) zB (T:=Rp.val) (ys:=[.slice a14 1 c14,.slice a1 x.2.1.length c1,.slice a2 x.2.2.1.length c2]) underlying28 elem22 zE rfl rfl ⟨⟨rfl,rfl⟩,⟨rfl,rfl⟩,⟨rfl,rfl⟩,trivial⟩ zE (fun a19 c19=>?_);refine OD.q 1 rfl<|ODx.nil<|S.seq<|S.seq<|S.frz (A:=OwnP Rp.u8 5 (.slice a14 1 c14) [nodeTag x.1]) zC fun g hs hm ⟨_,x',s'⟩=>?_;have ht:=(fun s x=>Arr.mono s (OwnP.arr x)) s' x';clear x' s';replace hg:=Fr.sub_trans hg hs;replace hR:=melted hR hm
  try replace h:=h.mono hs
  try replace h0:=h0.mono hs
  try replace k1:=k1.mono hs
  try replace k2:=k2.mono hs
  try replace k3:=k3.mono hs
  try replace hH:=hH.mono hs
  try replace hK:=hK.mono hs
  try replace h1:=h1.mono hs
  clear hs hm;refine S.frz (A:=OwnP Rp.u8 5 (.slice a9 5 c9) [0,0,1,2,3]) zC fun g hs hm ⟨_,x',s'⟩=>?_;have h9:=(fun s x=>Arr.mono s (OwnP.arr x)) s' x';clear x' s';replace hg:=Fr.sub_trans hg hs;replace hR:=melted hR hm
  try replace h:=h.mono hs
  try replace h0:=h0.mono hs
  try replace k1:=k1.mono hs
  try replace k2:=k2.mono hs
  try replace k3:=k3.mono hs
  try replace hH:=hH.mono hs
  try replace hK:=hK.mono hs
  try replace h1:=h1.mono hs
  try replace ht:=ht.mono hs
  clear hs hm;refine S.foldS (A:=EachP (OwnP Rp.u8 5) [] (leafParts (x.2.2.2.1.take 0))) (bs:=[]) .nil (fun m _=>trivial) ?_;refine S.region rfl<|O.op (.p rfl) (.fieldAddr fld35x3 rfl)<|O.op (.p rfl) (.loadAt flat33 rfl (h1.drop 3) rfl) ?_;refine O.op (.p rfl) (.len rfl underlying33 rfl)<|O.q 1 rfl<|O.nil<|S.block<|S.loopK3 (ι:=Nat) (κ:=Option Addr × Nat) (υ:=List Value) (fun k s vs=>k≤x.2.2.2.1.length∧vs.length=2*k) (fun k s vs=>[(23,.int .i64 (k:Int)),(3,.slice s.1 (3+2*k) s.2)]) [(21,_),(22,_)] (fun k s vs=>[EachP (OwnP Rp.u8 5) vs (leafParts (x.2.2.2.1.take k)),OwnP Rp.val 22 (.slice s.1 (3+2*k) s.2) ([.slice a14 1 c14,.slice a1 x.2.1.length c1,.slice a2 x.2.2.1.length c2]++vs)]) (fun k s vs=>x.2.2.2.1.length - k) (0) ((a19,c19)) ([]) zV (.cons rfl (.cons rfl (.nil))) (.cons rfl (.cons rfl (.nil))) rfl fun k s vs hx ih=>?_;have hm1:=meltRefl (g:=g);obtain ⟨hx1,hvl⟩:=hx;refine S.seq<|S.region rfl<|O.op (.p rfl) (.lss rfl rfl)<|O.nil (S.seq ?_)
  first|refine S.condD rfl (fun h24=>?_) (fun h24=>?_)|refine S.condB rfl (fun h24=>?_) (fun h24=>?_)
  ·have hk:k<x.2.2.2.1.length:=by omega
   have hset:=hx2.2 _ (List.getElem_mem hk);have hkey:=hkeys _ (List.getElem_mem hk);have hsn:=leafParts_snoc hk;refine S.skip<|S.seq<|S.block<|S.seq<|S.region rfl<|O.ia (.p rfl) underlying33 size120 rfl rfl rfl (k3) (h:=fun p25 cs25 hp25 hr25=>?_);obtain ⟨l1,m1,rfl,l2,l3⟩:=LeafRp.sh hr25;have l3:=l3;refine O.op (.p rfl) (.loadAgg isAgg120 zB rfl hp25) ?_;refine O.opE (.p rfl) (.alloc (cs:=[.string ⟨#[]⟩,.slice none 0 0]) zeroValue120 rfl) ?_;rintro _ _ ⟨b5,rfl,rfl⟩;refine O.opU rfl (.storeObj zB rfl rfl rfl rfl zC zO) ?_;refine O.nil ?_;generalize x.2.2.2.1[k]=y at *;refine S.objIs (b:=b5) (cs' :=[.string (str y.1),.slice l1 y.2.1.length m1]) zC rfl ?_;refine S.frzO zC fun g hs hm h5=>?_;replace hg:=Fr.sub_trans hg hs;replace hR:=melted hR hm
   try replace h:=h.mono hs
   try replace h0:=h0.mono hs
   try replace k1:=k1.mono hs
   try replace k2:=k2.mono hs
   try replace k3:=k3.mono hs
   try replace hH:=hH.mono hs
   try replace hK:=hK.mono hs
   try replace h1:=h1.mono hs
   try replace ht:=ht.mono hs
   try replace h9:=h9.mono hs
   try replace hp25:=hp25.mono hs
   try replace l3:=l3.mono hs
   replace hm1:=meltTrans hm1 hm;clear hs hm;refine S.regionD (L:=[0,1,2,5,6,3,4,7,8,9,10]) F.mixed zB ?_;refine OD.q 1 rfl<|.quiet (.p rfl) rfl (fun _=>.fieldAddr fld120x0 rfl)<|.quiet (.p rfl) rfl (fun _=>.loadAt flat9 rfl h5 rfl) ?_;refine .quiet (.p rfl) rfl (fun _=>.fieldAddr fld120x1 rfl)<|.quiet (.p rfl) rfl (fun _=>.loadAt flat36 rfl (h5.drop 1) rfl) ?_;refine OD.strBytesO (.p rfl) zB underlying9 underlying22 underlying5 rfl (by first|assumption|omega|(simp;done)|(simp;omega)) (fun a30 c30=>?_);refine OD.callB (.p rfl) zB rfl zB rfl rfl (bs:=[OwnP Rp.u8 5 (.slice a30 y.1.length c30) y.1]) zI (fun m hm hd=>wBytes_c ((owned_one hm).right hd) zD) ?_;rintro _ _ ⟨a31,c31,rfl,rfl⟩
   try simp only [zx1,zx2,zx3]
   refine OD.call0 (.p rfl) zB rfl zB rfl rfl ((setSum_c l3 hH hK hset)) ?_;rintro _ _ ⟨a34,c34,rfl,rfl⟩
   try simp only [zx1,zx2,zx3]
   refine OD.litP (.p rfl) zB (T:=Rp.val) (ys:=[.slice a31 (bytesOf y.1).length c31,.slice a34 (setP_q y.2.1).length c34]) underlying28 elem22 zE rfl rfl ⟨⟨rfl,rfl⟩,⟨rfl,rfl⟩,trivial⟩ zE (fun a35 c35=>?_);refine OD.appendO (.p rfl) zB (T:=Rp.val) underlying28 elem22 zE rfl rfl zC zC zH zH (fun a36 c36=>?_);refine OD.q 1 rfl<|ODx.nil<|S.inBlock<|S.foldS (A:=EachP (OwnP Rp.u8 5) (vs++[.slice a31 (bytesOf y.1).length c31,.slice a34 (setP_q y.2.1).length c34]) (leafParts (x.2.2.2.1.take (k+1)))) (bs:=[EachP (OwnP Rp.u8 5) vs (leafParts (x.2.2.2.1.take k)),OwnP Rp.u8 5 (.slice a31 (bytesOf y.1).length c31) (bytesOf y.1),OwnP Rp.u8 5 (.slice a34 (setP_q y.2.1).length c34) (setP_q y.2.1)]) zI (fun m st=>by rw [← hsn];exact each_two st) ?_;refine S.frz (A:=OwnP Rp.u8 5 (.slice a30 y.1.length c30) y.1) zC fun g hs hm ⟨_,x',s'⟩=>?_;have hg0:=(fun s x=>Arr.mono s (OwnP.arr x)) s' x';clear x' s';replace hg:=Fr.sub_trans hg hs;replace hR:=melted hR hm
   try replace h:=h.mono hs
   try replace h0:=h0.mono hs
   try replace k1:=k1.mono hs
   try replace k2:=k2.mono hs
   try replace k3:=k3.mono hs
   try replace hH:=hH.mono hs
   try replace hK:=hK.mono hs
   try replace h1:=h1.mono hs
   try replace ht:=ht.mono hs
   try replace h9:=h9.mono hs
   try replace hp25:=hp25.mono hs
   try replace l3:=l3.mono hs
   try replace h5:=h5.mono hs
   replace hm1:=meltTrans hm1 hm;clear hs hm;refine S.ownIs (T:=Rp.val) (e:=22) (v' :=.slice a36 (3+2*(k+1)) c36) (xs' :=[.slice a14 1 c14,.slice a1 x.2.1.length c1,.slice a2 x.2.2.1.length c2]++(vs++[.slice a31 (bytesOf y.1).length c31,.slice a34 (setP_q y.2.1).length c34])) zC (by congr 1;simp only [List.length_cons,List.length_nil,hvl];omega) zG ?_;refine S.slot 3 (v' :=.slice a36 (3+2*(k+1)) c36) rfl (by congr 1;simp only [List.length_cons,List.length_nil,hvl];omega) ?_;refine S.region rfl<|O.op (.p rfl) (.add rfl rfl (IntWalk.i64_in _ zD))<|O.q 1 rfl<|O.nil ?_;exact S.melt hm1 (S.pw (ih (k+1) ((a36,c36)) ((vs++[.slice a31 (bytesOf y.1).length c31,.slice a34 (setP_q y.2.1).length c34])) (by exact ⟨by omega,by rw [List.length_append,hvl];simp only [List.length_cons,List.length_nil];omega⟩) zD))
  ·clear ih
   have hk:k=x.2.2.2.1.length:=by omega
   subst hk;rw [List.take_length];refine S.exit rfl<|S.seq<|S.frzA zC fun g hs hm hpv=>?_;replace hg:=Fr.sub_trans hg hs;replace hR:=melted hR hm
   try replace h:=h.mono hs
   try replace h0:=h0.mono hs
   try replace k1:=k1.mono hs
   try replace k2:=k2.mono hs
   try replace k3:=k3.mono hs
   try replace hH:=hH.mono hs
   try replace hK:=hK.mono hs
   try replace h1:=h1.mono hs
   try replace ht:=ht.mono hs
   try replace h9:=h9.mono hs
   replace hm1:=meltTrans hm1 hm;clear hs hm;refine S.frz (A:=EachP (OwnP Rp.u8 5) vs (leafParts x.2.2.2.1)) zC fun g hs hm ⟨_,x',s'⟩=>?_;have he:=each_arr s' x';clear x' s';replace hg:=Fr.sub_trans hg hs;replace hR:=melted hR hm
   try replace h:=h.mono hs
   try replace h0:=h0.mono hs
   try replace k1:=k1.mono hs
   try replace k2:=k2.mono hs
   try replace k3:=k3.mono hs
   try replace hH:=hH.mono hs
   try replace hK:=hK.mono hs
   try replace h1:=h1.mono hs
   try replace ht:=ht.mono hs
   try replace h9:=h9.mono hs
   try replace hpv:=hpv.mono hs
   replace hm1:=meltTrans hm1 hm;clear hs hm;have hpa:Arr (Rp.slice Rp.u8) g.h (.slice s.1 (3+2*x.2.2.2.1.length) s.2) (nodeParts x):=Arr.rows hpv ⟨ht,k1,k2,he⟩;have hsl:=leafParts_sum x.2.2.2.1 hkeys;have hfl:(nodeParts x).flatten.length≤10000000000:=by unfold nodeParts;simp only [List.flatten_append,List.flatten_cons,List.flatten_nil,List.length_append,List.length_cons,List.length_nil];omega
   refine S.region rfl<|O.q 1 rfl<|O.call0 (.p rfl) rfl zB rfl rfl ((shaSum_c hpa hH hK zD)) ?_;rintro _ _ ⟨a39,c39,rfl,rfl⟩
   try simp only [zx1,zx2,zx3]
   refine O.q 1 rfl<|O.nil ?_;have e1:=nodeSumY e;have e2:(nodeSumP x).length=64:=(nodeSum_64 x).2 e;refine S.ownIs (T:=Rp.u8) (e:=5) (v' :=.slice a39 (nodeSumP x).length c39) (xs' :=nodeSumP x) zC (by rw [e2]) e1.symm ?_;exact S.rt results238 rfl hR ⟨a39,c39,by rw [e2],rfl⟩
 ·have e1:=nodeSumN e
  refine S.region rfl<|O.op (.p rfl) (.loadAgg isAgg35 zB rfl h1) ?_;refine O.call0 (.p rfl) rfl zB rfl rfl ((mright_c h0 hx0 (fun y hy=>by have:=hx2.2 y hy;omega))) ?_;rintro _ _ ⟨rfl,rfl⟩
  try simp only [zx1,zx2,zx3]
  refine O.sF 7 rfl (by exact decide_eq_false e) ?_;refine O.op (.p rfl) (.not rfl)<|O.nil<|S.condT rfl<|S.seq<|S.region rfl<|O.q 1 rfl<|O.nil<|S.addNil (T:=Rp.u8) (e:=5) ?_;refine S.ownIs (T:=Rp.u8) (e:=5) (v' :=.slice none (nodeSumP x).length 0) (xs' :=nodeSumP x) zC (by rw [e1];rfl) e1.symm ?_;exact S.rt results238 rfl hR ⟨none,0,by rw [e1];rfl,rfl⟩
theorem indexBB_c {r:Fr} {va:Value} {xs:List (List UInt8)} {f:FuncId} {first cap:Array Value} (ha:Arr (Rp.slice Rp.u8) r va xs) (hc:callable prog f=true) (q:List UInt8→Bool)
  (con:∀ v x,x∈xs→Arr Rp.u8 r v x→Con prog f (first++#[v]++cap) r [] (Ret fun v η=>v=.bool (q x)∧η=[])) :
  Con prog 326 #[va,.func (.func f) first cap] r [] (Ret fun v η=>∃ k:Int,v=.int .i64 k∧(0≤k↔xs.any q=true)∧η=[]):=by
 have har:=ha;refine Con.of (n:=19) [va,.func (.func f) first cap] rfl func326 rfl rfl rfl fun g hg R hR=>?_;have ha:=ha.mono hg;have hbd:=ha.bound;obtain ⟨a1,c1,rfl⟩:=ha.shape;refine zz 12 ?_;refine S.loopK (ι:=Nat) (fun i=>i≤xs.length∧(xs.take i).any q=false) (fun i=>[(8,.int .i64 (i:Int))]) [(0,_),(1,_),(7,_)] (fun i=>[]) (fun i=>xs.length - i) (0) (by exact ⟨by simp,by simp⟩) zq zq rfl fun i hx ih=>?_;have hm1:=meltRefl (g:=g);obtain ⟨hx1,hx2⟩:=hx;refine zz 5 ?_;refine S.cd rfl (fun h9=>?_) fun h9=>?_
 ·have hi:i<xs.length:=by omega
  cases e:q xs[i] with
  |true =>
   have hy:xs.any q=true:=List.any_eq_true.2 ⟨xs[i],List.getElem_mem hi,e⟩;clear ih;refine zz 13 ?_;refine O.iy har hg (h:=fun p14 cs14 hp14 hrr14=>?_);have hr14:=Rp.rel.mono hrr14 hg;obtain ⟨v14,rfl,hq14⟩:=hrr14;refine zz 1 ?_;refine O.v0 (.p rfl) rfl hc rfl rfl (((con _ _ (List.getElem_mem hi) hq14).sub hg)) ?_;refine O.sT 16 rfl (by exact e) ?_;refine zz 7 ?_;exact S.rt results326 rfl hR ⟨(i:Int),rfl,⟨fun _=>hy,fun _=>by omega⟩,rfl⟩
  |false =>
   refine zz 13 ?_;refine O.iy har hg (h:=fun p14 cs14 hp14 hrr14=>?_);have hr14:=Rp.rel.mono hrr14 hg;obtain ⟨v14,rfl,hq14⟩:=hrr14;refine zz 1 ?_;refine O.v0 (.p rfl) rfl hc rfl rfl (((con _ _ (List.getElem_mem hi) hq14).sub hg)) ?_;refine O.sF 16 rfl (by exact e)<|zz 8 ?_;exact S.wk (ih (i+1) (by exact ⟨by omega,by rw [ztg hi,List.any_append,hx2];simp [e]⟩) zD)
 ·clear ih
  have hi:i=xs.length:=by omega
  subst hi;rw [List.take_length] at hx2;refine zz 5 ?_;exact S.rt results326 rfl hR ⟨-1,rfl,⟨fun h=>absurd h zE,fun h=>by rw [hx2] at h;cases h⟩,rfl⟩
theorem containsBB_c {r:Fr} {va:Value} {xs:List (List UInt8)} {f:FuncId} {first cap:Array Value} (ha:Arr (Rp.slice Rp.u8) r va xs) (hc:callable prog f=true) (q:List UInt8→Bool)
  (con:∀ v x,x∈xs→Arr Rp.u8 r v x→Con prog f (first++#[v]++cap) r [] (Ret fun v η=>v=.bool (q x)∧η=[])) (h1:(Value.func (.func f) first cap).oneCell' =true) :
  Con prog 289 #[va,.func (.func f) first cap] r [] (Ret fun v η=>v=.bool (xs.any q)∧η=[]):=by
 refine Con.of (n:=9) [va,.func (.func f) first cap] rfl func289 rfl rfl rfl fun g hg R hR=>?_;refine zz 8 ?_;refine O.call0 (.p rfl) rfl zB rfl rfl (((indexBB_c ha hc q con).sub hg)) ?_;rintro v7 _ ⟨k7,rfl,hk7,rfl⟩;refine zz 3 ?_;exact S.rt results289 rfl hR ⟨congrArg _ (by rw [Bool.eq_iff_iff,decide_eq_true_iff];exact hk7),rfl⟩
theorem not64_c {r:Fr} {va:Value} {x:List UInt8} (ha:Arr Rp.u8 r va x):Con prog 290 #[va] r [] (Ret fun v η=>v=.bool (decide (x.length≠64))∧η=[]):=by
 obtain ⟨a1,c1,rfl⟩:=ha.shape;refine Con.o func290 fun g hg R hR=>?_;refine zz 11 ?_;refine S.ret results290 rfl fun w hw=>Holds.end_ hR hw ?_
 first|exact ⟨_,⟨congrArg _ (decide_eq_decide.2 zD),rfl⟩,zM⟩
theorem plong_c {r:Fr} {s:List UInt8} (hl:s.length≤9223372036854775807):Con prog 288 #[.string (str s)] r [] (Ret fun v η=>v=.bool (decide (keyOk s))∧η=[]):=by
 refine Con.o func288 fun g hg R hR=>?_
 by_cases h1:1≤s.length
 ·by_cases h2:s.length≤64
  ·have e:decide (keyOk s)=true:=zdt ⟨h1,h2⟩
   refine zz 9 ?_;refine O.sT 5 rfl (by exact zdt zL)<|zz 4 ?_;refine O.sT 9 rfl (by exact zdt zL)<|zz 3 ?_;exact S.rt results288 rfl hR ⟨congrArg Value.bool e.symm,rfl⟩
  ·have e:decide (keyOk s)=false:=zdf fun h=>h2 h.2
   refine zz 9 ?_;refine O.sT 5 rfl (by exact zdt zL)<|zz 4 ?_;refine O.sF 9 rfl (by exact zdf zL)<|zz 3 ?_;exact S.rt results288 rfl hR ⟨congrArg Value.bool e.symm,rfl⟩
 ·have e:decide (keyOk s)=false:=zdf fun h=>h1 h.1
  refine zz 9 ?_;refine O.sF 5 rfl (by exact zdf zL)<|zz 7 ?_;exact S.rt results288 rfl hR ⟨congrArg Value.bool e.symm,rfl⟩
def SG (x:PrfT) (k:Nat):Prop:=∀ i (q:i<x.2.1.length),i<k→stubOk x.2.1[i]∧(0<i→(x.2.1[i - 1]'zD).1<x.2.1[i].1)
theorem SG.step {x:PrfT} {k:Nat} (hk:k<x.2.1.length) (h:SG x k) (hl:stubOk x.2.1[k]) (hr:0<k→(x.2.1[k - 1]'zD).1<x.2.1[k].1):SG x (k+1):=fun i q w=>by
 rcases Nat.lt_or_ge i k with w' |w'
 ·exact h i q w'
 ·have:i=k:=by omega
  subst this;exact ⟨hl,hr⟩
theorem SG.all {x:PrfT} (h:SG x x.2.1.length):(∀ y∈x.2.1,stubOk y)∧keysRise (·.1) x.2.1 :=
 ⟨fun y hy=>by obtain ⟨i,q,rfl⟩:=List.mem_iff_getElem.1 hy;exact (h i q q).1,fun i q w=>(h i q q).2 w⟩
theorem not_stubs {n:PrfT} {i:Nat} (h:i<n.2.1.length) (q:¬ stubOk n.2.1[i]):decide (prfOk n)=false:=zdf fun w=>q (w.2.2.1 _ (List.getElem_mem h))
theorem not_srise {n:PrfT} {i:Nat} (h:i<n.2.1.length) (h0:0<i) (q:¬ n.2.1[i - 1].1<n.2.1[i].1):decide (prfOk n)=false:=zdf fun w=>q (w.2.2.2 i h h0)
theorem any_64 (l:List (List UInt8)):(!l.any fun x=>decide (x.length≠64))=true↔∀ x∈l,x.length=64:=by
 rw [Bool.not_eq_true',List.any_eq_false];exact ⟨fun h x hx=>by have:=h x hx;simpa using this,fun h x hx=>by have:=h x hx;simpa using this⟩
theorem pRight_c {r:Fr} {cs:List Value} {x:PrfT} (h:PrfRp.rel r cs x):Con prog 246 #[.agg cs.toArray] r [] (Ret fun v η=>v=.bool (decide (prfOk x))∧η=[]):=by
 obtain ⟨a0,a1,c0,c1,rfl,k0,k1⟩:=PrfRp.sh h;refine Con.o func246 fun g hg R hR=>?_;have k0:=k0.mono hg;have k1:=k1.mono hg;have hb:=k0.bound;have hb1:=k1.bound;refine S.seq<|S.region rfl<|O.opE (.p rfl) (.box (cs:=[_,_]) rfl rfl) ?_;rintro _ _ ⟨b1,rfl,rfl⟩;refine zz 4 ?_;refine S.objIs (b:=b1) (cs' :=[.slice a0 x.1.length c0,.slice a1 x.2.1.length c1]) zC rfl ?_;refine S.frzO zC fun g hs hm h1=>?_;replace hg:=zfs hg hs;replace hR:=melted hR hm
 try replace k0:=k0.mono hs
 try replace k1:=k1.mono hs
 clear hs hm
 by_cases f:x.1.length≤510∧(1<x.2.1.length→x.1.length=510)
 ·
  refine S.cut2 (fun (u:Unit)=>True) (fun (u:Unit)=>[]) [(1,_)] (fun (u:Unit)=>[]) zq (fun key=>?_) (fun u hx=>?_)
  ·have hm1:=meltRefl (g:=g)
   by_cases f2:x.2.1.length>1
   ·have f3:=f.2 f2
    refine zz 1 ?_;refine O.op (.p rfl) (.fieldAddr fld31x0 rfl)<|zz 3 ?_;refine O.sF 8 rfl (by exact zdf zD)<|zz 1 ?_;refine O.op (.g rfl rfl) (.fieldAddr fld31x1 rfl)<|zz 3 ?_;refine O.sT 13 rfl (by exact zdt zD)<|zz 1 ?_;refine O.op (.g rfl rfl) (.fieldAddr fld31x0 rfl)<|zz 3 ?_;refine O.sF 18 rfl (by exact zdf zD)<|zz 5 ?_;refine S.pk ?_ (S.weaken ?_ (key (()) (by trivial)))
    ·exact zM
    repeat (first|exact Sub.nil|refine Sub.cons rfl ?_)
   ·
    refine zz 1 ?_;refine O.op (.p rfl) (.fieldAddr fld31x0 rfl)<|zz 3 ?_;refine O.sF 8 rfl (by exact zdf zD)<|zz 1 ?_;refine O.op (.g rfl rfl) (.fieldAddr fld31x1 rfl)<|zz 3 ?_;refine O.sF 13 rfl (by exact zdf zD)<|zz 10 ?_;refine S.pk ?_ (S.weaken ?_ (key (()) (by trivial)))
    ·exact zM
    repeat (first|exact Sub.nil|refine Sub.cons rfl ?_)
  ·
   refine zz 3 ?_;refine O.op (.p rfl) (.fieldAddr fld31x1 rfl)<|zz 5 ?_;refine S.loopK (ι:=Nat) (fun k=>k≤x.2.1.length∧SG x k) (fun k=>[(24,.int .i64 (k:Int))]) [(1,_),(22,_),(23,_)] (fun k=>[]) (fun k=>x.2.1.length - k) (0) (by exact ⟨by omega,fun i q w=>by omega⟩) zq zq rfl fun k hx ih=>?_;have hm1:=meltRefl (g:=g);obtain ⟨hx1,hall⟩:=hx;refine zz 5 ?_;refine S.cd rfl (fun h25=>?_) fun h25=>?_
   ·have hk:k<x.2.1.length:=by omega
    refine zz 6 ?_;refine O.iz (k1) (h:=fun p27 cs27 hp27 hr27=>?_);obtain ⟨l1,m1,rfl,l2,l3⟩:=StubRp.sh hr27;have l3:=l3;refine O.op (.p rfl) (.loadAgg isAgg122 zB rfl hp27) ?_;refine O.opE (.p rfl) (.alloc (cs:=[.string ⟨#[]⟩,.slice none 0 0]) zeroValue122 rfl) ?_;rintro _ _ ⟨b4,rfl,rfl⟩;refine zz 2 ?_;refine O.nil<|S.seq<|S.objIs (b:=b4) (cs' :=[.string (str x.2.1[k].1),.slice l1 x.2.1[k].2.1.length m1]) zC rfl ?_;refine S.frzO zC fun g hs hm h4=>?_;replace hg:=zfs hg hs;replace hR:=melted hR hm
    try replace k0:=k0.mono hs
    try replace k1:=k1.mono hs
    try replace h1:=h1.mono hs
    try replace hp27:=hp27.mono hs
    try replace l3:=l3.mono hs
    replace hm1:=meltTrans hm1 hm;clear hs hm
    by_cases q1:keyOk x.2.1[k].1
    ·by_cases q2:x.2.1[k].2.1.length=64
     ·have hlf:stubOk x.2.1[k]:=⟨q1,q2⟩
      by_cases q4:0<k
      ·by_cases q5:(x.2.1[k - 1]'zD).1<x.2.1[k].1
       ·
        refine S.regionD (L:=.range 26) F.mixed zB ?_;refine zz 2 ?_;refine OD.v0 (.p rfl) zB rfl zB rfl rfl ((plong_c zD)) ?_;refine OD.sT 31 rfl (by exact zdt q1)<|zz 6 ?_;refine OD.sF 37 rfl (by exact zdf zD)<|zz 4 ?_;refine OD.sT 41 rfl (by exact zdt zD)<|zz 5 ?_;refine OD.slot 46 (v' :=.int .i64 ((k - 1:Nat):Int)) rfl (by exact congrArg (Value.int .i64) zD) ?_;refine OD.ia (.g rfl rfl) underlying29 size122 rfl rfl (show _=(((k-1):Nat):Int) by omega) (k1) (h:=fun p47 cs47 hp47 hr47=>?_);obtain ⟨u1,w1,rfl, -, -⟩:=StubRp.sh hr47;refine zz 4 ?_;refine .quiet (.g rfl rfl) rfl (fun _=>.geqS rfl rfl)<|OD.sF 52 rfl (by exact geS_false q5) ?_;refine zz 10 ?_;exact S.melt hm1 (S.wk (ih (k+1) (by exact ⟨by omega,hall.step hk hlf fun _=>q5⟩) zD))
       ·have e:=not_srise hk q4 q5
        refine S.regionD (L:=.range 26) F.mixed zB ?_;refine zz 2 ?_;refine OD.v0 (.p rfl) zB rfl zB rfl rfl ((plong_c zD)) ?_;refine OD.sT 31 rfl (by exact zdt q1)<|zz 6 ?_;refine OD.sF 37 rfl (by exact zdf zD)<|zz 4 ?_;refine OD.sT 41 rfl (by exact zdt zD)<|zz 5 ?_;refine OD.slot 46 (v' :=.int .i64 ((k - 1:Nat):Int)) rfl (by exact congrArg (Value.int .i64) zD) ?_;refine OD.ia (.g rfl rfl) underlying29 size122 rfl rfl (show _=(((k-1):Nat):Int) by omega) (k1) (h:=fun p47 cs47 hp47 hr47=>?_);obtain ⟨u1,w1,rfl, -, -⟩:=StubRp.sh hr47;refine zz 4 ?_;refine .quiet (.g rfl rfl) rfl (fun _=>.geqS rfl rfl)<|OD.sT 52 rfl (by exact geS_true q5) ?_;refine zz 8 ?_;exact S.rt results246 rfl hR ⟨congrArg Value.bool e.symm,rfl⟩
      ·
       refine S.regionD (L:=.range 26) F.mixed zB ?_;refine zz 2 ?_;refine OD.v0 (.p rfl) zB rfl zB rfl rfl ((plong_c zD)) ?_;refine OD.sT 31 rfl (by exact zdt q1)<|zz 6 ?_;refine OD.sF 37 rfl (by exact zdf zD)<|zz 4 ?_;refine OD.sF 41 rfl (by exact zdf zD)<|zz 21 ?_;exact S.melt hm1 (S.wk (ih (k+1) (by exact ⟨by omega,hall.step hk hlf fun w=>absurd w q4⟩) zD))
     ·have e:=not_stubs hk fun w=>q2 w.2
      refine S.regionD (L:=.range 26) F.mixed zB ?_;refine zz 2 ?_;refine OD.v0 (.p rfl) zB rfl zB rfl rfl ((plong_c zD)) ?_;refine OD.sT 31 rfl (by exact zdt q1)<|zz 6 ?_;refine OD.sT 37 rfl (by exact zdt zD)<|zz 23 ?_;exact S.rt results246 rfl hR ⟨congrArg Value.bool e.symm,rfl⟩
    ·have e:=not_stubs hk fun w=>q1 w.1
     refine S.regionD (L:=.range 26) F.mixed zB ?_;refine zz 2 ?_;refine OD.v0 (.p rfl) zB rfl zB rfl rfl ((plong_c zD)) ?_;refine OD.sF 31 rfl (by exact zdf q1)<|zz 29 ?_;exact S.rt results246 rfl hR ⟨congrArg Value.bool e.symm,rfl⟩
   ·clear ih
    have hk:k=x.2.1.length:=by omega
    subst hk;have hG:=hall.all;have e:(!x.1.any fun x=>decide (x.length≠64))=decide (prfOk x):=by
     rw [Bool.eq_iff_iff,any_64,decide_eq_true_iff];exact ⟨fun w=>⟨f,w,hG⟩,fun w=>w.2.1⟩
    refine zz 3 ?_;refine O.op (.p rfl) (.fieldAddr fld31x0 rfl)<|zz 1 ?_;refine O.v0 (.p rfl) rfl zB rfl rfl ((containsBB_c k0 zB (fun x=>decide (x.length≠64)) (fun v y _ hy=>not64_c hy) rfl)) ?_;refine O.op (.p rfl) ((by first|exact .notD rfl|exact .not rfl))<|zz 2 ?_;exact S.rt results246 rfl hR ⟨congrArg Value.bool e,rfl⟩
 ·have e:decide (prfOk x)=false:=zdf fun w=>f w.1
  by_cases f1:x.1.length>510
  ·
   refine zz 1 ?_;refine O.op (.p rfl) (.fieldAddr fld31x0 rfl)<|zz 3 ?_;refine O.sT 8 rfl (by exact zdt zD)<|zz 18 ?_;exact S.rt results246 rfl hR ⟨congrArg Value.bool e.symm,rfl⟩
  ·have f2:x.2.1.length>1∧x.1.length≠510:=by
    refine ⟨Nat.lt_of_not_le fun w=>f ⟨by omega,fun q=>by omega⟩,fun w=>f ⟨by omega,fun _=>w⟩⟩
   refine zz 1 ?_;refine O.op (.p rfl) (.fieldAddr fld31x0 rfl)<|zz 3 ?_;refine O.sF 8 rfl (by exact zdf zD)<|zz 1 ?_;refine O.op (.g rfl rfl) (.fieldAddr fld31x1 rfl)<|zz 3 ?_;refine O.sT 13 rfl (by exact zdt zD)<|zz 1 ?_;refine O.op (.g rfl rfl) (.fieldAddr fld31x0 rfl)<|zz 3 ?_;refine O.sT 18 rfl (by exact zdt zD)<|zz 8 ?_;exact S.rt results246 rfl hR ⟨congrArg Value.bool e.symm,rfl⟩
theorem fmust_c {r:Fr} (b:Bool) (z:Int):Con prog 31 #[.bool b,.int .i64 z] r [] (RetP (fun v η=>b=true∧v=.tuple #[]∧η=[]) (fun ch η=>b=false∧ch=errP 39 z∧η=[])):=by
 refine Con.o func31 fun g hg R hR=>?_;refine zz 3 ?_;refine O.op (.p rfl) ((by first|exact .notD rfl|exact .not rfl))<|zz 1 ?_;refine S.cd rfl (fun h5=>?_) fun h5=>?_
 ·refine zz 2 ?_
  refine O.op (.p rfl) (.mkIface underlying39 rfl)<|O.panic rfl rfl (fun w hw=>?_);exact hR _ [] w ⟨by simpa using h5,rfl,rfl⟩ hw
 ·refine S.skip<|S.end0 results31 fun w hw=>hR _ _ w ?_ hw
  exact ⟨by simpa using h5,rfl,rfl⟩
theorem fright_c {r:Fr} (b:Bool):Con prog 33 #[.bool b] r [] (RetP (fun v η=>b=true∧v=.tuple #[]∧η=[]) (fun ch η=>b=false∧ch=errP 39 4∧η=[])):=by
 refine Con.o func33 fun g hg R hR=>?_;refine zz 2 ?_;refine O.callP0 (.p rfl) rfl zB rfl rfl (fmust_c _ _) (fun ch η' w hX hW=>by (obtain ⟨hb,rfl,rfl⟩:=hX;exact hR _ _ w ⟨hb,rfl,rfl⟩ hW)) ?_;rintro _ _ ⟨hb3,rfl,rfl⟩;refine O.nil<|S.end0 results33 fun w hw=>hR _ _ w ?_ hw;exact ⟨hb3,rfl,rfl⟩
theorem ftext_c {r:Fr} {s:List UInt8} (hl:s.length≤1000000000000):Con prog 239 #[.string (str s)] r [] (Ret fun v η=>∃ a c,v=.slice a (bytesOf s).length c∧η=[OwnP Rp.u8 5 (.slice a (bytesOf s).length c) (bytesOf s)]):=by
 refine Con.o func239 fun g hg R hR=>?_;refine zz 7 ?_;refine O.opE (.p rfl) (.strBytesO underlying9 underlying22 underlying5 rfl (by first|assumption|omega|(simp;done)|(simp;omega))) ?_;rintro _ _ ⟨a4,c4,rfl,rfl⟩;refine O.callB (.p rfl) rfl zB rfl rfl (bs:=[OwnP Rp.u8 5 (.slice a4 s.length c4) s]) zI (fun m hm hd=>wBytes_c ((owned_one hm).right hd) zD) ?_;rintro _ _ ⟨a5,c5,rfl,rfl⟩;refine zz 2 ?_;exact S.rt results239 rfl hR ⟨a5,c5,rfl,rfl⟩
theorem ftold_c {r:Fr} {va:Value} {b:List UInt8} {z:Int} (ha:Arr Rp.u8 r va b) (hl:b.length≤1000000000000):Con prog 232 #[va,.int .i64 z] r [] (RetP (fun v η=>z=0∧∃ a c,v=.slice a (bytesOf b).length c∧η=[OwnP Rp.u8 5 (.slice a (bytesOf b).length c) (bytesOf b)]) (fun ch η=>z≠0∧ch=errP 39 4∧η=[])):=by
 obtain ⟨a1,c1,rfl⟩:=ha.shape;refine Con.o func232 fun g hg R hR=>?_;have ha:=ha.mono hg;refine zz 8 ?_;refine O.callP0 (.p rfl) rfl zB rfl rfl (fright_c _) (fun ch η' w hX hW=>by (obtain ⟨hb,rfl,rfl⟩:=hX;exact hR _ _ w ⟨of_decide_eq_false hb,rfl,rfl⟩ hW)) ?_;rintro _ _ ⟨hb7,rfl,rfl⟩;refine zz 4 ?_;refine O.call0 (.p rfl) rfl zB rfl rfl ((wBytes_c ha zD)) ?_;rintro _ _ ⟨a9,c9,rfl,rfl⟩;refine zz 2 ?_;exact S.rt results232 rfl hR ⟨of_decide_eq_true hb7,a9,c9,rfl,rfl⟩
theorem fkey_c {r:Fr} {s:List UInt8} (hl:s.length≤9223372036854775807):Con prog 245 #[.string (str s)] r [] (RetP (fun v η=>keyOk s∧∃ a c,v=.slice a (bytesOf s).length c∧η=[OwnP Rp.u8 5 (.slice a (bytesOf s).length c) (bytesOf s)]) (fun ch η=>¬ keyOk s∧ch=errP 39 4∧η=[])):=by
 refine Con.o func245 fun g hg R hR=>?_
 by_cases h1:s=[]
 ·have hn:¬ keyOk s:=fun w=>by rw [h1] at w;exact absurd w.1 zE
  refine zz 7 ?_;refine O.op (.p rfl) (.neqS rfl rfl)<|O.sF 4 rfl (by rw [h1];simp) ?_;refine O.q 5 rfl<|O.callP0 (.p rfl) rfl zB rfl rfl (fright_c _) (fun ch η' w hX hW=>by (obtain ⟨hb,rfl,rfl⟩:=hX;exact hR _ _ w ⟨hn,rfl,rfl⟩ hW)) ?_;rintro _ _ ⟨hb10,rfl,rfl⟩;exact absurd hb10 zG
 ·have hp:1≤s.length:=by cases s with|nil=>exact absurd rfl h1|cons _ _=>simp
  by_cases h2:s.length≤64
  ·
   refine zz 7 ?_;refine O.op (.p rfl) (.neqS rfl rfl)<|O.sT 4 rfl (by exact zdt (fun w=>h1 (str_eqL w))) ?_;refine zz 4 ?_;refine O.sT 8 rfl (by exact zdt zL) ?_;refine O.q 1 rfl<|O.callP0 (.p rfl) rfl zB rfl rfl (fright_c _) (fun ch η' w hX hW=>by (exact absurd hX.1 zG)) ?_;rintro _ _ ⟨hb10,rfl,rfl⟩;refine zz 4 ?_;refine O.call0 (.p rfl) rfl zB rfl rfl ((ftext_c zD)) ?_;rintro _ _ ⟨a12,c12,rfl,rfl⟩;refine zz 2 ?_;exact S.rt results245 rfl hR ⟨⟨hp,h2⟩,a12,c12,rfl,rfl⟩
  ·have hn:¬ keyOk s:=fun w=>h2 w.2
   refine zz 7 ?_;refine O.op (.p rfl) (.neqS rfl rfl)<|O.sT 4 rfl (by exact zdt (fun w=>h1 (str_eqL w))) ?_;refine zz 4 ?_;refine O.sF 8 rfl (by exact zdf zL) ?_;refine O.q 1 rfl<|O.callP0 (.p rfl) rfl zB rfl rfl (fright_c _) (fun ch η' w hX hW=>by (obtain ⟨hb,rfl,rfl⟩:=hX;exact hR _ _ w ⟨hn,rfl,rfl⟩ hW)) ?_;rintro _ _ ⟨hb10,rfl,rfl⟩;exact absurd hb10 zG
def bit01 (c:UInt8):Bool:=c.toNat ==48 ||c.toNat ==49
def bits01:List Value:=(List.range 256).map fun i=>.bool (i ==48 ||i ==49)
theorem bits01_get (c:UInt8):bits01[c.toNat]?=some (.bool (bit01 c)):=by
 have:=c.toNat_lt;simp only [bits01,bit01,List.getElem?_map];rw [List.getElem?_range zD];rfl
theorem bit01_iff {c:UInt8}:bit01 c=true↔c=48∨c=49:=by
 unfold bit01;rw [Bool.or_eq_true,beq_iff_eq,beq_iff_eq]
 constructor
 ·rintro (h|h)
  ·exact .inl (UInt8.toNat_inj.1 h)
  ·exact .inr (UInt8.toNat_inj.1 h)
 ·rintro (rfl|rfl)
  ·exact .inl rfl
  ·exact .inr rfl
theorem has01_c {r:Fr} {b:Nat} {c:UInt8} (h:At r ⟨b,0,none⟩ bits01):Con prog 331 #[.pointer (some ⟨b,0,none⟩),byteV c] r [] (Ret fun v η=>v=.bool (bit01 c)∧η=[]):=by
 have hc:=c.toNat_lt;refine Con.o func331 fun g hg R hR=>?_;have h:=h.mono hg;refine zz 9 ?_;refine O.op (.p rfl) (.idxArrA (j:=c.toNat) underlying329 size4 rfl rfl rfl zD)<|O.op (.p rfl) (.load flat4 rfl (h.at (bits01_get c))) ?_;refine zz 2 ?_;exact S.rt results331 rfl hR ⟨rfl,rfl⟩
theorem str_size_q (l:List UInt8):(str l).size=l.length:=by simp
theorem tail_step {s:List UInt8} {i:Nat} (hi:i<s.length) (h:∀ j (q:j<s.length),s.length - i≤j→bit01 s[j]=true) (e:bit01 (s[s.length - i - 1]'zD)=true):∀ j (q:j<s.length),s.length - (i+1)≤j→bit01 s[j]=true:=fun j q w=>by
 rcases Nat.lt_or_ge j (s.length - i) with w' |w'
 ·have:j=s.length - i - 1:=by omega
  subst this;exact e
 ·exact h j q w'
theorem trimR_c {r:Fr} {b:Nat} {s:List UInt8} (h:At r ⟨b,0,none⟩ bits01) (hl:s.length≤1000000000000):Con prog 309 #[.string (str s),.pointer (some ⟨b,0,none⟩)] r [] (Ret fun v η=>∃ k,k≤s.length∧v=.string (str (s.take k))∧(∀ j (q:j<s.length),k≤j→bit01 s[j]=true)∧(∀ q:k - 1<s.length,0<k→bit01 s[k - 1]=false)∧η=[]):=by
 have h0:=h;refine Con.o func309 fun g hg R hR=>?_;have h:=h.mono hg;refine zz 6 ?_;refine S.slot 0 (v' :=.string (str (s.take (s.length - 0)))) rfl (by rw [Nat.sub_zero,List.take_length]) ?_;refine S.loopK (ι:=Nat) (fun i=>i≤s.length∧∀ j (q:j<s.length),s.length - i≤j→bit01 s[j]=true) (fun i=>[(0,.string (str (s.take (s.length - i))))]) [(1,_)] (fun i=>[]) (fun i=>s.length - i) (0) (by exact ⟨by omega,fun j q w=>by omega⟩) zq zq rfl fun i hx ih=>?_;have hm1:=meltRefl (g:=g);obtain ⟨hx1,hall⟩:=hx;have htl:(s.take (s.length - i)).length=s.length - i:=by rw [zlt];omega
 have htg:∀ q:s.length - i - 1<(s.take (s.length - i)).length,(s.take (s.length - i))[s.length - i - 1]=s[s.length - i - 1]'zD:=fun q=>List.getElem_take
 by_cases hi:i<s.length
 ·have hj:s.length - i - 1<(s.take (s.length - i)).length:=by omega
  have hsz:(str (s.take (s.length - i))).size=s.length - i:=by rw [str_size_q,htl]
  cases e:bit01 (s[s.length - i - 1]'zD) with
  |true =>
   refine zz 6 ?_;refine O.sT 7 rfl (by exact zdt (by rw [hsz];omega))<|zz 11 ?_;refine O.op (.p rfl) (.sub rfl rfl (IntWalk.i64_in _ zD))<|O.slot 12 (v' :=.int .i64 ((s.length - i - 1:Nat):Int)) rfl (by exact congrArg (Value.int .i64) (by rw [hsz];omega)) ?_;refine O.op (.p rfl) (.indexS (j:=s.length - i - 1) underlying9 rfl rfl zU zH) ?_;refine O.slot 13 (v' :=byteV (s[s.length - i - 1]'zD)) rfl (by exact congrArg byteV (htg hj)) ?_;refine O.v0 (.p rfl) rfl zB rfl rfl ((has01_c (h0.mono hg))) ?_;refine O.sT 14 rfl (by exact e)<|zz 8 ?_;refine O.op (.p rfl) (.sub rfl rfl (IntWalk.i64_in _ zD))<|O.slot 19 (v' :=.int .i64 ((s.length - i - 1:Nat):Int)) rfl (by exact congrArg (Value.int .i64) (by rw [hsz];omega)) ?_;refine O.strTo (b:=s.length - i - 1) (.p rfl) underlying9 rfl rfl (show _=(((s.length - i - 1):Nat):Int) by omega) zH<|zz 3 ?_;refine S.slot 0 (v' :=.string (str (s.take (s.length - (i+1))))) rfl (by rw [List.take_take,show min (s.length - i - 1) (s.length - i)=s.length - (i+1) from by omega]) ?_;exact S.wk (ih (i+1) (by exact ⟨by omega,tail_step hi hall e⟩) zD)
  |false =>
   refine zz 6 ?_;refine O.sT 7 rfl (by exact zdt (by rw [hsz];omega))<|zz 11 ?_;refine O.op (.p rfl) (.sub rfl rfl (IntWalk.i64_in _ zD))<|O.slot 12 (v' :=.int .i64 ((s.length - i - 1:Nat):Int)) rfl (by exact congrArg (Value.int .i64) (by rw [hsz];omega)) ?_;refine O.op (.p rfl) (.indexS (j:=s.length - i - 1) underlying9 rfl rfl zU zH) ?_;refine O.slot 13 (v' :=byteV (s[s.length - i - 1]'zD)) rfl (by exact congrArg byteV (htg hj)) ?_;refine O.v0 (.p rfl) rfl zB rfl rfl ((has01_c (h0.mono hg))) ?_;refine O.sF 14 rfl (by exact e)<|zz 9 ?_;exact S.rt results309 rfl hR ⟨s.length - i,by omega,rfl,hall,fun _ _=>e,rfl⟩
 ·have hii:i=s.length:=by omega
  have hsz:(str (s.take (s.length - i))).size=0:=by rw [hii];simp
  refine zz 6 ?_;refine O.sF 7 rfl (by exact zdf (by rw [hsz];omega))<|zz 8 ?_;exact S.rt results309 rfl hR ⟨s.length - i,by omega,rfl,hall,fun _ w=>by omega,rfl⟩
theorem head_step {s:List UInt8} {i:Nat} (hi:i<s.length) (h:∀ j (q:j<s.length),j<i→bit01 s[j]=true) (e:bit01 s[i]=true):∀ j (q:j<s.length),j<i+1→bit01 s[j]=true:=fun j q w=>by
 rcases Nat.lt_or_ge j i with w' |w'
 ·exact h j q w'
 ·have:j=i:=by omega
  subst this;exact e
theorem trimL_c {r:Fr} {b:Nat} {s:List UInt8} (h:At r ⟨b,0,none⟩ bits01) (hl:s.length≤1000000000000):Con prog 308 #[.string (str s),.pointer (some ⟨b,0,none⟩)] r [] (Ret fun v η=>∃ k,k≤s.length∧v=.string (str (s.drop k))∧(∀ j (q:j<s.length),j<k→bit01 s[j]=true)∧(∀ q:k<s.length,bit01 s[k]=false)∧η=[]):=by
 have h0:=h;refine Con.o func308 fun g hg R hR=>?_;have h:=h.mono hg;refine zz 6 ?_;refine S.slot 0 (v' :=.string (str (s.drop 0))) rfl rfl ?_;refine S.loopK (ι:=Nat) (fun i=>i≤s.length∧∀ j (q:j<s.length),j<i→bit01 s[j]=true) (fun i=>[(0,.string (str (s.drop i)))]) [(1,_)] (fun i=>[]) (fun i=>s.length - i) (0) (by exact ⟨by omega,fun j q w=>by omega⟩) zq zq rfl fun i hx ih=>?_;have hm1:=meltRefl (g:=g);obtain ⟨hx1,hall⟩:=hx;have hsz:(str (s.drop i)).size=s.length - i:=by rw [str_size_q,List.length_drop]
 have hdl:(s.drop i).length=s.length - i:=List.length_drop
 by_cases hi:i<s.length
 ·have htg:(s.drop i)[0]'zD=s[i]:=by rw [List.getElem_drop];simp
  cases e:bit01 s[i] with
  |true =>
   refine zz 6 ?_;refine O.sT 7 rfl (by exact zdt (by rw [hsz];omega))<|zz 9 ?_;refine O.op (.p rfl) (.indexS (j:=0) underlying9 rfl rfl zU zH) ?_;refine O.slot 10 (v' :=byteV s[i]) rfl (by exact congrArg byteV htg) ?_;refine O.v0 (.p rfl) rfl zB rfl rfl ((has01_c (h0.mono hg))) ?_;refine O.sT 11 rfl (by exact e)<|zz 6 ?_;refine O.strFrom (a:=1) (.p rfl) underlying9 rfl rfl (show _=(((1):Nat):Int) by omega) zH<|zz 3 ?_;refine S.slot 0 (v' :=.string (str (s.drop (i+1)))) rfl (by rw [List.drop_drop]) ?_;exact S.wk (ih (i+1) (by exact ⟨by omega,head_step hi hall e⟩) zD)
  |false =>
   refine zz 6 ?_;refine O.sT 7 rfl (by exact zdt (by rw [hsz];omega))<|zz 9 ?_;refine O.op (.p rfl) (.indexS (j:=0) underlying9 rfl rfl zU zH) ?_;refine O.slot 10 (v' :=byteV s[i]) rfl (by exact congrArg byteV htg) ?_;refine O.v0 (.p rfl) rfl zB rfl rfl ((has01_c (h0.mono hg))) ?_;refine O.sF 11 rfl (by exact e)<|zz 9 ?_;exact S.rt results308 rfl hR ⟨i,by omega,rfl,hall,fun _=>e,rfl⟩
 ·have hii:i=s.length:=by omega
  refine zz 6 ?_;refine O.sF 7 rfl (by exact zdf (by rw [hsz];omega))<|zz 8 ?_;exact S.rt results308 rfl hR ⟨i,by omega,rfl,hall,fun w=>by omega,rfl⟩
end Go.Proofs.YtdjoggpacmpfnaaGreatDoor
