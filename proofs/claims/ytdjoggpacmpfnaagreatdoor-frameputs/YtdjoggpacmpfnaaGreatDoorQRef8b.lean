/- Texts of this proof. -/
import Derived.Test.YtdjoggpacmpfnaaGreatDoorQMerk1
import Derived.Test.YtdjoggpacmpfnaaGreatDoorQSpMapB
open Go Go.Sp Go.Proofs.Tryz
set_option maxRecDepth 100000
set_option maxHeartbeats 1000000
attribute [local irreducible] obj Own ak
namespace Go.Proofs.YtdjoggpacmpfnaaGreatDoor
theorem tM {x:eL}:lM x↔fL x.1∧0<x.2.1.length∧ow x.1 x.2.1 :=
 ⟨fun ⟨h1,h2,h3,h4⟩=>⟨h1,h3,h2,fun _=>h4⟩,fun ⟨h1,h2,h3,h4⟩=>⟨h1,h3,h2,h4 h2⟩⟩
theorem Dm {n:eY} {i:Nat} (h:i<n.2.2.2.1.length) (q:¬ lM n.2.2.2.1[i]):decide (gA n)=false:=aA fun w=>q (w.1.1 _ (List.getElem_mem h))
theorem Ok {n:eY} {i:Nat} (h:i<n.2.2.2.1.length) (h0:0<i) (q:¬ n.2.2.2.1[i - 1].1<n.2.2.2.1[i].1):decide (gA n)=false:=aA fun w=>q (w.1.2 i h h0)
def vv (x:eY) (k:Nat):Prop:=∀ i (q:i<x.2.2.2.1.length),i<k→lM x.2.2.2.1[i]∧(0<i→(x.2.2.2.1[i - 1]'ai).1<x.2.2.2.1[i].1)
theorem vv.step {x:eY} {k:Nat} (hk:k<x.2.2.2.1.length) (h:vv x k) (hl:lM x.2.2.2.1[k]) (hr:0<k→(x.2.2.2.1[k - 1]'ai).1<x.2.2.2.1[k].1):vv x (k+1):=fun i q w=>by
 rcases Nat.lt_or_ge i k with w' |w'
 ·exact h i q w'
 ·have:i=k:=by omega
  subst this;exact ⟨hl,hr⟩
theorem vv.all {x:eY} (h:vv x x.2.2.2.1.length):(∀ y∈x.2.2.2.1,lM y)∧uX (·.1) x.2.2.2.1 :=
 ⟨fun y hy=>by obtain ⟨i,q,rfl⟩:=List.mem_iff_getElem.1 hy;exact (h i q q).1,fun i q w=>(h i q q).2 w⟩
theorem uY {α:Type} {l:List α}:l.length=0↔l=[]:=List.length_eq_zero_iff
theorem eU {x:eY} (aR:(∀ y∈x.2.2.2.1,lM y)∧uX (·.1) x.2.2.2.1) (e:x.1=1):gA x↔x.2.1.length=0∧x.2.2.1.length=0∧x.2.2.2.1.length=0:=by
 unfold gA;rw [e,uY,uY,uY];exact ⟨fun ⟨_,h⟩=>by rcases h with h|h|h|h;exact h.2;exact absurd h.1 aq;exact absurd h.1 aq;exact absurd h.1 aq,fun h=>⟨aR,.inl ⟨rfl,h⟩⟩⟩
theorem eV {x:eY} (aR:(∀ y∈x.2.2.2.1,lM y)∧uX (·.1) x.2.2.2.1) (e:x.1=2):gA x↔x.2.1.length=0∧x.2.2.1.length=0∧x.2.2.2.1.length=1:=by
 unfold gA;rw [e,uY,uY];exact ⟨fun ⟨_,h⟩=>by rcases h with h|h|h|h;exact absurd h.1 aq;exact h.2;exact absurd h.1 aq;exact absurd h.1 aq,fun h=>⟨aR,.inr (.inl ⟨rfl,h⟩)⟩⟩
theorem fO {x:eY} (aR:(∀ y∈x.2.2.2.1,lM y)∧uX (·.1) x.2.2.2.1) (e:x.1=3):gA x↔x.2.1.length=64∧x.2.2.1.length=64∧x.2.2.2.1.length=0:=by
 unfold gA;rw [e,uY];exact ⟨fun ⟨_,h⟩=>by rcases h with h|h|h|h;exact absurd h.1 aq;exact absurd h.1 aq;exact h.2;exact absurd h.1 aq,fun h=>⟨aR,.inr (.inr (.inl ⟨rfl,h⟩))⟩⟩
theorem eW {x:eY} (aR:(∀ y∈x.2.2.2.1,lM y)∧uX (·.1) x.2.2.2.1) (e:x.1=4):gA x↔x.2.1.length=0∧x.2.2.1.length=0∧2≤x.2.2.2.1.length:=by
 unfold gA;rw [e,uY,uY];exact ⟨fun ⟨_,h⟩=>by rcases h with h|h|h|h;exact absurd h.1 aq;exact absurd h.1 aq;exact absurd h.1 aq;exact h.2,fun h=>⟨aR,.inr (.inr (.inr ⟨rfl,h⟩))⟩⟩
theorem Oe {x:eY} (e1:x.1≠1) (e2:x.1≠2) (cZ:x.1≠3) (fV:x.1≠4):¬ gA x:=fun ⟨_,h⟩=>by
 rcases h with h|h|h|h
 ·exact e1 h.1
 ·exact e2 h.1
 ·exact cZ h.1
 ·exact fV h.1
theorem fk {a b:UInt8}:((a.toNat:Int)=(b.toNat:Int))↔a=b:=⟨fun h=>D5 h,fun h=>by rw [h]⟩
theorem CH {a b:List UInt8} (h:a<b):(!Op.bytesLess (str a).toList (str b).toList)=false:=by rw [Md];exact aA fun w=>w h
theorem CI {a b:List UInt8} (h:¬ a<b):(!Op.bytesLess (str a).toList (str b).toList)=true:=by rw [Md];exact zdt h
theorem N9 {r:Fr} {cs:List Value} {x:eY} (h:fj.rel r cs x) (hx0:x.2.1.length≤1000000000000∧x.2.2.1.length≤1000000000000) (b8:∀ y∈x.2.2.2.1,y.2.1.length≤1000000000):aj prog 277 #[.agg cs.toArray] r [] (aF fun v aa=>v=.bool (decide (gA x))∧aa=[]):=by
 obtain ⟨a1,a2,a3,c1,c2,c3,rfl,k1,k2,aI⟩:=fj.sh h;obtain ⟨fE,vT⟩:=hx0;refine aj.o func277 fun g hg R hR=>?_;have k1:=k1.mono hg;have k2:=k2.mono hg;have aI:=aI.mono hg;have hb:=aI.bound;have cK:=k1.bound;have mM:=k2.bound;refine S.seq<|S.region rfl<|O.aD (.p rfl) (.box (cs:=[_,_,_,_]) rfl rfl) ?_;rintro _ _ ⟨b1,rfl,rfl⟩;refine U 4 ?_;refine S.cH (b:=b1) (cs' :=[aT x.1,.slice a1 x.2.1.length c1,.slice a2 x.2.2.1.length c2,.slice a3 x.2.2.2.1.length c3]) an rfl ?_;refine S.cy an fun g hs hm h1=>?_;replace hg:=bf hg hs;replace hR:=a_ hR hm
 try replace k1:=k1.mono hs
 try replace k2:=k2.mono hs
 try replace aI:=aI.mono hs
 clear hs hm;refine U 7 ?_;refine S.ev (ι:=Nat) (fun k=>k≤x.2.2.2.1.length∧vv x k) (fun k=>[(12,.int .i64 (k:Int))]) [(1,_),(10,_),(11,_)] (fun k=>[]) (fun k=>x.2.2.2.1.length - k) (0) (by exact ⟨by omega,fun i q w=>by omega⟩) aO aO rfl fun k hx ih=>?_;have aW:=bS (g:=g);obtain ⟨hx1,hall⟩:=hx;refine U 5 ?_;refine S.cd rfl (fun mh=>?_) fun mh=>?_
 ·have hk:k<x.2.2.2.1.length:=by omega
  have pU:=b8 _ (List.getElem_mem hk);refine U 6 ?_;refine O.dI (aI) (h:=fun bP zH lH ld=>?_);obtain ⟨l1,m1,rfl,l2,l3⟩:=dJ.sh ld;have l3:=l3;refine O.op (.p rfl) (.aJ isAgg120 af rfl lH) ?_;refine O.aD (.p rfl) (.alloc (cs:=[.string ⟨#[]⟩,.slice none 0 0]) zeroValue120 rfl) ?_;rintro _ _ ⟨b4,rfl,rfl⟩;refine U 2 ?_;refine O.nil<|S.seq<|S.cH (b:=b4) (cs' :=[.string (str x.2.2.2.1[k].1),.slice l1 x.2.2.2.1[k].2.1.length m1]) an rfl ?_;refine S.cy an fun g hs hm h4=>?_;replace hg:=bf hg hs;replace hR:=a_ hR hm
  try replace k1:=k1.mono hs
  try replace k2:=k2.mono hs
  try replace aI:=aI.mono hs
  try replace h1:=h1.mono hs
  try replace lH:=lH.mono hs
  try replace l3:=l3.mono hs
  try replace lH:=lH.mono hs
  replace aW:=eT aW hm;clear hs hm
  by_cases q1:fL x.2.2.2.1[k].1
  ·by_cases bg:0<x.2.2.2.1[k].2.1.length
   ·by_cases ei:ow x.2.2.2.1[k].1 x.2.2.2.1[k].2.1
    ·have hlf:=tM.2 ⟨q1,bg,ei⟩
     by_cases jt:0<k
     ·by_cases h_:(x.2.2.2.1[k - 1]'ai).1<x.2.2.2.1[k].1
      ·
       refine S.aY (L:=.range 34) F.mixed af ?_;refine U 2 ?_;refine ah.v0 (.p rfl) af rfl af rfl rfl ((yx ai)) ?_;refine ah.sT 19 rfl (by exact zdt q1)<|U 6 ?_;refine ah.aB 25 rfl (by exact aA ai)<|U 6 ?_;refine ah.v0 (.g rfl rfl) af rfl af rfl rfl ((Dl l3 ai)) ?_;refine ah.sT 32 rfl (by exact zdt ei)<|U 5 ?_;refine ah.sT 37 rfl (by exact zdt ai)<|U 5 ?_;refine ah.slot 42 (v' :=.int .i64 ((k - 1:Nat):Int)) rfl (by exact congrArg (Value.int .i64) ai) ?_;refine ah.c7 (.g rfl rfl) underlying33 sg rfl rfl (show _=(((k-1):Nat):Int) by omega) (aI) (h:=fun OC Ly Hh Av=>?_);obtain ⟨u1,w1,rfl, -, -⟩:=dJ.sh Av;refine U 4 ?_;refine .quiet (.g rfl rfl) rfl (fun _=>.uL rfl rfl)<|ah.aB 48 rfl (by exact CH h_) ?_;refine U 10 ?_;exact S.jo aW (S.cF (ih (k+1) (by exact ⟨by omega,hall.step hk hlf fun _=>h_⟩) ai))
      ·have e:=Ok hk jt h_
       refine S.aY (L:=.range 34) F.mixed af ?_;refine U 2 ?_;refine ah.v0 (.p rfl) af rfl af rfl rfl ((yx ai)) ?_;refine ah.sT 19 rfl (by exact zdt q1)<|U 6 ?_;refine ah.aB 25 rfl (by exact aA ai)<|U 6 ?_;refine ah.v0 (.g rfl rfl) af rfl af rfl rfl ((Dl l3 ai)) ?_;refine ah.sT 32 rfl (by exact zdt ei)<|U 5 ?_;refine ah.sT 37 rfl (by exact zdt ai)<|U 5 ?_;refine ah.slot 42 (v' :=.int .i64 ((k - 1:Nat):Int)) rfl (by exact congrArg (Value.int .i64) ai) ?_;refine ah.c7 (.g rfl rfl) underlying33 sg rfl rfl (show _=(((k-1):Nat):Int) by omega) (aI) (h:=fun OC Ly Hh Av=>?_);obtain ⟨u1,w1,rfl, -, -⟩:=dJ.sh Av;refine U 4 ?_;refine .quiet (.g rfl rfl) rfl (fun _=>.uL rfl rfl)<|ah.sT 48 rfl (by exact CI h_) ?_;refine U 8 ?_;exact S.rt results277 rfl hR ⟨congrArg Value.bool e.symm,rfl⟩
     ·
      refine S.aY (L:=.range 34) F.mixed af ?_;refine U 2 ?_;refine ah.v0 (.p rfl) af rfl af rfl rfl ((yx ai)) ?_;refine ah.sT 19 rfl (by exact zdt q1)<|U 6 ?_;refine ah.aB 25 rfl (by exact aA ai)<|U 6 ?_;refine ah.v0 (.g rfl rfl) af rfl af rfl rfl ((Dl l3 ai)) ?_;refine ah.sT 32 rfl (by exact zdt ei)<|U 5 ?_;refine ah.aB 37 rfl (by exact aA ai)<|U 21 ?_;exact S.jo aW (S.cF (ih (k+1) (by exact ⟨by omega,hall.step hk hlf fun w=>absurd w jt⟩) ai))
    ·have e:=Dm hk fun w=>ei (tM.1 w).2.2
     refine S.aY (L:=.range 34) F.mixed af ?_;refine U 2 ?_;refine ah.v0 (.p rfl) af rfl af rfl rfl ((yx ai)) ?_;refine ah.sT 19 rfl (by exact zdt q1)<|U 6 ?_;refine ah.aB 25 rfl (by exact aA ai)<|U 6 ?_;refine ah.v0 (.g rfl rfl) af rfl af rfl rfl ((Dl l3 ai)) ?_;refine ah.aB 32 rfl (by exact aA ei)<|U 24 ?_;exact S.rt results277 rfl hR ⟨congrArg Value.bool e.symm,rfl⟩
   ·have e:=Dm hk fun w=>bg (tM.1 w).2.1
    refine S.aY (L:=.range 34) F.mixed af ?_;refine U 2 ?_;refine ah.v0 (.p rfl) af rfl af rfl rfl ((yx ai)) ?_;refine ah.sT 19 rfl (by exact zdt q1)<|U 6 ?_;refine ah.sT 25 rfl (by exact zdt ai)<|U 31 ?_;exact S.rt results277 rfl hR ⟨congrArg Value.bool e.symm,rfl⟩
  ·have e:=Dm hk fun w=>q1 (tM.1 w).1
   refine S.aY (L:=.range 34) F.mixed af ?_;refine U 2 ?_;refine ah.v0 (.p rfl) af rfl af rfl rfl ((yx ai)) ?_;refine ah.aB 19 rfl (by exact aA q1)<|U 37 ?_;exact S.rt results277 rfl hR ⟨congrArg Value.bool e.symm,rfl⟩
 ·clear ih
  have hk:k=x.2.2.2.1.length:=by omega
  subst hk;have aR:=hall.all
  by_cases e:x.1=3
  ·
   refine U 2 ?_;refine S.aY (L:=.range 15) F.mixed af ?_;refine U 8 ?_
   refine ah.cs 59 rfl (fun oV=>?_) fun oV=>?_
   ·refine U 14 ?_
    refine O.sT 67 rfl (by rw [e];rfl)<|U 6 ?_
    refine O.cs 69 rfl (fun Ua=>?_) fun Ua=>?_
    ·refine U 5 ?_
     refine S.ret results277 rfl fun w hw=>ax.end_ hR hw ?_
     first|exact ⟨_,⟨congrArg _ (aA (fun w=>by have:=(fO aR e).1 w;omega)).symm,rfl⟩,aC⟩|exact ⟨_,⟨congrArg _ (zdt ((fO aR e).2 ai)).symm,rfl⟩,aC⟩|exact ⟨_,⟨congrArg _ (decide_eq_decide.2 ⟨fun h=>(fO aR e).2 ai,fun h=>by have:=(fO aR e).1 h;omega⟩),rfl⟩,aC⟩
    ·refine O.q 4 rfl<|O.nil<|S.ret results277 rfl fun w hw=>ax.end_ hR hw ?_
     first|exact ⟨_,⟨congrArg _ (aA (fun w=>by have:=(fO aR e).1 w;omega)).symm,rfl⟩,aC⟩|exact ⟨_,⟨congrArg _ (zdt ((fO aR e).2 ai)).symm,rfl⟩,aC⟩|exact ⟨_,⟨congrArg _ (decide_eq_decide.2 ⟨fun h=>(fO aR e).2 ai,fun h=>by have:=(fO aR e).1 h;omega⟩),rfl⟩,aC⟩
   ·refine U 14 ?_
    refine O.sT 67 rfl (by rw [e];rfl)<|U 11 ?_;refine S.ret results277 rfl fun w hw=>ax.end_ hR hw ?_
    first|exact ⟨_,⟨congrArg _ (aA (fun w=>by have:=(fO aR e).1 w;omega)).symm,rfl⟩,aC⟩|exact ⟨_,⟨congrArg _ (zdt ((fO aR e).2 ai)).symm,rfl⟩,aC⟩|exact ⟨_,⟨congrArg _ (decide_eq_decide.2 ⟨fun h=>(fO aR e).2 ai,fun h=>by have:=(fO aR e).1 h;omega⟩),rfl⟩,aC⟩
  ·have eC:=e
   by_cases e:x.1=1
   ·
    refine U 2 ?_;refine S.aY (L:=.range 15) F.mixed af ?_;refine U 8 ?_
    refine ah.cs 59 rfl (fun oV=>?_) fun oV=>?_
    ·refine U 14 ?_
     refine O.aB 67 rfl (by exact aA fun w=>eC (fk (b:=3).1 w)) ?_;refine U 5 ?_;refine O.aD (.p rfl) (.tN (enc:=k5)) ?_;rintro _ _ ⟨vG,rfl,rfl⟩;refine O.eg rfl (.gf (key:=1) underlying335 (eI underlying32) rfl rfl rfl an) ?_;refine O.eg rfl (.gf (key:=2) underlying335 (eI underlying32) rfl rfl rfl an) ?_;refine O.eg rfl (.gf (key:=4) underlying335 (eI underlying32) rfl rfl rfl an)<|U 3 ?_;refine O.op (.p rfl) (.o6 underlying335 (eI underlying32) zeroValue3 rfl rfl an) ?_;refine O.q 2 rfl<|O.slot 79 (v' :=.int .i64 0) rfl (by rw [e];rfl) ?_;refine O.q 1 rfl<|O.sT 80 rfl (by rw [e];rfl)<|U 17 ?_
     refine O.cs 92 rfl (fun qE=>?_) fun qE=>?_
     ·refine U 5 ?_
      refine O.cs 97 rfl (fun qF=>?_) fun qF=>?_
      ·refine U 4 ?_
       refine O.cs 101 rfl (fun qC=>?_) fun qC=>?_
       ·refine O.q 6 rfl<|O.nil<|S.ret results277 rfl fun w hw=>ax.end_ hR hw ?_
        first|exact ⟨_,⟨congrArg _ (aA (fun w=>by have:=(eU aR e).1 w;omega)).symm,rfl⟩,aC⟩|exact ⟨_,⟨congrArg _ (zdt ((eU aR e).2 ai)).symm,rfl⟩,aC⟩|exact ⟨_,⟨congrArg _ (decide_eq_decide.2 ⟨fun h=>(eU aR e).2 ai,fun h=>by have:=(eU aR e).1 h;omega⟩),rfl⟩,aC⟩
       ·refine U 3 ?_
        refine O.aB 104 rfl (by rw [e];rfl) ?_;refine O.q 3 rfl<|O.nil<|S.ret results277 rfl fun w hw=>ax.end_ hR hw ?_
        first|exact ⟨_,⟨congrArg _ (aA (fun w=>by have:=(eU aR e).1 w;omega)).symm,rfl⟩,aC⟩|exact ⟨_,⟨congrArg _ (zdt ((eU aR e).2 ai)).symm,rfl⟩,aC⟩|exact ⟨_,⟨congrArg _ (decide_eq_decide.2 ⟨fun h=>(eU aR e).2 ai,fun h=>by have:=(eU aR e).1 h;omega⟩),rfl⟩,aC⟩
      ·refine O.q 10 rfl<|O.nil<|S.ret results277 rfl fun w hw=>ax.end_ hR hw ?_
       first|exact ⟨_,⟨congrArg _ (aA (fun w=>by have:=(eU aR e).1 w;omega)).symm,rfl⟩,aC⟩|exact ⟨_,⟨congrArg _ (zdt ((eU aR e).2 ai)).symm,rfl⟩,aC⟩|exact ⟨_,⟨congrArg _ (decide_eq_decide.2 ⟨fun h=>(eU aR e).2 ai,fun h=>by have:=(eU aR e).1 h;omega⟩),rfl⟩,aC⟩
     ·refine O.q 15 rfl<|O.nil<|S.ret results277 rfl fun w hw=>ax.end_ hR hw ?_
      first|exact ⟨_,⟨congrArg _ (aA (fun w=>by have:=(eU aR e).1 w;omega)).symm,rfl⟩,aC⟩|exact ⟨_,⟨congrArg _ (zdt ((eU aR e).2 ai)).symm,rfl⟩,aC⟩|exact ⟨_,⟨congrArg _ (decide_eq_decide.2 ⟨fun h=>(eU aR e).2 ai,fun h=>by have:=(eU aR e).1 h;omega⟩),rfl⟩,aC⟩
    ·refine U 14 ?_
     refine O.aB 67 rfl (by exact aA fun w=>eC (fk (b:=3).1 w)) ?_;refine U 5 ?_;refine O.aD (.p rfl) (.tN (enc:=k5)) ?_;rintro _ _ ⟨vG,rfl,rfl⟩;refine O.eg rfl (.gf (key:=1) underlying335 (eI underlying32) rfl rfl rfl an) ?_;refine O.eg rfl (.gf (key:=2) underlying335 (eI underlying32) rfl rfl rfl an) ?_;refine O.eg rfl (.gf (key:=4) underlying335 (eI underlying32) rfl rfl rfl an)<|U 3 ?_;refine O.op (.p rfl) (.o6 underlying335 (eI underlying32) zeroValue3 rfl rfl an) ?_;refine O.q 2 rfl<|O.slot 79 (v' :=.int .i64 0) rfl (by rw [e];rfl) ?_;refine O.q 1 rfl<|O.sT 80 rfl (by rw [e];rfl)<|U 17 ?_
     refine O.cs 92 rfl (fun qE=>?_) fun qE=>?_
     ·refine U 5 ?_
      refine O.cs 97 rfl (fun qF=>?_) fun qF=>?_
      ·refine U 4 ?_
       refine O.cs 101 rfl (fun qC=>?_) fun qC=>?_
       ·refine O.q 6 rfl<|O.nil<|S.ret results277 rfl fun w hw=>ax.end_ hR hw ?_
        first|exact ⟨_,⟨congrArg _ (aA (fun w=>by have:=(eU aR e).1 w;omega)).symm,rfl⟩,aC⟩|exact ⟨_,⟨congrArg _ (zdt ((eU aR e).2 ai)).symm,rfl⟩,aC⟩|exact ⟨_,⟨congrArg _ (decide_eq_decide.2 ⟨fun h=>(eU aR e).2 ai,fun h=>by have:=(eU aR e).1 h;omega⟩),rfl⟩,aC⟩
       ·refine U 3 ?_
        refine O.aB 104 rfl (by rw [e];rfl) ?_;refine O.q 3 rfl<|O.nil<|S.ret results277 rfl fun w hw=>ax.end_ hR hw ?_
        first|exact ⟨_,⟨congrArg _ (aA (fun w=>by have:=(eU aR e).1 w;omega)).symm,rfl⟩,aC⟩|exact ⟨_,⟨congrArg _ (zdt ((eU aR e).2 ai)).symm,rfl⟩,aC⟩|exact ⟨_,⟨congrArg _ (decide_eq_decide.2 ⟨fun h=>(eU aR e).2 ai,fun h=>by have:=(eU aR e).1 h;omega⟩),rfl⟩,aC⟩
      ·refine O.q 10 rfl<|O.nil<|S.ret results277 rfl fun w hw=>ax.end_ hR hw ?_
       first|exact ⟨_,⟨congrArg _ (aA (fun w=>by have:=(eU aR e).1 w;omega)).symm,rfl⟩,aC⟩|exact ⟨_,⟨congrArg _ (zdt ((eU aR e).2 ai)).symm,rfl⟩,aC⟩|exact ⟨_,⟨congrArg _ (decide_eq_decide.2 ⟨fun h=>(eU aR e).2 ai,fun h=>by have:=(eU aR e).1 h;omega⟩),rfl⟩,aC⟩
     ·refine O.q 15 rfl<|O.nil<|S.ret results277 rfl fun w hw=>ax.end_ hR hw ?_
      first|exact ⟨_,⟨congrArg _ (aA (fun w=>by have:=(eU aR e).1 w;omega)).symm,rfl⟩,aC⟩|exact ⟨_,⟨congrArg _ (zdt ((eU aR e).2 ai)).symm,rfl⟩,aC⟩|exact ⟨_,⟨congrArg _ (decide_eq_decide.2 ⟨fun h=>(eU aR e).2 ai,fun h=>by have:=(eU aR e).1 h;omega⟩),rfl⟩,aC⟩
   ·have n1:=e
    by_cases e:x.1=2
    ·
     refine U 2 ?_;refine S.aY (L:=.range 15) F.mixed af ?_;refine U 8 ?_
     refine ah.cs 59 rfl (fun oV=>?_) fun oV=>?_
     ·refine U 14 ?_
      refine O.aB 67 rfl (by exact aA fun w=>eC (fk (b:=3).1 w)) ?_;refine U 5 ?_;refine O.aD (.p rfl) (.tN (enc:=k5)) ?_;rintro _ _ ⟨vG,rfl,rfl⟩;refine O.eg rfl (.gf (key:=1) underlying335 (eI underlying32) rfl rfl rfl an) ?_;refine O.eg rfl (.gf (key:=2) underlying335 (eI underlying32) rfl rfl rfl an) ?_;refine O.eg rfl (.gf (key:=4) underlying335 (eI underlying32) rfl rfl rfl an)<|U 3 ?_;refine O.op (.p rfl) (.o6 underlying335 (eI underlying32) zeroValue3 rfl rfl an) ?_;refine O.q 2 rfl<|O.slot 79 (v' :=.int .i64 1) rfl (by rw [e];rfl) ?_;refine O.q 1 rfl<|O.sT 80 rfl (by rw [e];rfl)<|U 17 ?_
      refine O.cs 92 rfl (fun qE=>?_) fun qE=>?_
      ·refine U 5 ?_
       refine O.cs 97 rfl (fun qF=>?_) fun qF=>?_
       ·refine U 4 ?_
        refine O.cs 101 rfl (fun qC=>?_) fun qC=>?_
        ·refine O.q 6 rfl<|O.nil<|S.ret results277 rfl fun w hw=>ax.end_ hR hw ?_
         first|exact ⟨_,⟨congrArg _ (aA (fun w=>by have:=(eV aR e).1 w;omega)).symm,rfl⟩,aC⟩|exact ⟨_,⟨congrArg _ (zdt ((eV aR e).2 ai)).symm,rfl⟩,aC⟩|exact ⟨_,⟨congrArg _ (decide_eq_decide.2 ⟨fun h=>(eV aR e).2 ai,fun h=>by have:=(eV aR e).1 h;omega⟩),rfl⟩,aC⟩
        ·refine U 3 ?_
         refine O.aB 104 rfl (by rw [e];rfl) ?_;refine O.q 3 rfl<|O.nil<|S.ret results277 rfl fun w hw=>ax.end_ hR hw ?_
         first|exact ⟨_,⟨congrArg _ (aA (fun w=>by have:=(eV aR e).1 w;omega)).symm,rfl⟩,aC⟩|exact ⟨_,⟨congrArg _ (zdt ((eV aR e).2 ai)).symm,rfl⟩,aC⟩|exact ⟨_,⟨congrArg _ (decide_eq_decide.2 ⟨fun h=>(eV aR e).2 ai,fun h=>by have:=(eV aR e).1 h;omega⟩),rfl⟩,aC⟩
       ·refine O.q 10 rfl<|O.nil<|S.ret results277 rfl fun w hw=>ax.end_ hR hw ?_
        first|exact ⟨_,⟨congrArg _ (aA (fun w=>by have:=(eV aR e).1 w;omega)).symm,rfl⟩,aC⟩|exact ⟨_,⟨congrArg _ (zdt ((eV aR e).2 ai)).symm,rfl⟩,aC⟩|exact ⟨_,⟨congrArg _ (decide_eq_decide.2 ⟨fun h=>(eV aR e).2 ai,fun h=>by have:=(eV aR e).1 h;omega⟩),rfl⟩,aC⟩
      ·refine O.q 15 rfl<|O.nil<|S.ret results277 rfl fun w hw=>ax.end_ hR hw ?_
       first|exact ⟨_,⟨congrArg _ (aA (fun w=>by have:=(eV aR e).1 w;omega)).symm,rfl⟩,aC⟩|exact ⟨_,⟨congrArg _ (zdt ((eV aR e).2 ai)).symm,rfl⟩,aC⟩|exact ⟨_,⟨congrArg _ (decide_eq_decide.2 ⟨fun h=>(eV aR e).2 ai,fun h=>by have:=(eV aR e).1 h;omega⟩),rfl⟩,aC⟩
     ·refine U 14 ?_
      refine O.aB 67 rfl (by exact aA fun w=>eC (fk (b:=3).1 w)) ?_;refine U 5 ?_;refine O.aD (.p rfl) (.tN (enc:=k5)) ?_;rintro _ _ ⟨vG,rfl,rfl⟩;refine O.eg rfl (.gf (key:=1) underlying335 (eI underlying32) rfl rfl rfl an) ?_;refine O.eg rfl (.gf (key:=2) underlying335 (eI underlying32) rfl rfl rfl an) ?_;refine O.eg rfl (.gf (key:=4) underlying335 (eI underlying32) rfl rfl rfl an)<|U 3 ?_;refine O.op (.p rfl) (.o6 underlying335 (eI underlying32) zeroValue3 rfl rfl an) ?_;refine O.q 2 rfl<|O.slot 79 (v' :=.int .i64 1) rfl (by rw [e];rfl) ?_;refine O.q 1 rfl<|O.sT 80 rfl (by rw [e];rfl)<|U 17 ?_
      refine O.cs 92 rfl (fun qE=>?_) fun qE=>?_
      ·refine U 5 ?_
       refine O.cs 97 rfl (fun qF=>?_) fun qF=>?_
       ·refine U 4 ?_
        refine O.cs 101 rfl (fun qC=>?_) fun qC=>?_
        ·refine O.q 6 rfl<|O.nil<|S.ret results277 rfl fun w hw=>ax.end_ hR hw ?_
         first|exact ⟨_,⟨congrArg _ (aA (fun w=>by have:=(eV aR e).1 w;omega)).symm,rfl⟩,aC⟩|exact ⟨_,⟨congrArg _ (zdt ((eV aR e).2 ai)).symm,rfl⟩,aC⟩|exact ⟨_,⟨congrArg _ (decide_eq_decide.2 ⟨fun h=>(eV aR e).2 ai,fun h=>by have:=(eV aR e).1 h;omega⟩),rfl⟩,aC⟩
        ·refine U 3 ?_
         refine O.aB 104 rfl (by rw [e];rfl) ?_;refine O.q 3 rfl<|O.nil<|S.ret results277 rfl fun w hw=>ax.end_ hR hw ?_
         first|exact ⟨_,⟨congrArg _ (aA (fun w=>by have:=(eV aR e).1 w;omega)).symm,rfl⟩,aC⟩|exact ⟨_,⟨congrArg _ (zdt ((eV aR e).2 ai)).symm,rfl⟩,aC⟩|exact ⟨_,⟨congrArg _ (decide_eq_decide.2 ⟨fun h=>(eV aR e).2 ai,fun h=>by have:=(eV aR e).1 h;omega⟩),rfl⟩,aC⟩
       ·refine O.q 10 rfl<|O.nil<|S.ret results277 rfl fun w hw=>ax.end_ hR hw ?_
        first|exact ⟨_,⟨congrArg _ (aA (fun w=>by have:=(eV aR e).1 w;omega)).symm,rfl⟩,aC⟩|exact ⟨_,⟨congrArg _ (zdt ((eV aR e).2 ai)).symm,rfl⟩,aC⟩|exact ⟨_,⟨congrArg _ (decide_eq_decide.2 ⟨fun h=>(eV aR e).2 ai,fun h=>by have:=(eV aR e).1 h;omega⟩),rfl⟩,aC⟩
      ·refine O.q 15 rfl<|O.nil<|S.ret results277 rfl fun w hw=>ax.end_ hR hw ?_
       first|exact ⟨_,⟨congrArg _ (aA (fun w=>by have:=(eV aR e).1 w;omega)).symm,rfl⟩,aC⟩|exact ⟨_,⟨congrArg _ (zdt ((eV aR e).2 ai)).symm,rfl⟩,aC⟩|exact ⟨_,⟨congrArg _ (decide_eq_decide.2 ⟨fun h=>(eV aR e).2 ai,fun h=>by have:=(eV aR e).1 h;omega⟩),rfl⟩,aC⟩
    ·have n2:=e
     by_cases e:x.1=4
     ·
      refine U 2 ?_;refine S.aY (L:=.range 15) F.mixed af ?_;refine U 8 ?_
      refine ah.cs 59 rfl (fun oV=>?_) fun oV=>?_
      ·refine U 14 ?_
       refine O.aB 67 rfl (by exact aA fun w=>eC (fk (b:=3).1 w)) ?_;refine U 5 ?_;refine O.aD (.p rfl) (.tN (enc:=k5)) ?_;rintro _ _ ⟨vG,rfl,rfl⟩;refine O.eg rfl (.gf (key:=1) underlying335 (eI underlying32) rfl rfl rfl an) ?_;refine O.eg rfl (.gf (key:=2) underlying335 (eI underlying32) rfl rfl rfl an) ?_;refine O.eg rfl (.gf (key:=4) underlying335 (eI underlying32) rfl rfl rfl an)<|U 3 ?_;refine O.op (.p rfl) (.o6 underlying335 (eI underlying32) zeroValue3 rfl rfl an) ?_;refine O.q 2 rfl<|O.slot 79 (v' :=.int .i64 2) rfl (by rw [e];rfl) ?_;refine O.q 1 rfl<|O.sT 80 rfl (by rw [e];rfl)<|U 17 ?_
       refine O.cs 92 rfl (fun qE=>?_) fun qE=>?_
       ·refine U 5 ?_
        refine O.cs 97 rfl (fun qF=>?_) fun qF=>?_
        ·refine U 4 ?_
         refine O.cs 101 rfl (fun qC=>?_) fun qC=>?_
         ·refine O.q 6 rfl<|O.nil<|S.ret results277 rfl fun w hw=>ax.end_ hR hw ?_
          first|exact ⟨_,⟨congrArg _ (aA (fun w=>by have:=(eW aR e).1 w;omega)).symm,rfl⟩,aC⟩|exact ⟨_,⟨congrArg _ (zdt ((eW aR e).2 ai)).symm,rfl⟩,aC⟩|exact ⟨_,⟨congrArg _ (decide_eq_decide.2 ⟨fun h=>(eW aR e).2 ai,fun h=>by have:=(eW aR e).1 h;omega⟩),rfl⟩,aC⟩
         ·refine U 3 ?_
          refine O.sT 104 rfl (by rw [e];rfl) ?_;refine O.q 3 rfl<|O.nil<|S.ret results277 rfl fun w hw=>ax.end_ hR hw ?_
          first|exact ⟨_,⟨congrArg _ (aA (fun w=>by have:=(eW aR e).1 w;omega)).symm,rfl⟩,aC⟩|exact ⟨_,⟨congrArg _ (zdt ((eW aR e).2 ai)).symm,rfl⟩,aC⟩|exact ⟨_,⟨congrArg _ (decide_eq_decide.2 ⟨fun h=>(eW aR e).2 ai,fun h=>by have:=(eW aR e).1 h;omega⟩),rfl⟩,aC⟩
        ·refine O.q 10 rfl<|O.nil<|S.ret results277 rfl fun w hw=>ax.end_ hR hw ?_
         first|exact ⟨_,⟨congrArg _ (aA (fun w=>by have:=(eW aR e).1 w;omega)).symm,rfl⟩,aC⟩|exact ⟨_,⟨congrArg _ (zdt ((eW aR e).2 ai)).symm,rfl⟩,aC⟩|exact ⟨_,⟨congrArg _ (decide_eq_decide.2 ⟨fun h=>(eW aR e).2 ai,fun h=>by have:=(eW aR e).1 h;omega⟩),rfl⟩,aC⟩
       ·refine O.q 15 rfl<|O.nil<|S.ret results277 rfl fun w hw=>ax.end_ hR hw ?_
        first|exact ⟨_,⟨congrArg _ (aA (fun w=>by have:=(eW aR e).1 w;omega)).symm,rfl⟩,aC⟩|exact ⟨_,⟨congrArg _ (zdt ((eW aR e).2 ai)).symm,rfl⟩,aC⟩|exact ⟨_,⟨congrArg _ (decide_eq_decide.2 ⟨fun h=>(eW aR e).2 ai,fun h=>by have:=(eW aR e).1 h;omega⟩),rfl⟩,aC⟩
      ·refine U 14 ?_
       refine O.aB 67 rfl (by exact aA fun w=>eC (fk (b:=3).1 w)) ?_;refine U 5 ?_;refine O.aD (.p rfl) (.tN (enc:=k5)) ?_;rintro _ _ ⟨vG,rfl,rfl⟩;refine O.eg rfl (.gf (key:=1) underlying335 (eI underlying32) rfl rfl rfl an) ?_;refine O.eg rfl (.gf (key:=2) underlying335 (eI underlying32) rfl rfl rfl an) ?_;refine O.eg rfl (.gf (key:=4) underlying335 (eI underlying32) rfl rfl rfl an)<|U 3 ?_;refine O.op (.p rfl) (.o6 underlying335 (eI underlying32) zeroValue3 rfl rfl an) ?_;refine O.q 2 rfl<|O.slot 79 (v' :=.int .i64 2) rfl (by rw [e];rfl) ?_;refine O.q 1 rfl<|O.sT 80 rfl (by rw [e];rfl)<|U 17 ?_
       refine O.cs 92 rfl (fun qE=>?_) fun qE=>?_
       ·refine U 5 ?_
        refine O.cs 97 rfl (fun qF=>?_) fun qF=>?_
        ·refine U 4 ?_
         refine O.cs 101 rfl (fun qC=>?_) fun qC=>?_
         ·refine O.q 6 rfl<|O.nil<|S.ret results277 rfl fun w hw=>ax.end_ hR hw ?_
          first|exact ⟨_,⟨congrArg _ (aA (fun w=>by have:=(eW aR e).1 w;omega)).symm,rfl⟩,aC⟩|exact ⟨_,⟨congrArg _ (zdt ((eW aR e).2 ai)).symm,rfl⟩,aC⟩|exact ⟨_,⟨congrArg _ (decide_eq_decide.2 ⟨fun h=>(eW aR e).2 ai,fun h=>by have:=(eW aR e).1 h;omega⟩),rfl⟩,aC⟩
         ·refine U 3 ?_
          refine O.sT 104 rfl (by rw [e];rfl) ?_;refine O.q 3 rfl<|O.nil<|S.ret results277 rfl fun w hw=>ax.end_ hR hw ?_
          first|exact ⟨_,⟨congrArg _ (aA (fun w=>by have:=(eW aR e).1 w;omega)).symm,rfl⟩,aC⟩|exact ⟨_,⟨congrArg _ (zdt ((eW aR e).2 ai)).symm,rfl⟩,aC⟩|exact ⟨_,⟨congrArg _ (decide_eq_decide.2 ⟨fun h=>(eW aR e).2 ai,fun h=>by have:=(eW aR e).1 h;omega⟩),rfl⟩,aC⟩
        ·refine O.q 10 rfl<|O.nil<|S.ret results277 rfl fun w hw=>ax.end_ hR hw ?_
         first|exact ⟨_,⟨congrArg _ (aA (fun w=>by have:=(eW aR e).1 w;omega)).symm,rfl⟩,aC⟩|exact ⟨_,⟨congrArg _ (zdt ((eW aR e).2 ai)).symm,rfl⟩,aC⟩|exact ⟨_,⟨congrArg _ (decide_eq_decide.2 ⟨fun h=>(eW aR e).2 ai,fun h=>by have:=(eW aR e).1 h;omega⟩),rfl⟩,aC⟩
       ·refine O.q 15 rfl<|O.nil<|S.ret results277 rfl fun w hw=>ax.end_ hR hw ?_
        first|exact ⟨_,⟨congrArg _ (aA (fun w=>by have:=(eW aR e).1 w;omega)).symm,rfl⟩,aC⟩|exact ⟨_,⟨congrArg _ (zdt ((eW aR e).2 ai)).symm,rfl⟩,aC⟩|exact ⟨_,⟨congrArg _ (decide_eq_decide.2 ⟨fun h=>(eW aR e).2 ai,fun h=>by have:=(eW aR e).1 h;omega⟩),rfl⟩,aC⟩
     ·have fy:=e
      have e:=Oe n1 n2 eC fy;refine U 2 ?_;refine S.aY (L:=.range 15) F.mixed af ?_;refine U 8 ?_
      refine ah.cs 59 rfl (fun oV=>?_) fun oV=>?_
      ·refine U 14 ?_
       refine O.aB 67 rfl (by exact aA fun w=>eC (fk (b:=3).1 w)) ?_;refine U 5 ?_;refine O.aD (.p rfl) (.tN (enc:=k5)) ?_;rintro _ _ ⟨vG,rfl,rfl⟩;refine O.eg rfl (.gf (key:=1) underlying335 (eI underlying32) rfl rfl rfl an) ?_;refine O.eg rfl (.gf (key:=2) underlying335 (eI underlying32) rfl rfl rfl an) ?_;refine O.eg rfl (.gf (key:=4) underlying335 (eI underlying32) rfl rfl rfl an)<|U 3 ?_;refine O.op (.p rfl) (.o6 underlying335 (eI underlying32) zeroValue3 rfl rfl an) ?_;refine O.q 3 rfl<|O.aB 80 rfl (by simp [fN,u6,n1,n2,fy,Ne.symm n1,Ne.symm n2,Ne.symm fy])<|U 33 ?_;refine S.ret results277 rfl fun w hw=>ax.end_ hR hw ?_
       first|exact ⟨_,⟨congrArg _ (aA e).symm,rfl⟩,aC⟩
      ·refine U 14 ?_
       refine O.aB 67 rfl (by exact aA fun w=>eC (fk (b:=3).1 w)) ?_;refine U 5 ?_;refine O.aD (.p rfl) (.tN (enc:=k5)) ?_;rintro _ _ ⟨vG,rfl,rfl⟩;refine O.eg rfl (.gf (key:=1) underlying335 (eI underlying32) rfl rfl rfl an) ?_;refine O.eg rfl (.gf (key:=2) underlying335 (eI underlying32) rfl rfl rfl an) ?_;refine O.eg rfl (.gf (key:=4) underlying335 (eI underlying32) rfl rfl rfl an)<|U 3 ?_;refine O.op (.p rfl) (.o6 underlying335 (eI underlying32) zeroValue3 rfl rfl an) ?_;refine O.q 3 rfl<|O.aB 80 rfl (by simp [fN,u6,n1,n2,fy,Ne.symm n1,Ne.symm n2,Ne.symm fy])<|U 33 ?_;refine S.ret results277 rfl fun w hw=>ax.end_ hR hw ?_
       first|exact ⟨_,⟨congrArg _ (aA e).symm,rfl⟩,aC⟩
theorem u4 {α:Type} {T:ag α} {e:TypeId} {v:Value} {xs:List α} {m:Fr} (h:Sat [ak T e v xs] m):av T m v xs:=by
 obtain ⟨m1,_,_,s1,_,o,_⟩:=h;exact (ak.arr o).mono s1
theorem Sn {α:Type} {T:ag α} {e:TypeId} {vs:List Value} {xs:List (List α)} {m k:Fr} (s:m.sub k) (x:aZ (ak T e) vs xs m):cG (av T k) vs xs:=aZ.sW (R:=fun v a=>av T k v a) (fun _ _ _ z w=>av.mono w (ak.arr z)) x s
theorem So {β α:Type} {A:β→α→az} {bs:List β} {ys:List α} {b1 b2:β} {a1 a2:α} {m:Fr} (st:Sat [aZ A bs ys,A b1 a1,A b2 a2] m):aZ A (bs++[b1,b2]) (ys++[a1,a2]) m:=by
 obtain ⟨h1,h2,d,s1,s2,x,y⟩:=st;exact aZ.app ⟨h1,h2,d,s1,s2,x,h2,Fr.emp,Fr.e7 (Fr.eA _),Fr.bH _,Fr.dY _,aZ.I9 (A:=A) (bs:=[b1,b2]) rfl y,trivial⟩
def AT (k:UInt8):UInt8:=[0,0,1,2,3].getD k.toNat 0
noncomputable def qT (l:List eL):List (List UInt8):=(l.map fun y=>[bytesOf y.1,jL y.2.1]).flatten
noncomputable def AS (x:eY):List (List UInt8):=[[AT x.1],x.2.1,x.2.2.1]++qT x.2.2.2.1
noncomputable def o_ (x:eY):List UInt8:=if gA x then sb (AS x).flatten else []
theorem Of {x:eY} (h:gA x):o_ x=sb (AS x).flatten:=by unfold o_;rw [if_pos h]
theorem IP {x:eY} (h:¬ gA x):o_ x=[]:=by unfold o_;rw [if_neg h]
theorem Og (x:eY):(o_ x).length=64↔gA x:=by
 by_cases h:gA x
 ·rw [Of h,JT];exact ⟨fun _=>h,fun _=>rfl⟩
 ·rw [IP h];exact ⟨fun w=>absurd w aq,fun w=>absurd w h⟩
theorem Ym {l:List eL} {k:Nat} (h:k<l.length):qT (l.take k)++[bytesOf l[k].1,jL l[k].2.1]=qT (l.take (k+1)):=by
 rw [List.take_succ_eq_append_getElem h];unfold qT;rw [List.map_append,List.flatten_append];simp
theorem NH:∀ l:List eL,(∀ y∈l,y.1.length≤64)→(qT l).flatten.length≤136*l.length
 |[],_=>Nat.zero_le _
 |y::l,h=>by
  have:=NH l fun z hz=>h z (by simp [hz]);have h1:=h y aH;have h2:=acr y.2.1;unfold qT at *;simp only [List.map_cons,List.flatten_cons,List.flatten_append,List.length_append,List.length_cons,List.flatten_nil,List.length_nil,fI];omega
theorem Zf {k:UInt8} (h:k.toNat<5):aT ([0,0,1,2,3]:List UInt8)[k.toNat]=aT (AT k):=by
 unfold AT;rw [List.getD_eq_getElem?_getD,List.getElem?_eq_getElem (show k.toNat<([0,0,1,2,3]:List UInt8).length from h)]
 rfl
theorem Zg {x:eY} (h:gA x):x.1.toNat<5:=by
 rcases h.2 with h|h|h|h<;>(rw [h.1];decide)
theorem Oh {r:Fr} {cs:List Value} {x:eY} (h:fj.rel r cs x) (hx0:x.2.1.length≤1000000000000∧x.2.2.1.length≤1000000000000) (b8:x.2.2.2.1.length≤10000000∧∀ y∈x.2.2.2.1,y.2.1.length≤10000000) (aU:cg r ⟨0,0,none⟩ (cz fq)) (hK:cg r ⟨1,0,none⟩ (cz gW)) :
  aj prog 238 #[.agg cs.toArray] r [] (aF fun v aa=>∃ a c,v=.slice a (o_ x).length c∧aa=[ak ag.u8 5 (.slice a (o_ x).length c) (o_ x)]):=by
 have h0:=h;obtain ⟨a1,a2,a3,c1,c2,c3,rfl,k1,k2,aI⟩:=fj.sh h;refine aj.of (n:=40) _ rfl func238 rfl rfl rfl fun g hg R hR=>?_;have h:=h.mono hg;have h0:=h0.mono hg;have k1:=k1.mono hg;have k2:=k2.mono hg;have aI:=aI.mono hg;have aU:=aU.mono hg;have hK:=hK.mono hg;have hb:=aI.bound;refine S.seq<|S.region rfl<|O.aD (.p rfl) (.box (cs:=[_,_,_,_]) rfl rfl) ?_;rintro _ _ ⟨b1,rfl,rfl⟩;refine O.q 1 rfl<|O.nil<|S.seq<|S.seq<|S.cH (b:=b1) (cs' :=[aT x.1,.slice a1 x.2.1.length c1,.slice a2 x.2.2.1.length c2,.slice a3 x.2.2.2.1.length c3]) an rfl ?_;refine S.cy an fun g hs hm h1=>?_;replace hg:=Fr.bQ hg hs;replace hR:=a_ hR hm
 try replace h:=h.mono hs
 try replace h0:=h0.mono hs
 try replace k1:=k1.mono hs
 try replace k2:=k2.mono hs
 try replace aI:=aI.mono hs
 try replace aU:=aU.mono hs
 try replace hK:=hK.mono hs
 clear hs hm
 by_cases e:gA x
 ·have GR:=Zg e
  have hkeys:∀ y∈x.2.2.2.1,y.1.length≤64:=fun y hy=>(e.1.1 y hy).1.2;have af_:x.2.1.length≤64∧x.2.2.1.length≤64:=by rcases e.2 with q|q|q|q;rw [q.2.1,q.2.2.1];decide;rw [q.2.1,q.2.2.1];decide;omega;rw [q.2.1,q.2.2.1];decide
  refine S.region rfl<|O.op (.p rfl) (.aJ isAgg35 af rfl h1) ?_;refine O.aN (.p rfl) rfl af rfl rfl ((N9 h0 hx0 (fun y hy=>by have:=b8.2 y hy;omega))) ?_;rintro _ _ ⟨rfl,rfl⟩
  try simp only [gB,gC,gD]
  refine O.sT 7 rfl (by exact decide_eq_true e) ?_;refine O.op (.p rfl) (.not rfl)<|O.nil<|S.pK rfl<|S.skip<|S.seq<|S.aY (L:=[1,2,6,7,8,9,0,3,4,5,10,11]) F.mixed af ?_;refine .quiet (.p rfl) rfl (fun _=>.fieldAddr L2 rfl)<|.quiet (.p rfl) rfl (fun _=>.loadAt LR rfl h1 rfl) ?_;refine .quiet (.p rfl) rfl (fun _=>.fieldAddr L3 rfl)<|.quiet (.p rfl) rfl (fun _=>.loadAt k7 rfl (h1.drop 1) rfl) ?_;refine .quiet (.p rfl) rfl (fun _=>.fieldAddr L4 rfl)<|.quiet (.p rfl) rfl (fun _=>.loadAt k7 rfl (h1.drop 2) rfl) ?_;refine ah.bw (T:=ag.u8) (ys:=[0,0,1,2,3]) (.p rfl) af underlying22 cP aq rfl rfl ⟨rfl,rfl,rfl,rfl,rfl,trivial⟩ aq (fun a9 bc=>?_);refine ah.qP (T:=ag.u8) (e:=5) (v:=.slice a9 5 bc) (xs:=[0,0,1,2,3]) (j:=x.1.toNat) (.p rfl) af underlying22 fG rfl rfl rfl an GR (fun bL eS=>?_);refine ah.IE (.p rfl) af (fun _=>.YO (T:=ag.u8) (xs:=[0,0,1,2,3]) (j:=x.1.toNat) vM rfl eS rfl an GR (by rintro _ rfl;exact congrArg (fun v=>[v]) (Zf GR))) ?_;refine ah.bw (.p rfl) af (T:=ag.u8) (ys:=[AT x.1]) underlying22 cP aq rfl rfl ⟨rfl,trivial⟩ aq (fun cS bE=>?_)
  refine ah.bw (.p rfl) af (T:=ag.val) (ys:=[.slice cS 1 bE,.slice a1 x.2.1.length c1,.slice a2 x.2.2.1.length c2]) underlying28 dH aq rfl rfl ⟨⟨rfl,rfl⟩,⟨rfl,rfl⟩,⟨rfl,rfl⟩,trivial⟩ aq (fun eF cO=>?_);refine ah.q 1 rfl<|bt.nil<|S.seq<|S.seq<|S.fW (A:=ak ag.u8 5 (.slice cS 1 bE) [AT x.1]) an fun g hs hm ⟨_,x',s'⟩=>?_;have ht:=(fun s x=>av.mono s (ak.arr x)) s' x';clear x' s';replace hg:=Fr.bQ hg hs;replace hR:=a_ hR hm
  try replace h:=h.mono hs
  try replace h0:=h0.mono hs
  try replace k1:=k1.mono hs
  try replace k2:=k2.mono hs
  try replace aI:=aI.mono hs
  try replace aU:=aU.mono hs
  try replace hK:=hK.mono hs
  try replace h1:=h1.mono hs
  clear hs hm;refine S.fW (A:=ak ag.u8 5 (.slice a9 5 bc) [0,0,1,2,3]) an fun g hs hm ⟨_,x',s'⟩=>?_;have h9:=(fun s x=>av.mono s (ak.arr x)) s' x';clear x' s';replace hg:=Fr.bQ hg hs;replace hR:=a_ hR hm
  try replace h:=h.mono hs
  try replace h0:=h0.mono hs
  try replace k1:=k1.mono hs
  try replace k2:=k2.mono hs
  try replace aI:=aI.mono hs
  try replace aU:=aU.mono hs
  try replace hK:=hK.mono hs
  try replace h1:=h1.mono hs
  try replace ht:=ht.mono hs
  clear hs hm;refine S.oS (A:=aZ (ak ag.u8 5) [] (qT (x.2.2.2.1.take 0))) (bs:=[]) .nil (fun m _=>trivial) ?_;refine S.region rfl<|O.op (.p rfl) (.fieldAddr L5 rfl)<|O.op (.p rfl) (.loadAt LS rfl (h1.drop 3) rfl) ?_;refine O.op (.p rfl) (.len rfl underlying33 rfl)<|O.q 1 rfl<|O.nil<|S.block<|S.wE (ι:=Nat) (dy:=Option Addr × Nat) (gN:=List Value) (fun k s vs=>k≤x.2.2.2.1.length∧vs.length=2*k) (fun k s vs=>[(23,.int .i64 (k:Int)),(3,.slice s.1 (3+2*k) s.2)]) [(21,_),(22,_)] (fun k s vs=>[aZ (ak ag.u8 5) vs (qT (x.2.2.2.1.take k)),ak ag.val 22 (.slice s.1 (3+2*k) s.2) ([.slice cS 1 bE,.slice a1 x.2.1.length c1,.slice a2 x.2.2.1.length c2]++vs)]) (fun k s vs=>x.2.2.2.1.length - k) (0) ((eF,cO)) ([]) (by exact ⟨by omega,rfl⟩) (.cons rfl (.cons rfl (.nil))) (.cons rfl (.cons rfl (.nil))) rfl fun k s vs hx ih=>?_;have aW:=bS (g:=g);obtain ⟨hx1,hvl⟩:=hx;refine S.seq<|S.region rfl<|O.op (.p rfl) (.lss rfl rfl)<|O.nil (S.seq ?_)
  first|refine S.xT rfl (fun gJ=>?_) (fun gJ=>?_)|refine S.uD rfl (fun gJ=>?_) (fun gJ=>?_)
  ·have hk:k<x.2.2.2.1.length:=by omega
   have pU:=b8.2 _ (List.getElem_mem hk);have hkey:=hkeys _ (List.getElem_mem hk);have gy:=Ym hk;refine S.skip<|S.seq<|S.block<|S.seq<|S.region rfl<|O.c7 (.p rfl) underlying33 sg rfl rfl rfl (aI) (h:=fun iT R2 x_ HB=>?_);obtain ⟨l1,m1,rfl,l2,l3⟩:=dJ.sh HB;have l3:=l3;refine O.op (.p rfl) (.aJ isAgg120 af rfl x_) ?_;refine O.aD (.p rfl) (.alloc (cs:=[.string ⟨#[]⟩,.slice none 0 0]) zeroValue120 rfl) ?_;rintro _ _ ⟨iL,rfl,rfl⟩;refine O.eg rfl (.jM af rfl rfl rfl rfl an oL) ?_;refine O.nil ?_;generalize x.2.2.2.1[k]=y at *;refine S.cH (b:=iL) (cs' :=[.string (str y.1),.slice l1 y.2.1.length m1]) an rfl ?_;refine S.cy an fun g hs hm h5=>?_;replace hg:=Fr.bQ hg hs;replace hR:=a_ hR hm
   try replace h:=h.mono hs
   try replace h0:=h0.mono hs
   try replace k1:=k1.mono hs
   try replace k2:=k2.mono hs
   try replace aI:=aI.mono hs
   try replace aU:=aU.mono hs
   try replace hK:=hK.mono hs
   try replace h1:=h1.mono hs
   try replace ht:=ht.mono hs
   try replace h9:=h9.mono hs
   try replace x_:=x_.mono hs
   try replace l3:=l3.mono hs
   replace aW:=eT aW hm;clear hs hm;refine S.aY (L:=[0,1,2,5,6,3,4,7,8,9,10]) F.mixed af ?_;refine ah.q 1 rfl<|.quiet (.p rfl) rfl (fun _=>.fieldAddr LZ rfl)<|.quiet (.p rfl) rfl (fun _=>.loadAt LW rfl h5 rfl) ?_;refine .quiet (.p rfl) rfl (fun _=>.fieldAddr L0 rfl)<|.quiet (.p rfl) rfl (fun _=>.loadAt LU rfl (h5.drop 1) rfl) ?_;refine ah.oD (.p rfl) af underlying9 underlying22 underlying5 rfl vt (fun kY k3=>?_);refine ah.dh (.p rfl) af rfl af rfl rfl (bs:=[ak ag.u8 5 (.slice kY y.1.length k3) y.1]) ct (fun m hm hd=>nS ((u4 hm).right hd) ai) ?_;rintro _ _ ⟨jE,jG,rfl,rfl⟩
   try simp only [gB,gC,gD]
   refine ah.aN (.p rfl) af rfl af rfl rfl ((acw l3 aU hK pU)) ?_;rintro _ _ ⟨ni,nq,rfl,rfl⟩
   try simp only [gB,gC,gD]
   refine ah.bw (.p rfl) af (T:=ag.val) (ys:=[.slice jE (bytesOf y.1).length jG,.slice ni (jL y.2.1).length nq]) underlying28 dH aq rfl rfl ⟨⟨rfl,rfl⟩,⟨rfl,rfl⟩,trivial⟩ aq (fun EO Fh=>?_);refine ah.fH (.p rfl) af (T:=ag.val) underlying28 dH aq rfl rfl an an bl bl (fun nZ n8=>?_);refine ah.q 1 rfl<|bt.nil<|S.inBlock<|S.oS (A:=aZ (ak ag.u8 5) (vs++[.slice jE (bytesOf y.1).length jG,.slice ni (jL y.2.1).length nq]) (qT (x.2.2.2.1.take (k+1)))) (bs:=[aZ (ak ag.u8 5) vs (qT (x.2.2.2.1.take k)),ak ag.u8 5 (.slice jE (bytesOf y.1).length jG) (bytesOf y.1),ak ag.u8 5 (.slice ni (jL y.2.1).length nq) (jL y.2.1)]) ct (fun m st=>by rw [← gy];exact So st) ?_;refine S.fW (A:=ak ag.u8 5 (.slice kY y.1.length k3) y.1) an fun g hs hm ⟨_,x',s'⟩=>?_;have ags:=(fun s x=>av.mono s (ak.arr x)) s' x';clear x' s';replace hg:=Fr.bQ hg hs;replace hR:=a_ hR hm
   try replace h:=h.mono hs
   try replace h0:=h0.mono hs
   try replace k1:=k1.mono hs
   try replace k2:=k2.mono hs
   try replace aI:=aI.mono hs
   try replace aU:=aU.mono hs
   try replace hK:=hK.mono hs
   try replace h1:=h1.mono hs
   try replace ht:=ht.mono hs
   try replace h9:=h9.mono hs
   try replace x_:=x_.mono hs
   try replace l3:=l3.mono hs
   try replace h5:=h5.mono hs
   replace aW:=eT aW hm;clear hs hm;refine S.hU (T:=ag.val) (e:=22) (v' :=.slice nZ (3+2*(k+1)) n8) (xs' :=[.slice cS 1 bE,.slice a1 x.2.1.length c1,.slice a2 x.2.2.1.length c2]++(vs++[.slice jE (bytesOf y.1).length jG,.slice ni (jL y.2.1).length nq])) an (by congr 1;simp only [List.length_cons,List.length_nil,hvl];omega) aH ?_;refine S.slot 3 (v' :=.slice nZ (3+2*(k+1)) n8) rfl (by congr 1;simp only [List.length_cons,List.length_nil,hvl];omega) ?_;refine S.region rfl<|O.op (.p rfl) (.add rfl rfl (IntWalk.i64_in _ ai))<|O.q 1 rfl<|O.nil ?_;exact S.jo aW (S.pw (ih (k+1) ((nZ,n8)) ((vs++[.slice jE (bytesOf y.1).length jG,.slice ni (jL y.2.1).length nq])) (by exact ⟨by omega,by rw [List.length_append,hvl];simp only [List.length_cons,List.length_nil];omega⟩) ai))
  ·clear ih
   have hk:k=x.2.2.2.1.length:=by omega
   subst hk;rw [List.take_length];refine S.exit rfl<|S.seq<|S.gH an fun g hs hm Hs=>?_;replace hg:=Fr.bQ hg hs;replace hR:=a_ hR hm
   try replace h:=h.mono hs
   try replace h0:=h0.mono hs
   try replace k1:=k1.mono hs
   try replace k2:=k2.mono hs
   try replace aI:=aI.mono hs
   try replace aU:=aU.mono hs
   try replace hK:=hK.mono hs
   try replace h1:=h1.mono hs
   try replace ht:=ht.mono hs
   try replace h9:=h9.mono hs
   replace aW:=eT aW hm;clear hs hm;refine S.fW (A:=aZ (ak ag.u8 5) vs (qT x.2.2.2.1)) an fun g hs hm ⟨_,x',s'⟩=>?_;have he:=Sn s' x';clear x' s';replace hg:=Fr.bQ hg hs;replace hR:=a_ hR hm
   try replace h:=h.mono hs
   try replace h0:=h0.mono hs
   try replace k1:=k1.mono hs
   try replace k2:=k2.mono hs
   try replace aI:=aI.mono hs
   try replace aU:=aU.mono hs
   try replace hK:=hK.mono hs
   try replace h1:=h1.mono hs
   try replace ht:=ht.mono hs
   try replace h9:=h9.mono hs
   try replace Hs:=Hs.mono hs
   replace aW:=eT aW hm;clear hs hm;have hpa:av (ag.slice ag.u8) g.h (.slice s.1 (3+2*x.2.2.2.1.length) s.2) (AS x):=av.rows Hs ⟨ht,k1,k2,he⟩;have iP:=NH x.2.2.2.1 hkeys;have hfl:(AS x).flatten.length≤10000000000:=by unfold AS;simp only [List.flatten_append,List.flatten_cons,List.flatten_nil,List.length_append,List.length_cons,List.length_nil];omega
   refine S.region rfl<|O.q 1 rfl<|O.aN (.p rfl) rfl af rfl rfl ((PT hpa aU hK ai)) ?_;rintro _ _ ⟨uw,uB,rfl,rfl⟩
   try simp only [gB,gC,gD]
   refine O.q 1 rfl<|O.nil ?_;have e1:=Of e;have e2:(o_ x).length=64:=(Og x).2 e;refine S.hU (T:=ag.u8) (e:=5) (v' :=.slice uw (o_ x).length uB) (xs' :=o_ x) an (by rw [e2]) e1.symm ?_;exact S.rt results238 rfl hR ⟨uw,uB,by rw [e2],rfl⟩
 ·have e1:=IP e
  refine S.region rfl<|O.op (.p rfl) (.aJ isAgg35 af rfl h1) ?_;refine O.aN (.p rfl) rfl af rfl rfl ((N9 h0 hx0 (fun y hy=>by have:=b8.2 y hy;omega))) ?_;rintro _ _ ⟨rfl,rfl⟩
  try simp only [gB,gC,gD]
  refine O.aB 7 rfl (by exact decide_eq_false e) ?_;refine O.op (.p rfl) (.not rfl)<|O.nil<|S.Cg rfl<|S.seq<|S.region rfl<|O.q 1 rfl<|O.nil<|S.l_ (T:=ag.u8) (e:=5) ?_;refine S.hU (T:=ag.u8) (e:=5) (v' :=.slice none (o_ x).length 0) (xs' :=o_ x) an (by rw [e1];rfl) e1.symm ?_;exact S.rt results238 rfl hR ⟨none,0,by rw [e1];rfl,rfl⟩
theorem Xk {r:Fr} {va:Value} {xs:List (List UInt8)} {f:FuncId} {first cap:Array Value} (ha:av (ag.slice ag.u8) r va xs) (hc:ed prog f=true) (q:List UInt8→Bool)
  (con:∀ v x,x∈xs→av ag.u8 r v x→aj prog f (first++#[v]++cap) r [] (aF fun v aa=>v=.bool (q x)∧aa=[])) :
  aj prog 326 #[va,.func (.func f) first cap] r [] (aF fun v aa=>∃ k:Int,v=.int .i64 k∧(0≤k↔xs.any q=true)∧aa=[]):=by
 have har:=ha;refine aj.of (n:=19) [va,.func (.func f) first cap] rfl func326 rfl rfl rfl fun g hg R hR=>?_;have ha:=ha.mono hg;have hbd:=ha.bound;obtain ⟨a1,c1,rfl⟩:=ha.shape;refine U 12 ?_;refine S.ev (ι:=Nat) (fun i=>i≤xs.length∧(xs.take i).any q=false) (fun i=>[(8,.int .i64 (i:Int))]) [(0,_),(1,_),(7,_)] (fun i=>[]) (fun i=>xs.length - i) (0) BD aO aO rfl fun i hx ih=>?_;have aW:=bS (g:=g);obtain ⟨hx1,b8⟩:=hx;refine U 5 ?_;refine S.cd rfl (fun h9=>?_) fun h9=>?_
 ·have hi:i<xs.length:=by omega
  cases e:q xs[i] with
  |true =>
   have hy:xs.any q=true:=List.any_eq_true.2 ⟨xs[i],List.getElem_mem hi,e⟩;clear ih;refine U 13 ?_;refine O.ew har hg (h:=fun bN uE pR mo=>?_);have nF:=ag.rel.mono mo hg;obtain ⟨ic,rfl,Hv⟩:=mo;refine U 1 ?_;refine O.v0 (.p rfl) rfl hc rfl rfl (((con _ _ (List.getElem_mem hi) Hv).sub hg)) ?_;refine O.sT 16 rfl (by exact e) ?_;refine U 7 ?_;exact S.rt results326 rfl hR ⟨(i:Int),rfl,⟨fun _=>hy,fun _=>by omega⟩,rfl⟩
  |false =>
   refine U 13 ?_;refine O.ew har hg (h:=fun bN uE pR mo=>?_);have nF:=ag.rel.mono mo hg;obtain ⟨ic,rfl,Hv⟩:=mo;refine U 1 ?_;refine O.v0 (.p rfl) rfl hc rfl rfl (((con _ _ (List.getElem_mem hi) Hv).sub hg)) ?_;refine O.aB 16 rfl (by exact e)<|U 8 ?_;exact S.cF (ih (i+1) (by exact ⟨by omega,by rw [j9 hi,List.any_append,b8];simp [e]⟩) ai)
 ·clear ih
  have hi:i=xs.length:=by omega
  subst hi;rw [List.take_length] at b8;refine U 5 ?_;exact S.rt results326 rfl hR ⟨-1,rfl,⟨fun h=>absurd h aq,fun h=>by rw [b8] at h;cases h⟩,rfl⟩
theorem RT {r:Fr} {va:Value} {xs:List (List UInt8)} {f:FuncId} {first cap:Array Value} (ha:av (ag.slice ag.u8) r va xs) (hc:ed prog f=true) (q:List UInt8→Bool)
  (con:∀ v x,x∈xs→av ag.u8 r v x→aj prog f (first++#[v]++cap) r [] (aF fun v aa=>v=.bool (q x)∧aa=[])) (h1:(Value.func (.func f) first cap).oneCell' =true) :
  aj prog 289 #[va,.func (.func f) first cap] r [] (aF fun v aa=>v=.bool (xs.any q)∧aa=[]):=by
 refine aj.of (n:=9) [va,.func (.func f) first cap] rfl func289 rfl rfl rfl fun g hg R hR=>?_;refine U 8 ?_;refine O.aN (.p rfl) rfl af rfl rfl (((Xk ha hc q con).sub hg)) ?_;rintro uf _ ⟨pW,rfl,Ai,rfl⟩;refine U 3 ?_;exact S.rt results289 rfl hR ⟨congrArg _ (by rw [Bool.eq_iff_iff,decide_eq_true_iff];exact Ai),rfl⟩
theorem Zi {r:Fr} {va:Value} {x:List UInt8} (ha:av ag.u8 r va x):aj prog 290 #[va] r [] (aF fun v aa=>v=.bool (decide (x.length≠64))∧aa=[]):=by
 obtain ⟨a1,c1,rfl⟩:=ha.shape;refine aj.o func290 fun g hg R hR=>?_;refine U 11 ?_;refine S.ret results290 rfl fun w hw=>ax.end_ hR hw ?_
 first|exact ⟨_,⟨congrArg _ (decide_eq_decide.2 ai),rfl⟩,aC⟩
theorem A3 {r:Fr} {s:List UInt8} (hl:s.length≤9223372036854775807):aj prog 288 #[.string (str s)] r [] (aF fun v aa=>v=.bool (decide (fL s))∧aa=[]):=by
 refine aj.o func288 fun g hg R hR=>?_
 by_cases h1:1≤s.length
 ·by_cases h2:s.length≤64
  ·have e:decide (fL s)=true:=zdt ⟨h1,h2⟩
   refine U 9 ?_;refine O.sT 5 rfl (by exact zdt cw)<|U 4 ?_;refine O.sT 9 rfl (by exact zdt cw)<|U 3 ?_;exact S.rt results288 rfl hR ⟨congrArg Value.bool e.symm,rfl⟩
  ·have e:decide (fL s)=false:=aA fun h=>h2 h.2
   refine U 9 ?_;refine O.sT 5 rfl (by exact zdt cw)<|U 4 ?_;refine O.aB 9 rfl (by exact aA cw)<|U 3 ?_;exact S.rt results288 rfl hR ⟨congrArg Value.bool e.symm,rfl⟩
 ·have e:decide (fL s)=false:=aA fun h=>h1 h.1
  refine U 9 ?_;refine O.aB 5 rfl (by exact aA cw)<|U 7 ?_;exact S.rt results288 rfl hR ⟨congrArg Value.bool e.symm,rfl⟩
def vC (x:fT) (k:Nat):Prop:=∀ i (q:i<x.2.1.length),i<k→wX x.2.1[i]∧(0<i→(x.2.1[i - 1]'ai).1<x.2.1[i].1)
theorem vC.step {x:fT} {k:Nat} (hk:k<x.2.1.length) (h:vC x k) (hl:wX x.2.1[k]) (hr:0<k→(x.2.1[k - 1]'ai).1<x.2.1[k].1):vC x (k+1):=fun i q w=>by
 rcases Nat.lt_or_ge i k with w' |w'
 ·exact h i q w'
 ·have:i=k:=by omega
  subst this;exact ⟨hl,hr⟩
theorem vC.all {x:fT} (h:vC x x.2.1.length):(∀ y∈x.2.1,wX y)∧uX (·.1) x.2.1 :=
 ⟨fun y hy=>by obtain ⟨i,q,rfl⟩:=List.mem_iff_getElem.1 hy;exact (h i q q).1,fun i q w=>(h i q q).2 w⟩
theorem AW {n:fT} {i:Nat} (h:i<n.2.1.length) (q:¬ wX n.2.1[i]):decide (js n)=false:=aA fun w=>q (w.2.2.1 _ (List.getElem_mem h))
theorem Ol {n:fT} {i:Nat} (h:i<n.2.1.length) (h0:0<i) (q:¬ n.2.1[i - 1].1<n.2.1[i].1):decide (js n)=false:=aA fun w=>q (w.2.2.2 i h h0)
theorem Q2 (l:List (List UInt8)):(!l.any fun x=>decide (x.length≠64))=true↔∀ x∈l,x.length=64:=by
 rw [Bool.not_eq_true',List.any_eq_false];exact ⟨fun h x hx=>by have:=h x hx;simpa using this,fun h x hx=>by have:=h x hx;simpa using this⟩
theorem Dw {r:Fr} {cs:List Value} {x:fT} (h:fB.rel r cs x):aj prog 246 #[.agg cs.toArray] r [] (aF fun v aa=>v=.bool (decide (js x))∧aa=[]):=by
 obtain ⟨a0,a1,c0,c1,rfl,k0,k1⟩:=fB.sh h;refine aj.o func246 fun g hg R hR=>?_;have k0:=k0.mono hg;have k1:=k1.mono hg;have hb:=k0.bound;have cK:=k1.bound;refine S.seq<|S.region rfl<|O.aD (.p rfl) (.box (cs:=[_,_]) rfl rfl) ?_;rintro _ _ ⟨b1,rfl,rfl⟩;refine U 4 ?_;refine S.cH (b:=b1) (cs' :=[.slice a0 x.1.length c0,.slice a1 x.2.1.length c1]) an rfl ?_;refine S.cy an fun g hs hm h1=>?_;replace hg:=bf hg hs;replace hR:=a_ hR hm
 try replace k0:=k0.mono hs
 try replace k1:=k1.mono hs
 clear hs hm
 by_cases f:x.1.length≤510∧(1<x.2.1.length→x.1.length=510)
 ·
  refine S.qq (fun (u:Unit)=>True) (fun (u:Unit)=>[]) [(1,_)] (fun (u:Unit)=>[]) aO (fun key=>?_) (fun u hx=>?_)
  ·have aW:=bS (g:=g)
   by_cases f2:x.2.1.length>1
   ·have f3:=f.2 f2
    refine U 5 ?_;refine O.aB 8 rfl (by exact aA ai)<|U 5 ?_;refine O.sT 13 rfl (by exact zdt ai)<|U 5 ?_;refine O.aB 18 rfl (by exact aA ai)<|U 5 ?_;refine S.pk ?_ (S.weaken ?_ (key (()) (by trivial)))
    ·exact aC
    repeat (first|exact Sub.nil|refine Sub.cons rfl ?_)
   ·
    refine U 5 ?_;refine O.aB 8 rfl (by exact aA ai)<|U 5 ?_;refine O.aB 13 rfl (by exact aA ai)<|U 10 ?_;refine S.pk ?_ (S.weaken ?_ (key (()) (by trivial)))
    ·exact aC
    repeat (first|exact Sub.nil|refine Sub.cons rfl ?_)
  ·
   refine U 9 ?_;refine S.ev (ι:=Nat) (fun k=>k≤x.2.1.length∧vC x k) (fun k=>[(24,.int .i64 (k:Int))]) [(1,_),(22,_),(23,_)] (fun k=>[]) (fun k=>x.2.1.length - k) (0) (by exact ⟨by omega,fun i q w=>by omega⟩) aO aO rfl fun k hx ih=>?_;have aW:=bS (g:=g);obtain ⟨hx1,hall⟩:=hx;refine U 5 ?_;refine S.cd rfl (fun lG=>?_) fun lG=>?_
   ·have hk:k<x.2.1.length:=by omega
    refine U 6 ?_;refine O.dI (k1) (h:=fun bX Fy v_ wg=>?_);obtain ⟨l1,m1,rfl,l2,l3⟩:=dZ.sh wg;have l3:=l3;refine O.op (.p rfl) (.aJ isAgg122 af rfl v_) ?_;refine O.aD (.p rfl) (.alloc (cs:=[.string ⟨#[]⟩,.slice none 0 0]) zeroValue122 rfl) ?_;rintro _ _ ⟨b4,rfl,rfl⟩;refine U 2 ?_;refine O.nil<|S.seq<|S.cH (b:=b4) (cs' :=[.string (str x.2.1[k].1),.slice l1 x.2.1[k].2.1.length m1]) an rfl ?_;refine S.cy an fun g hs hm h4=>?_;replace hg:=bf hg hs;replace hR:=a_ hR hm
    try replace k0:=k0.mono hs
    try replace k1:=k1.mono hs
    try replace h1:=h1.mono hs
    try replace v_:=v_.mono hs
    try replace l3:=l3.mono hs
    replace aW:=eT aW hm;clear hs hm
    by_cases q1:fL x.2.1[k].1
    ·by_cases bg:x.2.1[k].2.1.length=64
     ·have hlf:wX x.2.1[k]:=⟨q1,bg⟩
      by_cases jt:0<k
      ·by_cases h_:(x.2.1[k - 1]'ai).1<x.2.1[k].1
       ·
        refine S.aY (L:=.range 26) F.mixed af ?_;refine U 2 ?_;refine ah.v0 (.p rfl) af rfl af rfl rfl ((A3 ai)) ?_;refine ah.sT 31 rfl (by exact zdt q1)<|U 6 ?_;refine ah.aB 37 rfl (by exact aA ai)<|U 4 ?_;refine ah.sT 41 rfl (by exact zdt ai)<|U 5 ?_;refine ah.slot 46 (v' :=.int .i64 ((k - 1:Nat):Int)) rfl (by exact congrArg (Value.int .i64) ai) ?_;refine ah.c7 (.g rfl rfl) underlying29 wW rfl rfl (show _=(((k-1):Nat):Int) by omega) (k1) (h:=fun wP vI lI nG=>?_);obtain ⟨u1,w1,rfl, -, -⟩:=dZ.sh nG;refine U 4 ?_;refine .quiet (.g rfl rfl) rfl (fun _=>.uL rfl rfl)<|ah.aB 52 rfl (by exact CH h_) ?_;refine U 10 ?_;exact S.jo aW (S.cF (ih (k+1) (by exact ⟨by omega,hall.step hk hlf fun _=>h_⟩) ai))
       ·have e:=Ol hk jt h_
        refine S.aY (L:=.range 26) F.mixed af ?_;refine U 2 ?_;refine ah.v0 (.p rfl) af rfl af rfl rfl ((A3 ai)) ?_;refine ah.sT 31 rfl (by exact zdt q1)<|U 6 ?_;refine ah.aB 37 rfl (by exact aA ai)<|U 4 ?_;refine ah.sT 41 rfl (by exact zdt ai)<|U 5 ?_;refine ah.slot 46 (v' :=.int .i64 ((k - 1:Nat):Int)) rfl (by exact congrArg (Value.int .i64) ai) ?_;refine ah.c7 (.g rfl rfl) underlying29 wW rfl rfl (show _=(((k-1):Nat):Int) by omega) (k1) (h:=fun wP vI lI nG=>?_);obtain ⟨u1,w1,rfl, -, -⟩:=dZ.sh nG;refine U 4 ?_;refine .quiet (.g rfl rfl) rfl (fun _=>.uL rfl rfl)<|ah.sT 52 rfl (by exact CI h_) ?_;refine U 8 ?_;exact S.rt results246 rfl hR ⟨congrArg Value.bool e.symm,rfl⟩
      ·
       refine S.aY (L:=.range 26) F.mixed af ?_;refine U 2 ?_;refine ah.v0 (.p rfl) af rfl af rfl rfl ((A3 ai)) ?_;refine ah.sT 31 rfl (by exact zdt q1)<|U 6 ?_;refine ah.aB 37 rfl (by exact aA ai)<|U 4 ?_;refine ah.aB 41 rfl (by exact aA ai)<|U 21 ?_;exact S.jo aW (S.cF (ih (k+1) (by exact ⟨by omega,hall.step hk hlf fun w=>absurd w jt⟩) ai))
     ·have e:=AW hk fun w=>bg w.2
      refine S.aY (L:=.range 26) F.mixed af ?_;refine U 2 ?_;refine ah.v0 (.p rfl) af rfl af rfl rfl ((A3 ai)) ?_;refine ah.sT 31 rfl (by exact zdt q1)<|U 6 ?_;refine ah.sT 37 rfl (by exact zdt ai)<|U 23 ?_;exact S.rt results246 rfl hR ⟨congrArg Value.bool e.symm,rfl⟩
    ·have e:=AW hk fun w=>q1 w.1
     refine S.aY (L:=.range 26) F.mixed af ?_;refine U 2 ?_;refine ah.v0 (.p rfl) af rfl af rfl rfl ((A3 ai)) ?_;refine ah.aB 31 rfl (by exact aA q1)<|U 29 ?_;exact S.rt results246 rfl hR ⟨congrArg Value.bool e.symm,rfl⟩
   ·clear ih
    have hk:k=x.2.1.length:=by omega
    subst hk;have aR:=hall.all;have e:(!x.1.any fun x=>decide (x.length≠64))=decide (js x):=by
     rw [Bool.eq_iff_iff,Q2,decide_eq_true_iff];exact ⟨fun w=>⟨f,w,aR⟩,fun w=>w.2.1⟩
    refine U 5 ?_;refine O.v0 (.p rfl) rfl af rfl rfl ((RT k0 af (fun x=>decide (x.length≠64)) (fun v y _ hy=>Zi hy) rfl)) ?_;refine O.op (.p rfl) ((by first|exact .pY rfl|exact .not rfl))<|U 2 ?_;exact S.rt results246 rfl hR ⟨congrArg Value.bool e,rfl⟩
 ·have e:decide (js x)=false:=aA fun w=>f w.1
  by_cases f1:x.1.length>510
  ·
   refine U 5 ?_;refine O.sT 8 rfl (by exact zdt ai)<|U 18 ?_;exact S.rt results246 rfl hR ⟨congrArg Value.bool e.symm,rfl⟩
  ·have f2:x.2.1.length>1∧x.1.length≠510:=by
    refine ⟨Nat.lt_of_not_le fun w=>f ⟨by omega,fun q=>by omega⟩,fun w=>f ⟨by omega,fun _=>w⟩⟩
   refine U 5 ?_;refine O.aB 8 rfl (by exact aA ai)<|U 5 ?_;refine O.sT 13 rfl (by exact zdt ai)<|U 5 ?_;refine O.sT 18 rfl (by exact zdt ai)<|U 8 ?_;exact S.rt results246 rfl hR ⟨congrArg Value.bool e.symm,rfl⟩
theorem Rk (n:Int) (j:Nat) (h:j<8):(be n).take j++[jh n (7 - j)]=(be n).take (j+1):=by
 match j,h with
 |0,_|1,_|2,_|3,_|4,_|5,_|6,_|7,_=>rfl
theorem Rl (n:Int) (j:Nat) (h:j≤8):((be n).take j).length=j:=by rw [mA,ga];omega
theorem fQ {r:Fr} (n:Int):aj prog 58 #[.int .i64 n] r [] (aF fun v aa=>∃ a c,v=.slice a 8 c∧aa=[ak ag.u8 5 v (be n)]):=by
 refine aj.o func58 fun g hg R hR=>?_;refine S.l_ (T:=ag.u8) (e:=5) ?_;refine U 14 ?_;refine S.wE (ι:=Nat) (dy:=Option Addr) (gN:=Nat) (fun j a c=>j≤8) (fun j a c=>[(4,.int .i64 ((7:Int) - (j:Int))),(3,.slice a j c)]) [(0,_)] (fun j a c=>[ak ag.u8 5 (.slice a j c) ((be n).take j)]) (fun j a c=>8 - j) (0) (none) (0) aH aO aO rfl fun j a c hx ih=>?_;have aW:=bS (g:=g);refine U 6 ?_;refine S.cd rfl (fun h6=>?_) fun h6=>?_
 ·have hj:j<8:=by omega
  have hl:=Rl n j ai;have hw:IntKind.u64.wrap (8*(7 - (j:Int)))=8*(7 - (j:Int)):=by rw [uj];unfold u64;omega
  refine S.skip<|S.seq<|S.block<|S.region rfl<|O.q 2 rfl<|O.op (.p rfl) (.iY underlying3 underlying123 rfl)<|O.q 1 rfl<|O.op (.p rfl) (.mul rfl rfl (IntWalk.i64_in _ ai))<|O.op (.p rfl) (.iY underlying3 underlying59 rfl)<|O.op (.p rfl) (.shr rfl rfl ai)<|O.op (.p rfl) (.iY underlying123 underlying5 rfl)<|O.aD (.p rfl) (.bw (T:=ag.u8) (ys:=[jh n (7 - j)]) underlying22 cP aq rfl rfl ⟨congrArg (fun v=>[v]) (by simp only [aT];rw [JU n (7 - j) ai _ (by rw [uj];unfold u64;omega)]),trivial⟩ aq) ?_;rintro _ _ ⟨dV,cx,rfl,rfl⟩;refine O.gH an fun g hs hm agb=>?_;replace hg:=bf hg hs;replace hR:=a_ hR hm;replace aW:=eT aW hm;clear hs hm;refine O.aD (.p rfl) (.mb (T:=ag.u8) ox underlying22 cP aq rfl rfl an bq bl bl) ?_;rintro _ _ ⟨eE,cN,rfl,rfl⟩;refine U 5 ?_;refine O.op (.p rfl) (.sub rfl rfl (IntWalk.i64_in _ ai))<|U 2 ?_;rw [Rk n j hj,hl];refine S.slot 4 (v' :=.int .i64 ((7:Int) - ((j+1:Nat):Int))) rfl (congrArg _ ai) ?_;exact S.jo aW (S.cF (ih (j+1) (eE) (cN) ai ai))
 ·have hj:j=8:=by omega
  subst hj;refine U 6 ?_;refine S.ret results58 rfl fun w hw=>hR _ _ w ?_ hw;exact ⟨a,c,rfl,rfl⟩
theorem lX {r:Fr} {va:Value} {xs:List UInt8} (ha:av ag.u8 r va xs) (hl:xs.length≤100000000000000) :
  aj prog 128 #[va] r [] (aF fun v aa=>∃ a c,v=.slice a (bytesOf xs).length c∧aa=[ak ag.u8 5 v (bytesOf xs)]):=by
 refine aj.o func128 fun g hg R hR=>?_;have ha:=ha.mono hg;obtain ⟨a1,c1,rfl⟩:=ha.shape;refine U 8 ?_;refine O.aN (.p rfl) rfl af rfl rfl (fQ _) ?_;rintro _ _ ⟨a5,cD,rfl,rfl⟩;refine O.q 1 rfl<|O.aD (.p rfl) (.mb (T:=ag.u8) ox underlying22 cP aq rfl rfl an bq bl bl) ?_;rintro _ _ ⟨a7,c9,rfl,rfl⟩;refine O.q 1 rfl<|O.nil<|S.ret results128 rfl fun w hw=>hR _ _ w ?_ hw;exact ⟨a7,c9,by simp [bytesOf],by simp [bytesOf]⟩
theorem kT {r:Fr} {va:Value} {xss:List (List UInt8)} (ha:av (ag.slice ag.u8) r va xss) (hl:xss.flatten.length≤140737488355328) :
  aj prog 57 #[va] r [] (aF fun v aa=>∃ a c,v=.slice a xss.flatten.length c∧aa=[ak ag.u8 5 v xss.flatten]):=by
 refine aj.o func57 fun g hg R hR=>?_;have ha:=ha.mono hg;have hbd:=ha.bound;obtain ⟨a1,c1,rfl⟩:=ha.shape;refine S.l_ (T:=ag.u8) (e:=5) ?_;refine U 14 ?_;refine S.r0 (ι:=Nat) (dy:=Option Addr) (gN:=Nat) (aL:=Nat) (fun i a6 nJ cB=>i≤xss.length∧nJ=(xss.take i).flatten.length) (fun i a6 nJ cB=>[(4,.int .i64 (i:Int)),(3,.slice a6 nJ cB)]) [(0,_)] (fun i a6 nJ cB=>[ak ag.u8 5 (.slice a6 nJ cB) (xss.take i).flatten]) (fun i a6 nJ cB=>xss.length - i) (0) (none) (0) (0) aH aO aO rfl fun i a6 nJ cB hx ih=>?_;have aW:=bS (g:=g);obtain ⟨hx1,hs⟩:=hx;refine U 8 ?_;refine S.cd rfl (fun h8=>?_) fun h8=>?_
 ·have hi:i<xss.length:=by omega
  have h1:=FR xss i hi;have h2:=FQ xss (i+1);have h3:(xss.take (i+1)).flatten.length=(xss.take i).flatten.length+xss[i].length:=by rw [h1,cI]
  refine U 7 ?_;refine O.c7 (.p rfl) underlying28 mX rfl rfl rfl bq (h:=fun bN uE pR nF=>?_);obtain ⟨ic,rfl,CK⟩:=nF;obtain ⟨cS,bE,rfl⟩:=CK.shape;refine U 1 ?_;refine O.aD (.p rfl) (.mb (T:=ag.u8) ox underlying22 cP aq rfl rfl an bq bl bl) ?_;rintro _ _ ⟨b_,bn,rfl,rfl⟩;refine U 8 ?_;rw [← h1];exact S.cF (ih (i+1) (b_) ((xss.take i).flatten.length+xss[i].length) (bn) ai ai)
 ·have hi:i=xss.length:=by omega
  subst hi;rw [List.take_length] at hs;subst hs;refine U 6 ?_;refine S.ret results57 rfl fun w hw=>hR _ _ w ?_ hw;exact ⟨a6,cB,rfl,by rw [List.take_length]⟩
theorem ph {r:Fr} {a b:Int} (d:dB) (h:d=(a,b,())):aj prog 263 #[.agg #[.int .i64 a,.int .i64 b]] r [] (aF fun v aa=>v=.bool (k4 d)∧aa=[]):=by
 subst h;refine aj.o func263 fun g hg R hR=>?_;refine S.seq<|S.region rfl<|O.aD (.p rfl) (.box (cs:=[_,_]) rfl rfl) ?_;rintro _ _ ⟨b1,rfl,rfl⟩;refine U 8 ?_
 refine O.cs 6 rfl (fun h6=>?_) fun h6=>?_
 ·refine U 5 ?_
  refine O.cs 11 rfl (fun h11=>?_) fun h11=>?_
  ·refine U 5 ?_
   refine O.cs 16 rfl (fun jk=>?_) fun jk=>?_
   ·refine U 6 ?_
    refine S.ret results263 rfl fun w hw=>ax.end_ hR hw ?_
    first|exact ⟨_,⟨congrArg _ (aA ry).symm,rfl⟩,aC⟩|exact ⟨_,⟨congrArg _ (decide_eq_decide.2 ry),rfl⟩,aC⟩
   ·refine O.q 5 rfl<|O.nil<|S.ret results263 rfl fun w hw=>ax.end_ hR hw ?_
    first|exact ⟨_,⟨congrArg _ (aA ry).symm,rfl⟩,aC⟩|exact ⟨_,⟨congrArg _ (decide_eq_decide.2 ry),rfl⟩,aC⟩
  ·refine O.q 10 rfl<|O.nil<|S.ret results263 rfl fun w hw=>ax.end_ hR hw ?_
   first|exact ⟨_,⟨congrArg _ (aA ry).symm,rfl⟩,aC⟩|exact ⟨_,⟨congrArg _ (decide_eq_decide.2 ry),rfl⟩,aC⟩
 ·refine O.q 15 rfl<|O.nil<|S.ret results263 rfl fun w hw=>ax.end_ hR hw ?_
  first|exact ⟨_,⟨congrArg _ (aA ry).symm,rfl⟩,aC⟩|exact ⟨_,⟨congrArg _ (decide_eq_decide.2 ry),rfl⟩,aC⟩
theorem tX {r:Fr} {va:Value} {v:List dB} (ha:av cU r va v):aj prog 264 #[va] r [] (aF fun u aa=>u=.bool (jd v)∧aa=[]):=by
 refine aj.o func264 fun g hg R hR=>?_;have ha:=ha.mono hg;have hbd:=ha.bound;obtain ⟨a1,c1,rfl⟩:=ha.shape;refine U 10 ?_;refine S.ev (ι:=Nat) (fun k=>k≤v.length∧jd (v.take k)=true) (fun k=>[(3,.int .i64 (k:Int))]) [(0,_)] (fun k=>[]) (fun k=>v.length - k) (0) sK aO aO rfl fun k hx ih=>?_;have aW:=bS (g:=g);obtain ⟨hx1,b8⟩:=hx;refine U 8 ?_;refine S.cd rfl (fun h7=>?_) fun h7=>?_
 ·have hk:k<v.length:=by omega
  have hst:=Qf hk b8
  by_cases hd:k4 v[k]=true
  ·by_cases h0:k=0
   ·
    refine S.skip<|S.seq<|S.block<|S.seq<|S.aY (L:=.range 24) F.mixed af<|ah.q 2 rfl<|ah.c7 (.p rfl) underlying116 j8 rfl rfl rfl bq (h:=fun bL vH eS eZ=>?_);obtain ⟨rfl,GL,GN⟩:=cU.open eZ;refine .quiet (.p rfl) rfl (fun _=>.aJ isAgg115 af rfl eS) ?_;refine ah.v0 (.p rfl) af rfl af rfl rfl ((ph v[k] rfl)) ?_;refine ah.sT 14 rfl (by exact hd)<|U 4 ?_;refine ah.aB 18 rfl (by exact aA ai)<|U 24 ?_;exact S.cF (ih (k+1) (by exact ⟨by omega,hst.2 ⟨hd,fun h=>absurd h ai⟩⟩) ai)
   ·have uQ:k - 1<v.length:=by omega
    by_cases hlt:v[k - 1].1<v[k].1
    ·
     refine S.skip<|S.seq<|S.block<|S.seq<|S.aY (L:=.range 24) F.mixed af<|ah.q 2 rfl<|ah.c7 (.p rfl) underlying116 j8 rfl rfl rfl bq (h:=fun bL vH eS eZ=>?_);obtain ⟨rfl,GL,GN⟩:=cU.open eZ;refine .quiet (.p rfl) rfl (fun _=>.aJ isAgg115 af rfl eS) ?_;refine ah.v0 (.p rfl) af rfl af rfl rfl ((ph v[k] rfl)) ?_;refine ah.sT 14 rfl (by exact hd)<|U 4 ?_;refine ah.sT 18 rfl (by exact zdt ai)<|U 4 ?_;refine ah.c7 (.g rfl rfl) underlying116 j8 rfl rfl (show _=(((k - 1):Nat):Int) by omega) bq (h:=fun fp nt jH fK=>?_);obtain ⟨rfl,GM,GO⟩:=cU.open fK;refine U 2 ?_;refine ah.q 2 rfl<|ah.c7 (.g rfl rfl) underlying116 j8 rfl rfl rfl bq (h:=fun jq Fz Hg wh=>?_);obtain ⟨rfl,Vg,Vj⟩:=cU.open wh;refine U 3 ?_;refine ah.aB 31 rfl (by exact aA ai)<|U 11 ?_;exact S.cF (ih (k+1) (by exact ⟨by omega,hst.2 ⟨hd,fun _=>hlt⟩⟩) ai)
    ·
     refine S.skip<|S.seq<|S.block<|S.seq<|S.aY (L:=.range 24) F.mixed af<|ah.q 2 rfl<|ah.c7 (.p rfl) underlying116 j8 rfl rfl rfl bq (h:=fun bL vH eS eZ=>?_);obtain ⟨rfl,GL,GN⟩:=cU.open eZ;refine .quiet (.p rfl) rfl (fun _=>.aJ isAgg115 af rfl eS) ?_;refine ah.v0 (.p rfl) af rfl af rfl rfl ((ph v[k] rfl)) ?_;refine ah.sT 14 rfl (by exact hd)<|U 4 ?_;refine ah.sT 18 rfl (by exact zdt ai)<|U 4 ?_;refine ah.c7 (.g rfl rfl) underlying116 j8 rfl rfl (show _=(((k - 1):Nat):Int) by omega) bq (h:=fun fp nt jH fK=>?_);obtain ⟨rfl,GM,GO⟩:=cU.open fK;refine U 2 ?_;refine ah.q 2 rfl<|ah.c7 (.g rfl rfl) underlying116 j8 rfl rfl rfl bq (h:=fun jq Fz Hg wh=>?_);obtain ⟨rfl,Vg,Vj⟩:=cU.open wh;refine U 3 ?_;refine ah.sT 31 rfl (by exact zdt ai)<|U 8 ?_;exact S.rt results264 rfl hR ⟨congrArg _ (D7 (i:=k+1) (Bool.eq_false_iff.2 fun e=>hlt ((hst.1 e).2 ai))).symm,rfl⟩
  ·have ny :k4 v[k]=false:=by simpa using hd
   refine S.skip<|S.seq<|S.block<|S.seq<|S.aY (L:=.range 24) F.mixed af<|ah.q 2 rfl<|ah.c7 (.p rfl) underlying116 j8 rfl rfl rfl bq (h:=fun bL vH eS eZ=>?_);obtain ⟨rfl,GL,GN⟩:=cU.open eZ;refine .quiet (.p rfl) rfl (fun _=>.aJ isAgg115 af rfl eS) ?_;refine ah.v0 (.p rfl) af rfl af rfl rfl ((ph v[k] rfl)) ?_;refine ah.aB 14 rfl (by exact ny)<|U 25 ?_;exact S.rt results264 rfl hR ⟨congrArg _ (D7 (i:=k+1) (Bool.eq_false_iff.2 fun e=>hd (hst.1 e).1)).symm,rfl⟩
 ·clear ih
  have hk:k=v.length:=by omega
  subst hk;rw [List.take_length] at b8;refine U 5 ?_;exact S.rt results264 rfl hR ⟨by rw [b8],rfl⟩
theorem aaD {r:Fr} {va:Value} {v:List dB} (c:Int) (ha:av cU r va v) (ho:jd v=true) :
  aj prog 295 #[va,.int .i64 c] r [] (aF fun u aa=>∃ z,u=.int .i64 z∧(∀ s,1≤s→decide (s≤z)=vS v (c,s,()))∧aa=[]):=by
 have HI:=(vj.1 ho).2;refine aj.o func295 fun g hg R hR=>?_;have ha:=ha.mono hg;have hbd:=ha.bound;obtain ⟨a1,c1,rfl⟩:=ha.shape;refine U 10 ?_;refine S.ev (ι:=Nat) (fun k=>k≤v.length∧∀ x∈v.take k,¬ x.1=c) (fun k=>[(5,.int .i64 (k:Int))]) [(0,_),(1,_)] (fun k=>[]) (fun k=>v.length - k) (0) BD aO aO rfl fun k hx ih=>?_;have aW:=bS (g:=g);obtain ⟨hx1,b8⟩:=hx;refine U 8 ?_;refine S.cd rfl (fun h9=>?_) fun h9=>?_
 ·have hk:k<v.length:=by omega
  by_cases e:v[k].1=c
  ·
   refine U 7 ?_;refine O.c7 (.p rfl) underlying116 j8 rfl rfl rfl bq (h:=fun bN uE pR nF=>?_);obtain ⟨rfl,Ve,Vh⟩:=cU.open nF;refine U 4 ?_;refine O.sT 18 rfl (by exact zdt e)<|U 6 ?_;refine O.c7 (.p rfl) underlying116 j8 rfl rfl rfl bq (h:=fun bT Ck tt pS=>?_);obtain ⟨rfl,agu,agC⟩:=cU.open pS;refine U 4 ?_;exact S.rt results295 rfl hR ⟨_,rfl,fun s _=>(Mp (d:=(c,s,())) HI hk e).symm,rfl⟩
  ·
   refine U 7 ?_;refine O.c7 (.p rfl) underlying116 j8 rfl rfl rfl bq (h:=fun bN uE pR nF=>?_);obtain ⟨rfl,Ve,Vh⟩:=cU.open nF;refine U 4 ?_;refine O.aB 18 rfl (by exact aA e)<|U 9 ?_;exact S.cF (ih (k+1) (by exact ⟨by omega,AM hk b8 e⟩) ai)
 ·clear ih
  have hk:k=v.length:=by omega
  subst hk;rw [List.take_length] at b8;refine U 5 ?_;exact S.rt results295 rfl hR ⟨0,rfl,fun s hs=>by rw [aA ai];exact (List.any_eq_false.2 fun x hx=>by simp [b8 x hx]).symm,rfl⟩
theorem yG {r:Fr} {va:Value} {v:List dB} {a b:Int} (d:dB) (h:d=(a,b,())) (ha:av cU r va v) :
  aj prog 265 #[va,.agg #[.int .i64 a,.int .i64 b]] r [] (aF fun u aa=>u=.bool (oX v d)∧aa=[]):=by
 subst h;refine aj.o func265 fun g hg R hR=>?_;have ha:=ha.mono hg;obtain ⟨a1,c1,rfl⟩:=ha.shape;refine S.seq<|S.region rfl<|O.aD (.p rfl) (.box (cs:=[_,_]) rfl rfl) ?_;rintro _ _ ⟨b3,rfl,rfl⟩;refine U 3 ?_;refine S.cy an fun g hs hm ep=>?_;replace hg:=bf hg hs;replace hR:=a_ hR hm
 try replace ha:=ha.mono hs
 clear hs hm
 cases e1:jd v with
 |false =>
  refine S.aY (L:=[0,1,2,3,4,5,6,7,8,9,11,12,10,13,14,15]) F.mixed af ?_;refine ah.q 1 rfl<|ah.v0 (.p rfl) af rfl af rfl rfl ((tX ha)) ?_;refine ah.aB 6 rfl (by exact e1)<|U 15 ?_;exact S.rt results265 rfl hR ⟨by simp [oX,e1],rfl⟩
 |true =>
  cases e2:k4 (a,b,()) with
  |false =>
   refine S.aY (L:=[0,1,2,3,4,5,6,7,8,9,11,12,10,13,14,15]) F.mixed af ?_;refine ah.q 1 rfl<|ah.v0 (.p rfl) af rfl af rfl rfl ((tX ha)) ?_;refine ah.sT 6 rfl (by exact e1) ?_;refine ah.q 1 rfl<|.quiet (.g rfl rfl) rfl (fun _=>.aJ isAgg115 af rfl ep) ?_;refine ah.v0 (.g rfl rfl) af rfl af rfl rfl ((ph _ rfl)) ?_;refine ah.aB 9 rfl (by exact e2)<|U 12 ?_;exact S.rt results265 rfl hR ⟨by simp [oX,e1,e2],rfl⟩
  |true =>
   have hb:=(zM.1 e2).2.2.1;refine S.aY (L:=[0,1,2,3,4,5,6,7,8,9,11,12,10,13,14,15]) F.mixed af ?_;refine ah.q 1 rfl<|ah.v0 (.p rfl) af rfl af rfl rfl ((tX ha)) ?_;refine ah.sT 6 rfl (by exact e1) ?_;refine ah.q 1 rfl<|.quiet (.g rfl rfl) rfl (fun _=>.aJ isAgg115 af rfl ep) ?_;refine ah.v0 (.g rfl rfl) af rfl af rfl rfl ((ph _ rfl)) ?_;refine ah.sT 9 rfl (by exact e2) ?_;refine U 7 ?_;refine ah.aN (.g rfl rfl) af rfl af rfl rfl ((aaD _ ha e1)) ?_;rintro iC _ ⟨z,rfl,hz,rfl⟩;refine U 4 ?_;exact S.rt results265 rfl hR ⟨congrArg _ (by rw [oX,e1,e2,← hz b hb];rfl),rfl⟩
theorem r4 {r:Fr} {cs:List Value} {x:aV} (h:bu.rel r cs x):aj prog 218 #[.agg cs.toArray] r [] (aF fun v aa=>v=.bool (shaped x)∧aa=[]):=by
 obtain ⟨dM,je,iF,dN,jf,iG,rfl,k0,k1,k2,aI,cv,bV⟩:=bu.sh h;have jn:=l5 x.1;refine aj.o func218 fun g hg R hR=>?_;have h:=h.mono hg;have aI:=aI.mono hg;have cv:=cv.mono hg;have bV:=bV.mono hg;refine S.seq<|S.region rfl<|O.aD (.p rfl) (.box (cs:=[_,_,_,_,_,_,_]) rfl rfl) ?_;rintro _ _ ⟨b1,rfl,rfl⟩;refine U 3 ?_;refine S.cy an fun g hs hm cK=>?_;replace hg:=bf hg hs;replace hR:=a_ hR hm
 try replace h:=h.mono hs
 try replace aI:=aI.mono hs
 try replace cv:=cv.mono hs
 try replace bV:=bV.mono hs
 clear hs hm
 by_cases n0:¬ (1≤x.1.length)
 ·
  refine U 5 ?_;refine O.op (.p rfl) (.build (cs:=[_,_]) underlying115 rfl rfl rfl rfl rfl)<|O.aD (.p rfl) (.alloc (cs:=[.int .i64 0,.int .i64 0]) zeroValue115 rfl) ?_;rintro _ _ ⟨b3,rfl,rfl⟩;refine U 1 ?_;refine O.nil<|S.seq<|S.seq<|S.cy an fun g hs hm ep=>?_;replace hg:=bf hg hs;replace hR:=a_ hR hm
  try replace h:=h.mono hs
  try replace aI:=aI.mono hs
  try replace cv:=cv.mono hs
  try replace bV:=bV.mono hs
  try replace cK:=cK.mono hs
  clear hs hm;refine U 5 ?_;refine O.sT 12 rfl (by exact zdt (by rw [jn];omega)) ?_;refine U 29 ?_;exact S.rt results218 rfl hR ⟨congrArg _ (Bool.eq_false_iff.2 fun q=>n0 (oB.1 q).1).symm,rfl⟩
 have c0:=Classical.not_not.1 n0
 by_cases n1:¬ (x.1.length≤64)
 ·
  refine U 5 ?_;refine O.op (.p rfl) (.build (cs:=[_,_]) underlying115 rfl rfl rfl rfl rfl)<|O.aD (.p rfl) (.alloc (cs:=[.int .i64 0,.int .i64 0]) zeroValue115 rfl) ?_;rintro _ _ ⟨b3,rfl,rfl⟩;refine U 1 ?_;refine O.nil<|S.seq<|S.seq<|S.cy an fun g hs hm ep=>?_;replace hg:=bf hg hs;replace hR:=a_ hR hm
  try replace h:=h.mono hs
  try replace aI:=aI.mono hs
  try replace cv:=cv.mono hs
  try replace bV:=bV.mono hs
  try replace cK:=cK.mono hs
  clear hs hm;refine U 5 ?_;refine O.aB 12 rfl (by exact aA (by rw [jn];omega)) ?_;refine U 5 ?_;refine O.sT 17 rfl (by exact zdt (by rw [jn];omega)) ?_;refine U 24 ?_;exact S.rt results218 rfl hR ⟨congrArg _ (Bool.eq_false_iff.2 fun q=>n1 (oB.1 q).2.1).symm,rfl⟩
 have c1:=Classical.not_not.1 n1
 by_cases n2:¬ (k4 (fP x)=true)
 ·
  refine U 5 ?_;refine O.op (.p rfl) (.build (cs:=[_,_]) underlying115 rfl rfl rfl rfl rfl)<|O.aD (.p rfl) (.alloc (cs:=[.int .i64 0,.int .i64 0]) zeroValue115 rfl) ?_;rintro _ _ ⟨b3,rfl,rfl⟩;refine U 1 ?_;refine O.nil<|S.seq<|S.seq<|S.cy an fun g hs hm ep=>?_;replace hg:=bf hg hs;replace hR:=a_ hR hm
  try replace h:=h.mono hs
  try replace aI:=aI.mono hs
  try replace cv:=cv.mono hs
  try replace bV:=bV.mono hs
  try replace cK:=cK.mono hs
  clear hs hm;refine U 5 ?_;refine O.aB 12 rfl (by exact aA (by rw [jn];omega)) ?_;refine U 5 ?_;refine O.aB 17 rfl (by exact aA (by rw [jn];omega)) ?_;refine O.q 2 rfl<|O.op (.g rfl rfl) (.aJ isAgg115 af rfl ep) ?_;refine O.v0 (.g rfl rfl) rfl af rfl rfl ((ph (fP x) rfl)) ?_;refine O.aB 21 rfl (by exact (by simpa using n2)) ?_;refine U 20 ?_;exact S.rt results218 rfl hR ⟨congrArg _ (Bool.eq_false_iff.2 fun q=>n2 (oB.1 q).2.2.1).symm,rfl⟩
 have c2:=Classical.not_not.1 n2
 by_cases eC:¬ (jd x.2.2.2.1=true)
 ·
  refine U 5 ?_;refine O.op (.p rfl) (.build (cs:=[_,_]) underlying115 rfl rfl rfl rfl rfl)<|O.aD (.p rfl) (.alloc (cs:=[.int .i64 0,.int .i64 0]) zeroValue115 rfl) ?_;rintro _ _ ⟨b3,rfl,rfl⟩;refine U 1 ?_;refine O.nil<|S.seq<|S.seq<|S.cy an fun g hs hm ep=>?_;replace hg:=bf hg hs;replace hR:=a_ hR hm
  try replace h:=h.mono hs
  try replace aI:=aI.mono hs
  try replace cv:=cv.mono hs
  try replace bV:=bV.mono hs
  try replace cK:=cK.mono hs
  clear hs hm;refine U 5 ?_;refine O.aB 12 rfl (by exact aA (by rw [jn];omega)) ?_;refine U 5 ?_;refine O.aB 17 rfl (by exact aA (by rw [jn];omega)) ?_;refine O.q 2 rfl<|O.op (.g rfl rfl) (.aJ isAgg115 af rfl ep) ?_;refine O.v0 (.g rfl rfl) rfl af rfl rfl ((ph (fP x) rfl)) ?_;refine O.sT 21 rfl (by exact c2) ?_;refine U 5 ?_;refine O.v0 (.g rfl rfl) rfl af rfl rfl ((tX aI)) ?_;refine O.aB 27 rfl (by exact (by simpa using eC)) ?_;refine U 14 ?_;exact S.rt results218 rfl hR ⟨congrArg _ (Bool.eq_false_iff.2 fun q=>eC (oB.1 q).2.2.2.1).symm,rfl⟩
 have c3:=Classical.not_not.1 eC
 by_cases fy:¬ (oX x.2.2.2.1 (fP x)=false)
 ·
  refine U 5 ?_;refine O.op (.p rfl) (.build (cs:=[_,_]) underlying115 rfl rfl rfl rfl rfl)<|O.aD (.p rfl) (.alloc (cs:=[.int .i64 0,.int .i64 0]) zeroValue115 rfl) ?_;rintro _ _ ⟨b3,rfl,rfl⟩;refine U 1 ?_;refine O.nil<|S.seq<|S.seq<|S.cy an fun g hs hm ep=>?_;replace hg:=bf hg hs;replace hR:=a_ hR hm
  try replace h:=h.mono hs
  try replace aI:=aI.mono hs
  try replace cv:=cv.mono hs
  try replace bV:=bV.mono hs
  try replace cK:=cK.mono hs
  clear hs hm;refine U 5 ?_;refine O.aB 12 rfl (by exact aA (by rw [jn];omega)) ?_;refine U 5 ?_;refine O.aB 17 rfl (by exact aA (by rw [jn];omega)) ?_;refine O.q 2 rfl<|O.op (.g rfl rfl) (.aJ isAgg115 af rfl ep) ?_;refine O.v0 (.g rfl rfl) rfl af rfl rfl ((ph (fP x) rfl)) ?_;refine O.sT 21 rfl (by exact c2) ?_;refine U 5 ?_;refine O.v0 (.g rfl rfl) rfl af rfl rfl ((tX aI)) ?_;refine O.sT 27 rfl (by exact c3) ?_;refine U 5 ?_;refine O.op (.g rfl rfl) (.aJ isAgg115 af rfl ep) ?_;refine O.v0 (.g rfl rfl) rfl af rfl rfl ((yG (fP x) rfl aI)) ?_;refine O.sT 34 rfl (by exact (by simpa using fy)) ?_;refine U 7 ?_;exact S.rt results218 rfl hR ⟨congrArg _ (Bool.eq_false_iff.2 fun q=>fy (oB.1 q).2.2.2.2.1).symm,rfl⟩
 have bR:=Classical.not_not.1 fy
 by_cases o9:¬ (x.2.2.2.2.2.1.length≤1024)
 ·
  refine U 5 ?_;refine O.op (.p rfl) (.build (cs:=[_,_]) underlying115 rfl rfl rfl rfl rfl)<|O.aD (.p rfl) (.alloc (cs:=[.int .i64 0,.int .i64 0]) zeroValue115 rfl) ?_;rintro _ _ ⟨b3,rfl,rfl⟩;refine U 1 ?_;refine O.nil<|S.seq<|S.seq<|S.cy an fun g hs hm ep=>?_;replace hg:=bf hg hs;replace hR:=a_ hR hm
  try replace h:=h.mono hs
  try replace aI:=aI.mono hs
  try replace cv:=cv.mono hs
  try replace bV:=bV.mono hs
  try replace cK:=cK.mono hs
  clear hs hm;refine U 5 ?_;refine O.aB 12 rfl (by exact aA (by rw [jn];omega)) ?_;refine U 5 ?_;refine O.aB 17 rfl (by exact aA (by rw [jn];omega)) ?_;refine O.q 2 rfl<|O.op (.g rfl rfl) (.aJ isAgg115 af rfl ep) ?_;refine O.v0 (.g rfl rfl) rfl af rfl rfl ((ph (fP x) rfl)) ?_;refine O.sT 21 rfl (by exact c2) ?_;refine U 5 ?_;refine O.v0 (.g rfl rfl) rfl af rfl rfl ((tX aI)) ?_;refine O.sT 27 rfl (by exact c3) ?_;refine U 5 ?_;refine O.op (.g rfl rfl) (.aJ isAgg115 af rfl ep) ?_;refine O.v0 (.g rfl rfl) rfl af rfl rfl ((yG (fP x) rfl aI)) ?_;refine O.aB 34 rfl (by exact bR) ?_;refine U 10 ?_;refine O.aB 39 rfl (by exact aA ai) ?_;refine U 13 ?_;exact S.rt results218 rfl hR ⟨congrArg _ (Bool.eq_false_iff.2 fun q=>o9 (oB.1 q).2.2.2.2.2.1).symm,rfl⟩
 have cD:=Classical.not_not.1 o9
 cases g4:x.2.2.2.2.1 with
 |false =>
  have hs:shaped x=true:=oB.2 ⟨c0,c1,c2,c3,bR,cD,fun q=>by rw [g4] at q;cases q⟩;refine U 5 ?_;refine O.op (.p rfl) (.build (cs:=[_,_]) underlying115 rfl rfl rfl rfl rfl)<|O.aD (.p rfl) (.alloc (cs:=[.int .i64 0,.int .i64 0]) zeroValue115 rfl) ?_;rintro _ _ ⟨b3,rfl,rfl⟩;refine U 1 ?_;refine O.nil<|S.seq<|S.seq<|S.cy an fun g hs hm ep=>?_;replace hg:=bf hg hs;replace hR:=a_ hR hm
  try replace h:=h.mono hs
  try replace aI:=aI.mono hs
  try replace cv:=cv.mono hs
  try replace bV:=bV.mono hs
  try replace cK:=cK.mono hs
  clear hs hm;refine U 5 ?_;refine O.aB 12 rfl (by exact aA (by rw [jn];omega)) ?_;refine U 5 ?_;refine O.aB 17 rfl (by exact aA (by rw [jn];omega)) ?_;refine O.q 2 rfl<|O.op (.g rfl rfl) (.aJ isAgg115 af rfl ep) ?_;refine O.v0 (.g rfl rfl) rfl af rfl rfl ((ph (fP x) rfl)) ?_;refine O.sT 21 rfl (by exact c2) ?_;refine U 5 ?_;refine O.v0 (.g rfl rfl) rfl af rfl rfl ((tX aI)) ?_;refine O.sT 27 rfl (by exact c3) ?_;refine U 5 ?_;refine O.op (.g rfl rfl) (.aJ isAgg115 af rfl ep) ?_;refine O.v0 (.g rfl rfl) rfl af rfl rfl ((yG (fP x) rfl aI)) ?_;refine O.aB 34 rfl (by exact bR) ?_;refine U 10 ?_;refine O.sT 39 rfl (by exact zdt ai) ?_;refine U 3 ?_;refine O.aB 42 rfl (by exact g4) ?_;refine U 10 ?_;exact S.rt results218 rfl hR ⟨by rw [hs],rfl⟩
 |true =>
  by_cases qW:x.2.2.2.2.2.1.length=0
  ·have hs:shaped x=true:=oB.2 ⟨c0,c1,c2,c3,bR,cD,fun _=>qW⟩
   refine U 5 ?_;refine O.op (.p rfl) (.build (cs:=[_,_]) underlying115 rfl rfl rfl rfl rfl)<|O.aD (.p rfl) (.alloc (cs:=[.int .i64 0,.int .i64 0]) zeroValue115 rfl) ?_;rintro _ _ ⟨b3,rfl,rfl⟩;refine U 1 ?_;refine O.nil<|S.seq<|S.seq<|S.cy an fun g hs hm ep=>?_;replace hg:=bf hg hs;replace hR:=a_ hR hm
   try replace h:=h.mono hs
   try replace aI:=aI.mono hs
   try replace cv:=cv.mono hs
   try replace bV:=bV.mono hs
   try replace cK:=cK.mono hs
   clear hs hm;refine U 5 ?_;refine O.aB 12 rfl (by exact aA (by rw [jn];omega)) ?_;refine U 5 ?_;refine O.aB 17 rfl (by exact aA (by rw [jn];omega)) ?_;refine O.q 2 rfl<|O.op (.g rfl rfl) (.aJ isAgg115 af rfl ep) ?_;refine O.v0 (.g rfl rfl) rfl af rfl rfl ((ph (fP x) rfl)) ?_;refine O.sT 21 rfl (by exact c2) ?_;refine U 5 ?_;refine O.v0 (.g rfl rfl) rfl af rfl rfl ((tX aI)) ?_;refine O.sT 27 rfl (by exact c3) ?_;refine U 5 ?_;refine O.op (.g rfl rfl) (.aJ isAgg115 af rfl ep) ?_;refine O.v0 (.g rfl rfl) rfl af rfl rfl ((yG (fP x) rfl aI)) ?_;refine O.aB 34 rfl (by exact bR) ?_;refine U 10 ?_;refine O.sT 39 rfl (by exact zdt ai) ?_;refine U 3 ?_;refine O.sT 42 rfl (by exact g4) ?_;refine U 6 ?_;refine O.sT 48 rfl (by exact zdt ai) ?_;refine U 4 ?_;exact S.rt results218 rfl hR ⟨by rw [hs],rfl⟩
  ·have hs:shaped x=false:=Bool.eq_false_iff.2 fun q=>qW ((oB.1 q).2.2.2.2.2.2 g4)
   refine U 5 ?_;refine O.op (.p rfl) (.build (cs:=[_,_]) underlying115 rfl rfl rfl rfl rfl)<|O.aD (.p rfl) (.alloc (cs:=[.int .i64 0,.int .i64 0]) zeroValue115 rfl) ?_;rintro _ _ ⟨b3,rfl,rfl⟩;refine U 1 ?_;refine O.nil<|S.seq<|S.seq<|S.cy an fun g hs hm ep=>?_;replace hg:=bf hg hs;replace hR:=a_ hR hm
   try replace h:=h.mono hs
   try replace aI:=aI.mono hs
   try replace cv:=cv.mono hs
   try replace bV:=bV.mono hs
   try replace cK:=cK.mono hs
   clear hs hm;refine U 5 ?_;refine O.aB 12 rfl (by exact aA (by rw [jn];omega)) ?_;refine U 5 ?_;refine O.aB 17 rfl (by exact aA (by rw [jn];omega)) ?_;refine O.q 2 rfl<|O.op (.g rfl rfl) (.aJ isAgg115 af rfl ep) ?_;refine O.v0 (.g rfl rfl) rfl af rfl rfl ((ph (fP x) rfl)) ?_;refine O.sT 21 rfl (by exact c2) ?_;refine U 5 ?_;refine O.v0 (.g rfl rfl) rfl af rfl rfl ((tX aI)) ?_;refine O.sT 27 rfl (by exact c3) ?_;refine U 5 ?_;refine O.op (.g rfl rfl) (.aJ isAgg115 af rfl ep) ?_;refine O.v0 (.g rfl rfl) rfl af rfl rfl ((yG (fP x) rfl aI)) ?_;refine O.aB 34 rfl (by exact bR) ?_;refine U 10 ?_;refine O.sT 39 rfl (by exact zdt ai) ?_;refine U 3 ?_;refine O.sT 42 rfl (by exact g4) ?_;refine U 6 ?_;refine O.aB 48 rfl (by exact aA ai) ?_;refine U 4 ?_;exact S.rt results218 rfl hR ⟨by rw [hs],rfl⟩
theorem wS {r:Fr} {cs:List Value} {x:aV} (h:bu.rel r cs x):aj prog 122 #[.agg cs.toArray] r [] (aF fun v aa=>v=.bool (fF x)∧aa=[]):=by
 obtain ⟨dM,je,iF,dN,jf,iG,rfl,k0,k1,k2,aI,cv,bV⟩:=bu.sh h;have jn:=l5 x.1;refine aj.o func122 fun g hg R hR=>?_;have h:=h.mono hg;have aI:=aI.mono hg;have cv:=cv.mono hg;have bV:=bV.mono hg;refine S.seq<|S.region rfl<|O.aD (.p rfl) (.box (cs:=[_,_,_,_,_,_,_]) rfl rfl) ?_;rintro _ _ ⟨b1,rfl,rfl⟩;refine U 3 ?_;refine S.cy an fun g hs hm cK=>?_;replace hg:=bf hg hs;replace hR:=a_ hR hm
 try replace h:=h.mono hs
 try replace aI:=aI.mono hs
 try replace cv:=cv.mono hs
 try replace bV:=bV.mono hs
 clear hs hm
 cases e:shaped x with
 |false =>
  refine S.region rfl<|O.op (.p rfl) (.aJ isAgg118 af rfl cK) ?_;refine O.v0 (.p rfl) rfl af rfl rfl ((r4 h)) ?_;refine O.aB 4 rfl (by exact e)<|U 8 ?_;exact S.rt results122 rfl hR ⟨by simp [fF,e],rfl⟩
 |true =>
  refine S.region rfl<|O.op (.p rfl) (.aJ isAgg118 af rfl cK) ?_;refine O.v0 (.p rfl) rfl af rfl rfl ((r4 h)) ?_;refine O.sT 4 rfl (by exact e)<|U 8 ?_;exact S.rt results122 rfl hR ⟨congrArg _ (by rw [fF,e,Bool.true_and];exact decide_eq_decide.2 ai),rfl⟩
theorem OQ {r:Fr} {cs ds:List Value} {x y:aV} (h:bu.rel r cs x) (h' :bu.rel r ds y):aj prog 221 #[.agg cs.toArray,.agg ds.toArray] r [] (aF fun v aa=>v=.bool (over x y)∧aa=[]):=by
 obtain ⟨dM,je,iF,dN,jf,iG,rfl,k0,k1,k2,aI,cv,bV⟩:=bu.sh h;obtain ⟨oF,vo,vp,oG,vq,vr,rfl,H6,j1,j2,Xn,Xo,Xp⟩:=bu.sh h';refine aj.o func221 fun g hg R hR=>?_;have h:=h.mono hg;have h' :=h'.mono hg;have aI:=aI.mono hg;refine S.seq<|S.region rfl<|O.aD (.p rfl) (.box (cs:=[_,_,_,_,_,_,_]) rfl rfl) ?_;rintro _ _ ⟨b2,rfl,rfl⟩;refine O.aD (.p rfl) (.box (cs:=[_,_,_,_,_,_,_]) rfl rfl) ?_;rintro _ _ ⟨b3,rfl,rfl⟩;refine U 3 ?_
 cases e1:shaped x with
 |false =>
  refine U 2 ?_;refine O.v0 (.p rfl) rfl af rfl rfl ((r4 h)) ?_;refine O.aB 6 rfl (by exact e1)<|U 23 ?_;exact S.rt results221 rfl hR ⟨by simp [over,e1],rfl⟩
 |true =>
  cases e2:shaped y with
  |false =>
   refine U 2 ?_;refine O.v0 (.p rfl) rfl af rfl rfl ((r4 h)) ?_;refine O.sT 6 rfl (by exact e1)<|U 2 ?_;refine O.v0 (.g rfl rfl) rfl af rfl rfl ((r4 h')) ?_;refine O.aB 9 rfl (by exact e2)<|U 20 ?_;exact S.rt results221 rfl hR ⟨by simp [over,e2],rfl⟩
  |true =>
   by_cases cZ:x.1=y.1
   ·
    refine U 2 ?_;refine O.v0 (.p rfl) rfl af rfl rfl ((r4 h)) ?_;refine O.sT 6 rfl (by exact e1)<|U 2 ?_;refine O.v0 (.g rfl rfl) rfl af rfl rfl ((r4 h')) ?_;refine O.sT 9 rfl (by exact e2)<|U 6 ?_;refine O.op (.g rfl rfl) (.e4 rfl rfl)<|O.sT 16 rfl (by simp [cZ])<|U 8 ?_;refine O.op (.g rfl rfl) (.build (cs:=[_,_]) underlying115 rfl rfl rfl rfl rfl)<|O.v0 (.g rfl rfl) rfl af rfl rfl ((yG (fP y) rfl aI))<|U 3 ?_;exact S.rt results221 rfl hR ⟨by simp [over,e1,e2,cZ],rfl⟩
   ·
    refine U 2 ?_;refine O.v0 (.p rfl) rfl af rfl rfl ((r4 h)) ?_;refine O.sT 6 rfl (by exact e1)<|U 2 ?_;refine O.v0 (.g rfl rfl) rfl af rfl rfl ((r4 h')) ?_;refine O.sT 9 rfl (by exact e2)<|U 6 ?_;refine O.op (.g rfl rfl) (.e4 rfl rfl)<|O.aB 16 rfl (by simp [cZ])<|U 13 ?_;exact S.rt results221 rfl hR ⟨by simp [over,cZ],rfl⟩
def kS (x:aV):List UInt8:=[1]++(bytesOf x.1++(be x.2.1++(be x.2.2.1++be x.2.2.2.1.length)))
theorem aaE {r:Fr} {cs:List Value} {x:aV} (h:bu.rel r cs x) (hs:shaped x=true) :
  aj prog 224 #[.agg cs.toArray] r [] (aF fun v aa=>∃ a c,v=.slice a (fY x).length c∧aa=[ak ag.u8 5 (.slice a (fY x).length c) (fY x)]):=by
 obtain ⟨dM,je,iF,dN,jf,iG,rfl,k0,k1,k2,aI,cv,bV⟩:=bu.sh h;obtain ⟨YS,m1,_,uZ,_,ahD,_⟩:=oB.1 hs;have YU:=A9 uZ;have hfl:[[1],bytesOf x.1,be x.2.1,be x.2.2.1,be x.2.2.2.1.length].flatten=kS x:=by simp [kS]
 have x8:(kS x).length=33+x.1.length:=by simp [kS];omega
 refine aj.o func224 fun g hg R hR=>?_;have h:=h.mono hg;have aI:=aI.mono hg;have cv:=cv.mono hg;have bV:=bV.mono hg;refine S.seq<|S.region rfl<|O.aD (.p rfl) (.box (cs:=[_,_,_,_,_,_,_]) rfl rfl) ?_;rintro _ _ ⟨b1,rfl,rfl⟩;refine U 4 ?_;refine S.cy an fun g hs hm cK=>?_;replace hg:=bf hg hs;replace hR:=a_ hR hm
 try replace h:=h.mono hs
 try replace aI:=aI.mono hs
 try replace cv:=cv.mono hs
 try replace bV:=bV.mono hs
 clear hs hm;refine S.region rfl<|O.op (.p rfl) (.aJ isAgg118 af rfl cK) ?_;refine O.v0 (.p rfl) rfl af rfl rfl ((r4 h)) ?_;refine O.sT 7 rfl (by exact hs) ?_;refine U 5 ?_;refine S.yJ (L:=[1,2,5,6,8,9,11,12,13,0,3,4,7,10,14,15,16,17]) (fun (s:Option Addr × Nat)=>[(3,.slice s.1 (kS x).length s.2)]) [(1,_)] (fun (s:Option Addr × Nat)=>[ak ag.u8 5 (.slice s.1 (kS x).length s.2) (kS x)]) aO F.mixed af (fun kk key=>?_) (fun s=>?_)
 ·refine U 9 ?_
  refine ah.kZ 0 3 [3,4,7,10,14,15,16,17] [0,4,7,10,14,15,16,17] af rfl rfl ?_ ?_
  ·refine e3.bw (T:=ag.u8) (ys:=[1]) (.p rfl) af underlying22 cP aq rfl rfl ⟨rfl,trivial⟩ aq (fun a9 bc=>?_)
   refine ah.oD (.p rfl) af underlying9 underlying22 underlying5 rfl vt (fun cR bD=>?_);refine ah.dh (.p rfl) af rfl af rfl rfl (bs:=[ak ag.u8 5 (.slice cR x.1.length bD) x.1]) ct (fun m hm hd=>lX (hm.arr.right hd) ai) ?_;rintro _ _ ⟨dF,cj,rfl,rfl⟩;refine ah.aN (.p rfl) af rfl af rfl rfl (fQ _) ?_;rintro _ _ ⟨b_,bn,rfl,rfl⟩;refine ah.aN (.p rfl) af rfl af rfl rfl (fQ _) ?_;rintro _ _ ⟨eF,cO,rfl,rfl⟩;refine ah.aN (.p rfl) af rfl af rfl rfl (fQ _) ?_;rintro _ _ ⟨gk,dm,rfl,rfl⟩;refine ah.bw (T:=ag.val) (ys:=[_,_,_,_,_]) (.p rfl) af underlying28 dH aq rfl rfl ⟨⟨rfl,rfl⟩,⟨rfl,rfl⟩,⟨rfl,rfl⟩,⟨rfl,rfl⟩,⟨rfl,rfl⟩,trivial⟩ aq (fun gO dw=>?_)
   refine ah.dh (.p rfl) af rfl af rfl rfl (bs:=[ak ag.val 22 (.slice gO 5 dw) [.slice a9 1 bc,.slice dF (bytesOf x.1).length cj,.slice b_ 8 bn,.slice eF 8 cO,.slice gk 8 dm],ak ag.u8 5 (.slice a9 1 bc) [1],ak ag.u8 5 (.slice dF (bytesOf x.1).length cj) (bytesOf x.1),ak ag.u8 5 (.slice b_ 8 bn) (be x.2.1),ak ag.u8 5 (.slice eF 8 cO) (be x.2.2.1),ak ag.u8 5 (.slice gk 8 dm) (be x.2.2.2.1.length)]) ct (fun m hm hd=>kT (xss:=[[1],bytesOf x.1,be x.2.1,be x.2.2.1,be x.2.2.2.1.length]) ((hm.arr.right hd).rows ⟨hm.tail.arr.right hd,hm.tail.tail.arr.right hd,hm.tail.tail.tail.arr.right hd,hm.tail.tail.tail.tail.arr.right hd,hm.tail.tail.tail.tail.tail.arr.right hd,trivial⟩) (by rw [hfl];omega)) ?_;rintro _ _ ⟨iJ,dG,rfl,rfl⟩;rw [hfl];refine ah.q 1 rfl<|bt.nil<|S.pk ?_ (S.weaken (Sub.app aO aO) (key (iJ,dG)))
   try dsimp only
   repeat (first|exact gX|exact gZ|(apply gY;focus (repeat (first|exact fA|apply zt)))|apply g5)
  ·refine e3.oD (.p rfl) af underlying9 underlying22 underlying5 rfl vt (fun cR bD=>?_)
   refine ah.kZ 0 4 [4,7,10,14,15,16,17] [0,7,10,14,15,16,17] af rfl rfl ?_ ?_
   ·refine e3.bw (T:=ag.u8) (ys:=[1]) (.p rfl) af underlying22 cP aq rfl rfl ⟨rfl,trivial⟩ aq (fun a9 bc=>?_)
    refine ah.dh (.p rfl) af rfl af rfl rfl (bs:=[ak ag.u8 5 (.slice cR x.1.length bD) x.1]) ct (fun m hm hd=>lX (hm.arr.right hd) ai) ?_;rintro _ _ ⟨dF,cj,rfl,rfl⟩;refine ah.aN (.p rfl) af rfl af rfl rfl (fQ _) ?_;rintro _ _ ⟨b_,bn,rfl,rfl⟩;refine ah.aN (.p rfl) af rfl af rfl rfl (fQ _) ?_;rintro _ _ ⟨eF,cO,rfl,rfl⟩;refine ah.aN (.p rfl) af rfl af rfl rfl (fQ _) ?_;rintro _ _ ⟨gk,dm,rfl,rfl⟩;refine ah.bw (T:=ag.val) (ys:=[_,_,_,_,_]) (.p rfl) af underlying28 dH aq rfl rfl ⟨⟨rfl,rfl⟩,⟨rfl,rfl⟩,⟨rfl,rfl⟩,⟨rfl,rfl⟩,⟨rfl,rfl⟩,trivial⟩ aq (fun gO dw=>?_);refine ah.dh (.p rfl) af rfl af rfl rfl (bs:=[ak ag.val 22 (.slice gO 5 dw) [.slice a9 1 bc,.slice dF (bytesOf x.1).length cj,.slice b_ 8 bn,.slice eF 8 cO,.slice gk 8 dm],ak ag.u8 5 (.slice a9 1 bc) [1],ak ag.u8 5 (.slice dF (bytesOf x.1).length cj) (bytesOf x.1),ak ag.u8 5 (.slice b_ 8 bn) (be x.2.1),ak ag.u8 5 (.slice eF 8 cO) (be x.2.2.1),ak ag.u8 5 (.slice gk 8 dm) (be x.2.2.2.1.length)]) ct (fun m hm hd=>kT (xss:=[[1],bytesOf x.1,be x.2.1,be x.2.2.1,be x.2.2.2.1.length]) ((hm.arr.right hd).rows ⟨hm.tail.arr.right hd,hm.tail.tail.arr.right hd,hm.tail.tail.tail.arr.right hd,hm.tail.tail.tail.tail.arr.right hd,hm.tail.tail.tail.tail.tail.arr.right hd,trivial⟩) (by rw [hfl];omega)) ?_;rintro _ _ ⟨iJ,dG,rfl,rfl⟩;rw [hfl]
    refine ah.q 1 rfl<|bt.nil<|S.pk ?_ (S.weaken (Sub.app aO aO) (key (iJ,dG)))
    try dsimp only
    repeat (first|exact gX|exact gZ|(apply gY;focus (repeat (first|exact fA|apply zt)))|apply g5)
   ·refine e3.dh (.p rfl) af rfl af rfl rfl (bs:=[ak ag.u8 5 (.slice cR x.1.length bD) x.1]) ct (fun m hm hd=>lX (hm.arr.right hd) ai) ?_
    rintro _ _ ⟨dF,cj,rfl,rfl⟩;refine ah.kZ 0 7 [7,10,14,15,16,17] [0,10,14,15,16,17] af rfl rfl ?_ ?_
    ·refine e3.bw (T:=ag.u8) (ys:=[1]) (.p rfl) af underlying22 cP aq rfl rfl ⟨rfl,trivial⟩ aq (fun a9 bc=>?_)
     refine ah.aN (.p rfl) af rfl af rfl rfl (fQ _) ?_;rintro _ _ ⟨b_,bn,rfl,rfl⟩;refine ah.aN (.p rfl) af rfl af rfl rfl (fQ _) ?_;rintro _ _ ⟨eF,cO,rfl,rfl⟩;refine ah.aN (.p rfl) af rfl af rfl rfl (fQ _) ?_;rintro _ _ ⟨gk,dm,rfl,rfl⟩;refine ah.bw (T:=ag.val) (ys:=[_,_,_,_,_]) (.p rfl) af underlying28 dH aq rfl rfl ⟨⟨rfl,rfl⟩,⟨rfl,rfl⟩,⟨rfl,rfl⟩,⟨rfl,rfl⟩,⟨rfl,rfl⟩,trivial⟩ aq (fun gO dw=>?_);refine ah.dh (.p rfl) af rfl af rfl rfl (bs:=[ak ag.val 22 (.slice gO 5 dw) [.slice a9 1 bc,.slice dF (bytesOf x.1).length cj,.slice b_ 8 bn,.slice eF 8 cO,.slice gk 8 dm],ak ag.u8 5 (.slice a9 1 bc) [1],ak ag.u8 5 (.slice dF (bytesOf x.1).length cj) (bytesOf x.1),ak ag.u8 5 (.slice b_ 8 bn) (be x.2.1),ak ag.u8 5 (.slice eF 8 cO) (be x.2.2.1),ak ag.u8 5 (.slice gk 8 dm) (be x.2.2.2.1.length)]) ct (fun m hm hd=>kT (xss:=[[1],bytesOf x.1,be x.2.1,be x.2.2.1,be x.2.2.2.1.length]) ((hm.arr.right hd).rows ⟨hm.tail.arr.right hd,hm.tail.tail.arr.right hd,hm.tail.tail.tail.arr.right hd,hm.tail.tail.tail.tail.arr.right hd,hm.tail.tail.tail.tail.tail.arr.right hd,trivial⟩) (by rw [hfl];omega)) ?_;rintro _ _ ⟨iJ,dG,rfl,rfl⟩;rw [hfl];refine ah.q 1 rfl<|bt.nil<|S.pk ?_ (S.weaken (Sub.app aO aO) (key (iJ,dG)))
     try dsimp only
     repeat (first|exact gX|exact gZ|(apply gY;focus (repeat (first|exact fA|apply zt)))|apply g5)
    ·refine e3.aN (.p rfl) af rfl af rfl rfl (fQ _) ?_
     rintro _ _ ⟨b_,bn,rfl,rfl⟩;refine ah.kZ 0 10 [10,14,15,16,17] [0,14,15,16,17] af rfl rfl ?_ ?_
     ·refine e3.bw (T:=ag.u8) (ys:=[1]) (.p rfl) af underlying22 cP aq rfl rfl ⟨rfl,trivial⟩ aq (fun a9 bc=>?_)
      refine ah.aN (.p rfl) af rfl af rfl rfl (fQ _) ?_;rintro _ _ ⟨eF,cO,rfl,rfl⟩;refine ah.aN (.p rfl) af rfl af rfl rfl (fQ _) ?_;rintro _ _ ⟨gk,dm,rfl,rfl⟩;refine ah.bw (T:=ag.val) (ys:=[_,_,_,_,_]) (.p rfl) af underlying28 dH aq rfl rfl ⟨⟨rfl,rfl⟩,⟨rfl,rfl⟩,⟨rfl,rfl⟩,⟨rfl,rfl⟩,⟨rfl,rfl⟩,trivial⟩ aq (fun gO dw=>?_);refine ah.dh (.p rfl) af rfl af rfl rfl (bs:=[ak ag.val 22 (.slice gO 5 dw) [.slice a9 1 bc,.slice dF (bytesOf x.1).length cj,.slice b_ 8 bn,.slice eF 8 cO,.slice gk 8 dm],ak ag.u8 5 (.slice a9 1 bc) [1],ak ag.u8 5 (.slice dF (bytesOf x.1).length cj) (bytesOf x.1),ak ag.u8 5 (.slice b_ 8 bn) (be x.2.1),ak ag.u8 5 (.slice eF 8 cO) (be x.2.2.1),ak ag.u8 5 (.slice gk 8 dm) (be x.2.2.2.1.length)]) ct (fun m hm hd=>kT (xss:=[[1],bytesOf x.1,be x.2.1,be x.2.2.1,be x.2.2.2.1.length]) ((hm.arr.right hd).rows ⟨hm.tail.arr.right hd,hm.tail.tail.arr.right hd,hm.tail.tail.tail.arr.right hd,hm.tail.tail.tail.tail.arr.right hd,hm.tail.tail.tail.tail.tail.arr.right hd,trivial⟩) (by rw [hfl];omega)) ?_;rintro _ _ ⟨iJ,dG,rfl,rfl⟩;rw [hfl];refine ah.q 1 rfl<|bt.nil<|S.pk ?_ (S.weaken (Sub.app aO aO) (key (iJ,dG)))
      try dsimp only
      repeat (first|exact gX|exact gZ|(apply gY;focus (repeat (first|exact fA|apply zt)))|apply g5)
     ·refine e3.aN (.p rfl) af rfl af rfl rfl (fQ _) ?_
      rintro _ _ ⟨eF,cO,rfl,rfl⟩;refine ah.kZ 0 14 [14,15,16,17] [0,15,16,17] af rfl rfl ?_ ?_
      ·refine e3.bw (T:=ag.u8) (ys:=[1]) (.p rfl) af underlying22 cP aq rfl rfl ⟨rfl,trivial⟩ aq (fun a9 bc=>?_)
       refine ah.aN (.p rfl) af rfl af rfl rfl (fQ _) ?_;rintro _ _ ⟨gk,dm,rfl,rfl⟩;refine ah.bw (T:=ag.val) (ys:=[_,_,_,_,_]) (.p rfl) af underlying28 dH aq rfl rfl ⟨⟨rfl,rfl⟩,⟨rfl,rfl⟩,⟨rfl,rfl⟩,⟨rfl,rfl⟩,⟨rfl,rfl⟩,trivial⟩ aq (fun gO dw=>?_);refine ah.dh (.p rfl) af rfl af rfl rfl (bs:=[ak ag.val 22 (.slice gO 5 dw) [.slice a9 1 bc,.slice dF (bytesOf x.1).length cj,.slice b_ 8 bn,.slice eF 8 cO,.slice gk 8 dm],ak ag.u8 5 (.slice a9 1 bc) [1],ak ag.u8 5 (.slice dF (bytesOf x.1).length cj) (bytesOf x.1),ak ag.u8 5 (.slice b_ 8 bn) (be x.2.1),ak ag.u8 5 (.slice eF 8 cO) (be x.2.2.1),ak ag.u8 5 (.slice gk 8 dm) (be x.2.2.2.1.length)]) ct (fun m hm hd=>kT (xss:=[[1],bytesOf x.1,be x.2.1,be x.2.2.1,be x.2.2.2.1.length]) ((hm.arr.right hd).rows ⟨hm.tail.arr.right hd,hm.tail.tail.arr.right hd,hm.tail.tail.tail.arr.right hd,hm.tail.tail.tail.tail.arr.right hd,hm.tail.tail.tail.tail.tail.arr.right hd,trivial⟩) (by rw [hfl];omega)) ?_;rintro _ _ ⟨iJ,dG,rfl,rfl⟩;rw [hfl];refine ah.q 1 rfl<|bt.nil<|S.pk ?_ (S.weaken (Sub.app aO aO) (key (iJ,dG)))
       try dsimp only
       repeat (first|exact gX|exact gZ|(apply gY;focus (repeat (first|exact fA|apply zt)))|apply g5)
      ·refine e3.aN (.p rfl) af rfl af rfl rfl (fQ _) ?_
       rintro _ _ ⟨gk,dm,rfl,rfl⟩;refine ah.bw (T:=ag.u8) (ys:=[1]) (.p rfl) af underlying22 cP aq rfl rfl ⟨rfl,trivial⟩ aq (fun a9 bc=>?_);refine ah.bw (T:=ag.val) (ys:=[_,_,_,_,_]) (.p rfl) af underlying28 dH aq rfl rfl ⟨⟨rfl,rfl⟩,⟨rfl,rfl⟩,⟨rfl,rfl⟩,⟨rfl,rfl⟩,⟨rfl,rfl⟩,trivial⟩ aq (fun gO dw=>?_);refine ah.dh (.p rfl) af rfl af rfl rfl (bs:=[ak ag.val 22 (.slice gO 5 dw) [.slice a9 1 bc,.slice dF (bytesOf x.1).length cj,.slice b_ 8 bn,.slice eF 8 cO,.slice gk 8 dm],ak ag.u8 5 (.slice a9 1 bc) [1],ak ag.u8 5 (.slice dF (bytesOf x.1).length cj) (bytesOf x.1),ak ag.u8 5 (.slice b_ 8 bn) (be x.2.1),ak ag.u8 5 (.slice eF 8 cO) (be x.2.2.1),ak ag.u8 5 (.slice gk 8 dm) (be x.2.2.2.1.length)]) ct (fun m hm hd=>kT (xss:=[[1],bytesOf x.1,be x.2.1,be x.2.2.1,be x.2.2.2.1.length]) ((hm.arr.right hd).rows ⟨hm.tail.arr.right hd,hm.tail.tail.arr.right hd,hm.tail.tail.tail.arr.right hd,hm.tail.tail.tail.tail.arr.right hd,hm.tail.tail.tail.tail.tail.arr.right hd,trivial⟩) (by rw [hfl];omega)) ?_;rintro _ _ ⟨iJ,dG,rfl,rfl⟩;rw [hfl];refine ah.q 1 rfl<|bt.nil<|S.pk ?_ (S.weaken (Sub.app aO aO) (key (iJ,dG)))
       try dsimp only
       repeat (first|exact gX|exact gZ|(apply gY;focus (repeat (first|exact fA|apply zt)))|apply g5)
 refine U 6 ?_;refine S.hU (T:=ag.u8) (e:=5) (v' :=.slice s.1 (kS x++iM (x.2.2.2.1.take 0)).length s.2) (xs' :=kS x++iM (x.2.2.2.1.take 0)) an aH aH ?_;refine S.slot 3 (v' :=.slice s.1 (kS x++iM (x.2.2.2.1.take 0)).length s.2) rfl aH ?_;refine S.i_ (ι:=Nat) (dy:=Option Addr × Nat) (fun i q=>i≤x.2.2.2.1.length) (fun i q=>[(3,.slice q.1 (kS x++iM (x.2.2.2.1.take i)).length q.2),(4,.int .i64 (i:Int))]) [(1,_)] (fun i q=>[ak ag.u8 5 (.slice q.1 (kS x++iM (x.2.2.2.1.take i)).length q.2) (kS x++iM (x.2.2.2.1.take i))]) (fun i q=>x.2.2.2.1.length - i) (0) (s) aH aO aO rfl fun i q hx ih=>?_;have aW:=bS (g:=g);refine U 9 ?_;refine S.cd rfl (fun F9=>?_) fun F9=>?_
 ·have hi:i<x.2.2.2.1.length:=by omega
  have hN:kS x++iM (x.2.2.2.1.take i)++(be x.2.2.2.1[i].1++be x.2.2.2.1[i].2.1)=kS x++iM (x.2.2.2.1.take (i+1)):=by rw [j9 hi,Sg,kV]
  have GV:(kS x++iM (x.2.2.2.1.take i)).length≤1000:=by rw [cI,FE,mA];omega
  generalize kS x++iM (x.2.2.2.1.take i)=jv at hN GV ⊢;have ME:[jv,be x.2.2.2.1[i].1,be x.2.2.2.1[i].2.1].flatten=kS x++iM (x.2.2.2.1.take (i+1)):=by rw [← hN];simp
  have qK:[jv,be x.2.2.2.1[i].1,be x.2.2.2.1[i].2.1].flatten.length≤2000:=by simp;omega
  generalize hD:x.2.2.2.1[i]=dt at hN ME qK;refine U 3 ?_;refine S.aY (L:=[0,1,2,3,4,5,6,8,9,10,11,12,13,7,14,15,16,17]) F.mixed af ?_;refine U 3 ?_;refine ah.q 1 rfl<|ah.dI (aI) (h:=fun ah0 afG VS Wo=>?_);obtain ⟨rfl,agx,agF⟩:=cU.open Wo;rw [hD] at VS;refine U 4 ?_;refine ah.q 1 rfl<|ah.dI (aI) (h:=fun ZX R4 nD HD=>?_);obtain ⟨rfl,agA,agI⟩:=cU.open HD;rw [hD] at nD;refine U 2 ?_;refine ah.aN (.p rfl) af rfl af rfl rfl (fQ _) ?_;rintro _ _ ⟨KY,Li,rfl,rfl⟩;refine ah.aN (.p rfl) af rfl af rfl rfl (fQ _) ?_;rintro _ _ ⟨xE,xR,rfl,rfl⟩;refine ah.bw (T:=ag.val) (ys:=[_,_,_]) (.p rfl) af underlying28 dH aq rfl rfl ⟨⟨rfl,rfl⟩,⟨rfl,rfl⟩,⟨rfl,rfl⟩,trivial⟩ aq (fun BP B8=>?_);refine ah.dh (.p rfl) af rfl af rfl rfl (bs:=[ak ag.val 22 (.slice BP 3 B8) [.slice q.1 jv.length q.2,.slice KY 8 Li,.slice xE 8 xR],ak ag.u8 5 (.slice q.1 jv.length q.2) jv,ak ag.u8 5 (.slice KY 8 Li) (be dt.1),ak ag.u8 5 (.slice xE 8 xR) (be dt.2.1)]) ct (fun m hm hd=>kT (xss:=[jv,be dt.1,be dt.2.1]) ((hm.arr.right hd).rows ⟨hm.tail.arr.right hd,hm.tail.tail.arr.right hd,hm.tail.tail.tail.arr.right hd,trivial⟩) ai) ?_;rintro _ _ ⟨rD,rI,rfl,rfl⟩;rw [ME];refine U 8 ?_;exact S.pw (ih (i+1) ((rD,rI)) ai ai)
 ·clear ih
  have hi:i=x.2.2.2.1.length:=by omega
  subst hi;rw [List.take_length];generalize gm:kS x++iM x.2.2.2.1=jv;have iP:jv.length≤2000:=by rw [← gm,cI,FE];omega
  have iA:[jv,[kM x.2.2.2.2.1],bytesOf x.2.2.2.2.2.1].flatten=fY x:=by rw [← gm];simp [kS,fY]
  have hrl:(fY x).length≤100000:=by rw [DI];omega
  refine U 4 ?_;refine O.nil (S.seq (S.seq ?_))
  cases g4:x.2.2.2.2.1 with
  |false =>
   rw [g4] at iA;refine U 3 ?_;refine O.aB 51 rfl (by exact g4) ?_;refine U 7 ?_;refine O.aD (.p rfl) (.bw (T:=ag.u8) (ys:=[kM false]) underlying22 cP aq rfl rfl ⟨rfl,trivial⟩ aq) ?_;rintro _ _ ⟨ix,iy,rfl,rfl⟩;refine U 2 ?_;refine O.aN (.p rfl) rfl af rfl rfl (lX bq bl) ?_;rintro _ _ ⟨rE,rJ,rfl,rfl⟩;refine O.aD (.p rfl) (.bw (T:=ag.val) (ys:=[_,_,_]) underlying28 dH aq rfl rfl ⟨⟨rfl,rfl⟩,⟨rfl,rfl⟩,⟨rfl,rfl⟩,trivial⟩ aq) ?_;rintro _ _ ⟨BS,Ca,rfl,rfl⟩;refine O.dh (.p rfl) rfl af rfl rfl (bs:=[ak ag.val 22 (.slice BS 3 Ca) [.slice q.1 jv.length q.2,.slice ix 1 iy,.slice rE (bytesOf x.2.2.2.2.2.1).length rJ],ak ag.u8 5 (.slice q.1 jv.length q.2) jv,ak ag.u8 5 (.slice ix 1 iy) [kM false],ak ag.u8 5 (.slice rE (bytesOf x.2.2.2.2.2.1).length rJ) (bytesOf x.2.2.2.2.2.1)]) ct (fun m hm hd=>kT (xss:=[jv,[kM false],bytesOf x.2.2.2.2.2.1]) ((hm.arr.right hd).rows ⟨hm.tail.arr.right hd,hm.tail.tail.arr.right hd,hm.tail.tail.tail.arr.right hd,trivial⟩) (by rw [iA];omega)) ?_;rintro _ _ ⟨zn,zC,rfl,rfl⟩;rw [iA];refine U 2 ?_;exact S.rt results224 rfl hR ⟨zn,zC,rfl,rfl⟩
  |true =>
   rw [g4] at iA;refine U 3 ?_;refine O.sT 51 rfl (by exact g4) ?_;refine U 9 ?_;refine O.aD (.p rfl) (.bw (T:=ag.u8) (ys:=[kM true]) underlying22 cP aq rfl rfl ⟨rfl,trivial⟩ aq) ?_;rintro _ _ ⟨ix,iy,rfl,rfl⟩;refine U 2 ?_;refine O.aN (.p rfl) rfl af rfl rfl (lX bq bl) ?_;rintro _ _ ⟨rE,rJ,rfl,rfl⟩;refine O.aD (.p rfl) (.bw (T:=ag.val) (ys:=[_,_,_]) underlying28 dH aq rfl rfl ⟨⟨rfl,rfl⟩,⟨rfl,rfl⟩,⟨rfl,rfl⟩,trivial⟩ aq) ?_;rintro _ _ ⟨BS,Ca,rfl,rfl⟩;refine O.dh (.p rfl) rfl af rfl rfl (bs:=[ak ag.val 22 (.slice BS 3 Ca) [.slice q.1 jv.length q.2,.slice ix 1 iy,.slice rE (bytesOf x.2.2.2.2.2.1).length rJ],ak ag.u8 5 (.slice q.1 jv.length q.2) jv,ak ag.u8 5 (.slice ix 1 iy) [kM true],ak ag.u8 5 (.slice rE (bytesOf x.2.2.2.2.2.1).length rJ) (bytesOf x.2.2.2.2.2.1)]) ct (fun m hm hd=>kT (xss:=[jv,[kM true],bytesOf x.2.2.2.2.2.1]) ((hm.arr.right hd).rows ⟨hm.tail.arr.right hd,hm.tail.tail.arr.right hd,hm.tail.tail.tail.arr.right hd,trivial⟩) (by rw [iA];omega)) ?_;rintro _ _ ⟨zn,zC,rfl,rfl⟩;rw [iA];refine U 2 ?_;exact S.rt results224 rfl hR ⟨zn,zC,rfl,rfl⟩
theorem OR {r:Fr} {cs:List Value} {x:aV} (h:bu.rel r cs x) :
  aj prog 131 #[.agg cs.toArray] r [] (aF fun v aa=>∃ a c,v=.tuple #[.slice a (iU x).length c,.int .i64 (lW x)]∧aa=[ak ag.u8 5 (.slice a (iU x).length c) (iU x)]):=by
 obtain ⟨dM,je,iF,dN,jf,iG,rfl,k0,k1,k2,aI,cv,bV⟩:=bu.sh h;refine aj.o func131 fun g hg R hR=>?_;have h:=h.mono hg;have bV:=bV.mono hg;refine S.seq<|S.region rfl<|O.aD (.p rfl) (.box (cs:=[_,_,_,_,_,_,_]) rfl rfl) ?_;rintro _ _ ⟨b1,rfl,rfl⟩;refine U 5 ?_;refine S.cy an fun g hs hm cK=>?_;replace hg:=bf hg hs;replace hR:=a_ hR hm
 try replace h:=h.mono hs
 try replace bV:=bV.mono hs
 clear hs hm
 cases e:fF x with
 |false =>
  have e1:iU x=[]:=by simp [iU,e]
  have e2:lW x=4:=by simp [lW,e]
  rw [e1,e2] at hR;refine S.region rfl<|O.op (.p rfl) (.aJ isAgg118 af rfl cK) ?_;refine O.v0 (.p rfl) rfl af rfl rfl ((wS h)) ?_;refine O.aB 5 rfl (by exact e) ?_;refine U 8 ?_;refine S.l_ (T:=ag.u8) (e:=5) ?_;refine S.kA results131 rfl rfl fun w hw=>ax.end_ hR hw ?_;exact pk ⟨none,0,rfl,rfl⟩
 |true =>
  have e1:iU x=cm x:=by simp [iU,e]
  have e2:lW x=0:=by simp [lW,e]
  rw [e1,e2] at hR;have hs:=(DH.1 e).1;have pP:=q3 e;have tE:=JD hs;have hfl:[fY x,x.2.2.2.2.2.2.1].flatten=cm x:=by simp [cm]
  refine S.region rfl<|O.op (.p rfl) (.aJ isAgg118 af rfl cK) ?_;refine O.v0 (.p rfl) rfl af rfl rfl ((wS h)) ?_;refine O.sT 5 rfl (by exact e)<|U 5 ?_;refine S.aY (L:=[0,2,3,1,4,5,6,7]) F.mixed af<|.quiet (.p rfl) rfl (fun _=>.aJ isAgg118 af rfl cK) ?_;refine U 2 ?_;refine ah.aN (.p rfl) af rfl af rfl rfl ((aaE h hs)) ?_;rintro _ _ ⟨a8,bk,rfl,rfl⟩;refine ah.bw (T:=ag.val) (ys:=[_,_]) (.p rfl) af underlying28 dH aq rfl rfl ⟨⟨rfl,rfl⟩,⟨rfl,rfl⟩,trivial⟩ aq (fun cQ bG=>?_);refine ah.dh (.p rfl) af rfl af rfl rfl (bs:=[ak ag.val 22 (.slice cQ 2 bG) [.slice a8 (fY x).length bk,.slice iF x.2.2.2.2.2.2.1.length iG],ak ag.u8 5 (.slice a8 (fY x).length bk) (fY x)]) ct (fun m hm hd=>kT (xss:=[fY x,x.2.2.2.2.2.2.1]) ((hm.arr.right hd).rows ⟨hm.tail.arr.right hd,bV.left,trivial⟩) (by rw [hfl];omega)) ?_;rintro _ _ ⟨cR,bD,rfl,rfl⟩;rw [hfl];refine ah.q 2 rfl<|bt.nil<|S.kA results131 rfl rfl fun w hw=>ax.end_ hR hw ?_;exact pk ⟨cR,bD,rfl,rfl⟩
end Go.Proofs.YtdjoggpacmpfnaaGreatDoor
