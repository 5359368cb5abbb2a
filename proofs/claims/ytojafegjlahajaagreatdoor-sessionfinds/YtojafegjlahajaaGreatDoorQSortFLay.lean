/- Texts of this proof. -/
import Derived.Test.YtojafegjlahajaaGreatDoorQEvid1
import Derived.Test.YtojafegjlahajaaGreatDoorQSpJoin
open Go Go.Sp Go.Proofs.Tryz
set_option maxRecDepth 100000
set_option maxHeartbeats 1000000
attribute [local irreducible] obj Own av
namespace Go.Proofs.YtojafegjlahajaaGreatDoor
abbrev hU:Type:=List Value × aP
def kE (p q:hU):Bool:=tg p.2 q.2
theorem HE {α:Type} {eq:α→α→Bool} {l:List α} (h:l.length≤1):ey eq none l=l:=by
 match l,h with
 |[],_=>rfl
 |[x],_=>rfl
theorem HC {α:Type} (eq:α→α→Bool) {l:List α} {i:Nat} (hi:i<l.length) (h0:0<i):ey eq none (l.take (i+1))=ey eq none (l.take i)++if eq l[i] (l[i-1]'ah) then [] else [l[i]]:=by
 rw [List.take_succ_eq_append_getElem hi,HF];have e:(l.take i).getLast?=some (l[i-1]'ah):=by
  rw [List.getLast?_eq_getElem?,List.length_take,Nat.min_eq_left ah,List.getElem?_take_of_lt ah,List.getElem?_eq_getElem ah]
 rw [e]
 rfl
theorem CL {α:Type} {l m:List α} {j i:Nat} (h:l.drop j=m.drop j) (hj:j≤i) (hi:i<l.length) (hm:i<m.length):l[i]=m[i]:=by
 have h1:(l.drop j)[i - j]?=(m.drop j)[i - j]?:=by rw [h]
 rw [List.getElem?_drop,List.getElem?_drop,show j+(i - j)=i by omega,List.getElem?_eq_getElem hi,List.getElem?_eq_getElem hm] at h1;exact Option.some.inj h1
theorem ua {h:Fr}:∀ {ps:List hU},(∀ p∈ps,bO.rel h p.1 p.2)→b5 (bO.rel h) (ps.map (·.1)) (ps.map (·.2))
 |[],_=>trivial
 |_::_,q=>⟨q _ List.mem_cons_self,ua fun p hp=>q p (List.mem_cons_of_mem _ hp)⟩
theorem SX {r:Fr} {cs ds:List Value} {x y:aP} (h:bO.rel r cs x) (h' :bO.rel r ds y):ay prog 307 #[.agg cs.toArray,.agg ds.toArray] r [] (aL fun v U=>v=.int .i64 (lT x y)∧U=[]):=by
 obtain ⟨iH,pV,oJ,Bv,iI,pW,oK,Bx,rfl,_,r5⟩:=bO.sh h;obtain ⟨uH,uI,uJ,BA,uK,uL,uM,BB,rfl,_,r6⟩:=bO.sh h';refine ay.of (n:=15) _ rfl func307 rfl rfl rfl fun g hg R hR=>?_;have hc1:=Hx x y;have qP:=Nx (cn x) (cn y);have h:=h.mono hg;have h' :=h'.mono hg;have r5:=r5.mono hg;have r6:=r6.mono hg;refine S.seq<|S.region rfl<|O.aN (.p rfl) (.box (cs:=[_,_,_,_,_,_,_,_]) rfl rfl) ?_;rintro _ _ ⟨b2,rfl,rfl⟩;refine O.aN (.p rfl) (.box (cs:=[_,_,_,_,_,_,_,_]) rfl rfl) ?_;rintro _ _ ⟨b3,rfl,rfl⟩;refine O.q 1 rfl<|O.nil<|S.seq<|S.de ai fun g hs hm e7=>?_;replace hg:=Fr.aI hg hs;replace hR:=bu hR hm
 try replace h:=h.mono hs
 try replace h' :=h'.mono hs
 try replace r5:=r5.mono hs
 try replace r6:=r6.mono hs
 clear hs hm;refine S.de ai fun g hs hm ix=>?_;replace hg:=Fr.aI hg hs;replace hR:=bu hR hm
 try replace h:=h.mono hs
 try replace h' :=h'.mono hs
 try replace r5:=r5.mono hs
 try replace r6:=r6.mono hs
 try replace e7:=e7.mono hs
 clear hs hm;refine S.bC (L:=[0,1,3,4,5,6,2,7,8,9,10]) bz aa ?_;refine .quiet (.p rfl) rfl (fun _=>.bE isAgg220 aa rfl ix) ?_;refine .quiet (.p rfl) rfl (fun _=>.bE isAgg220 aa rfl e7) ?_;refine .quiet (.p rfl) rfl (fun _=>.fieldAddr zD rfl)<|.quiet (.p rfl) rfl (fun _=>.loadAt bl rfl (ix.drop 7) rfl) ?_;refine .quiet (.p rfl) rfl (fun _=>.fieldAddr zD rfl)<|.quiet (.p rfl) rfl (fun _=>.loadAt bl rfl (e7.drop 7) rfl) ?_;refine af.aC (.p rfl) aa rfl aa rfl rfl (uz h h') ?_;rintro _ _ ⟨rfl,rfl⟩
 try simp only [an,aq,au]
 refine af.aC (.p rfl) aa rfl aa rfl rfl (MO r5 r6) ?_;rintro _ _ ⟨rfl,rfl⟩
 try simp only [an,aq,au]
 refine af.cA (T:=ag.i64) (ys:=[_,_]) (.p rfl) aa underlying104 wT aB rfl rfl ⟨⟨rfl,by first|assumption|(constructor<;>omega)⟩,⟨rfl,by first|assumption|(constructor<;>omega)⟩,trivial⟩ aB (fun iM iQ=>?_);refine af.bM (.p rfl) aa rfl aa rfl rfl ai Hw ?_;rintro _ _ ⟨rfl,rfl⟩
 try simp only [an,aq,au]
 refine af.q 1 rfl<|aJ.nil<|S.ret results307 rfl fun w hw=>Holds.end_ hR hw ?_;refine ⟨_,⟨congrArg _ ?_,rfl⟩,by repeat (first|exact aS|exact aU|(apply aT;focus (repeat (first|exact aR|apply zt)))|apply aV)⟩;unfold lT ny ny ny
 split
 ·rfl
 ·split
  ·rfl
  ·rename_i h2;exact (Classical.not_not.1 h2).symm
theorem Am {r:Fr} {cs ds:List Value} {x y:aP} (h:bO.rel r cs x) (h' :bO.rel r ds y):ay prog 310 #[.agg cs.toArray,.agg ds.toArray] r [] (aL fun v U=>v=.bool (tg x y)∧U=[]):=by
 obtain ⟨iH,pV,oJ,Bv,iI,pW,oK,Bx,rfl,_,r5⟩:=bO.sh h;obtain ⟨uH,uI,uJ,BA,uK,uL,uM,BB,rfl,_,r6⟩:=bO.sh h';refine ay.of (n:=9) _ rfl func310 rfl rfl rfl fun g hg R hR=>?_;have hc1:=Hx x y;have h:=h.mono hg;have h' :=h'.mono hg;refine S.seq<|S.region rfl<|O.aN (.p rfl) (.box (cs:=[_,_,_,_,_,_,_,_]) rfl rfl) ?_;rintro _ _ ⟨b2,rfl,rfl⟩;refine O.aN (.p rfl) (.box (cs:=[_,_,_,_,_,_,_,_]) rfl rfl) ?_;rintro _ _ ⟨b3,rfl,rfl⟩;refine O.q 1 rfl<|O.nil<|S.seq<|S.de ai fun g hs hm e7=>?_;replace hg:=Fr.aI hg hs;replace hR:=bu hR hm
 try replace h:=h.mono hs
 try replace h' :=h'.mono hs
 clear hs hm;refine S.de ai fun g hs hm ix=>?_;replace hg:=Fr.aI hg hs;replace hR:=bu hR hm
 try replace h:=h.mono hs
 try replace h' :=h'.mono hs
 try replace e7:=e7.mono hs
 clear hs hm;refine S.region rfl<|O.op (.p rfl) (.bE isAgg220 aa rfl ix) ?_;refine O.op (.p rfl) (.bE isAgg220 aa rfl e7) ?_;refine O.aC (.p rfl) rfl aa rfl rfl (uz h h') ?_;rintro _ _ ⟨rfl,rfl⟩
 try simp only [an,aq,au]
 refine O.op (.p rfl) (.eql rfl rfl)<|O.q 1 rfl<|O.nil ?_;exact S.rt results310 rfl hR ⟨rfl,rfl⟩
def Ti:Go.Shelf.Ren:=⟨fun|6=>306|15=>341|14=>340|28=>366|29=>367|20=>358|21=>359|22=>360|23=>361|24=>362|25=>363|26=>364|27=>365|46=>384|47=>385|48=>386|49=>387|50=>388|57=>396|n=>n,fun|22=>216|24=>220|25=>294|3=>3|39=>197|0=>0|53=>317|55=>274|4=>4|46=>431|45=>430|50=>154|5=>5|9=>9|66=>452|70=>456|76=>464|77=>465|n=>n,fun|n=>n⟩
theorem JO:Go.Proofs.SlLaysF0.n6 prog Ti where
 mixed:=by kernel_rfl
 f6 := ⟨ "slices.SortFunc[[]buttress/sibling.item,buttress/sibling.item]", by decide, func306.trans (congrArg some aa)⟩
 f14 := ⟨ "slices.pdqsortCmpFunc[buttress/sibling.item]", by decide, func340.trans (congrArg some aa)⟩
 f15:=func341.trans (congrArg some aa)
 f20 := ⟨ "slices.insertionSortCmpFunc[buttress/sibling.item]", by decide, func358.trans (congrArg some aa)⟩
 f21 := ⟨ "slices.heapSortCmpFunc[buttress/sibling.item]", by decide, func359.trans (congrArg some aa)⟩
 f22 := ⟨ "slices.breakPatternsCmpFunc[buttress/sibling.item]", by decide, func360.trans (congrArg some aa)⟩
 f23 := ⟨ "slices.choosePivotCmpFunc[buttress/sibling.item]", by decide, func361.trans (congrArg some aa)⟩
 f24 := ⟨ "slices.reverseRangeCmpFunc[buttress/sibling.item]", by decide, func362.trans (congrArg some aa)⟩
 f25 := ⟨ "slices.partialInsertionSortCmpFunc[buttress/sibling.item]", by decide, func363.trans (congrArg some aa)⟩
 f26 := ⟨ "slices.partitionEqualCmpFunc[buttress/sibling.item]", by decide, func364.trans (congrArg some aa)⟩
 f27 := ⟨ "slices.partitionCmpFunc[buttress/sibling.item]", by decide, func365.trans (congrArg some aa)⟩
 f28:=func366.trans (congrArg some aa)
 f29:=func367.trans (congrArg some aa)
 f46 := ⟨ "slices.siftDownCmpFunc[buttress/sibling.item]", by decide, func384.trans (congrArg some aa)⟩
 f47:=func385.trans (congrArg some aa)
 f48:=func386.trans (congrArg some aa)
 f49 := ⟨ "slices.medianAdjacentCmpFunc[buttress/sibling.item]", by decide, func387.trans (congrArg some aa)⟩
 f50 := ⟨ "slices.medianCmpFunc[buttress/sibling.item]", by decide, func388.trans (congrArg some aa)⟩
 f57 := ⟨ "slices.order2CmpFunc[buttress/sibling.item]", by decide, func396.trans (congrArg some aa)⟩
 t0:=underlying0
 a0:=isAgg0
 z0:=Tryz.sizeOf0
 v0:=zeroValue0
 t3:=underlying3
 a3:=isAgg3
 z3:=Tryz.sizeOf3
 v3:=zeroValue3
 t4:=underlying4
 a4:=isAgg4
 z4:=Tryz.sizeOf4
 v4:=zeroValue4
 t5:=underlying5
 a5:=isAgg5
 z5:=Tryz.sizeOf5
 v5:=zeroValue5
 t9:=underlying9
 a9:=isAgg9
 z9:=Tryz.sizeOf9
 v9:=zeroValue9
 t22:=underlying216
 a22:=isAgg216
 z22:=Tryz.sizeOf216
 v22:=zeroValue216
 t25:=underlying294
 a25:=isAgg294
 z25:=Tryz.sizeOf294
 v25:=zeroValue294
 t39:=underlying197
 a39:=isAgg197
 z39:=Tryz.sizeOf197
 v39:=zeroValue197
 t45:=underlying430
 a45:=isAgg430
 z45:=Tryz.sizeOf430
 v45:=zeroValue430
 t46:=underlying431
 a46:=isAgg431
 z46:=Tryz.sizeOf431
 v46:=zeroValue431
 t50:=underlying154
 a50:=isAgg154
 z50:=Tryz.sizeOf154
 v50:=zeroValue154
 t53:=underlying317
 a53:=isAgg317
 z53:=Tryz.sizeOf317
 v53:=zeroValue317
 t55:=underlying274
 a55:=isAgg274
 z55:=Tryz.sizeOf274
 v55:=zeroValue274
 t66:=underlying452
 a66:=isAgg452
 z66:=Tryz.sizeOf452
 v66:=zeroValue452
 t70:=underlying456
 a70:=isAgg456
 z70:=Tryz.sizeOf456
 v70:=zeroValue456
 t76:=underlying464
 a76:=isAgg464
 z76:=Tryz.sizeOf464
 v76:=zeroValue464
 t77:=underlying465
 a77:=isAgg465
 z77:=Tryz.sizeOf465
 v77:=zeroValue465
end Go.Proofs.YtojafegjlahajaaGreatDoor
