/- Texts of this proof. -/
import Derived.Test.YtodhbhanmdfdeaaGreatQEvid1
import Derived.Test.YtodhbhanmdfdeaaGreatQSpJoin
open Go Go.Sp Go.Proofs.Tryz
set_option maxRecDepth 100000
set_option maxHeartbeats 1000000
attribute [local irreducible] obj Own OwnP
namespace Go.Proofs.YtodhbhanmdfdeaaGreat
abbrev ItP:Type:=List Value × RecT
def eqP (p q:ItP):Bool:=eqDot p.2 q.2
theorem compF_small {α:Type} {eq:α→α→Bool} {l:List α} (h:l.length≤1):compF eq none l=l:=by
 match l,h with
 |[],_=>rfl
 |[x],_=>rfl
theorem compF_at {α:Type} (eq:α→α→Bool) {l:List α} {i:Nat} (hi:i<l.length) (h0:0<i):compF eq none (l.take (i+1))=compF eq none (l.take i)++if eq l[i] (l[i-1]'zD) then [] else [l[i]]:=by
 rw [List.take_succ_eq_append_getElem hi,compF_snoc];have e:(l.take i).getLast?=some (l[i-1]'zD):=by
  rw [List.getLast?_eq_getElem?,List.length_take,Nat.min_eq_left zD,List.getElem?_take_of_lt zD,List.getElem?_eq_getElem zD]
 rw [e]
 rfl
theorem drop_getJ {α:Type} {l m:List α} {j i:Nat} (h:l.drop j=m.drop j) (hj:j≤i) (hi:i<l.length) (hm:i<m.length):l[i]=m[i]:=by
 have h1:(l.drop j)[i - j]?=(m.drop j)[i - j]?:=by rw [h]
 rw [List.getElem?_drop,List.getElem?_drop,show j+(i - j)=i by omega,List.getElem?_eq_getElem hi,List.getElem?_eq_getElem hm] at h1;exact Option.some.inj h1
theorem it_all2 {h:Fr}:∀ {ps:List ItP},(∀ p∈ps,ItRp.rel h p.1 p.2)→All2 (ItRp.rel h) (ps.map (·.1)) (ps.map (·.2))
 |[],_=>trivial
 |_::_,q=>⟨q _ List.mem_cons_self,it_all2 fun p hp=>q p (List.mem_cons_of_mem _ hp)⟩
theorem joinCmp_c {r:Fr} {cs ds:List Value} {x y:RecT} (h:ItRp.rel r cs x) (h' :ItRp.rel r ds y):Con prog 206 #[.agg cs.toArray,.agg ds.toArray] r [] (Ret fun v η=>v=.int .i64 (cmpIt x y)∧η=[]):=by
 obtain ⟨xa3,xa5,xa6,xa7,xc3,xc5,xc6,xc7,rfl,_,hxb⟩:=ItRp.sh h;obtain ⟨ya3,ya5,ya6,ya7,yc3,yc5,yc6,yc7,rfl,_,hyb⟩:=ItRp.sh h';refine Con.o func206 fun g hg R hR=>?_;have hc1:=cmpR_in x y;have hc2:=compareBytes_in (recB x) (recB y);have h:=h.mono hg;have h' :=h'.mono hg;have hxb:=hxb.mono hg;have hyb:=hyb.mono hg;refine S.seq<|S.region rfl<|O.opE (.p rfl) (.box (cs:=[_,_,_,_,_,_,_,_]) rfl rfl) ?_;rintro _ _ ⟨b2,rfl,rfl⟩;refine O.opE (.p rfl) (.box (cs:=[_,_,_,_,_,_,_,_]) rfl rfl) ?_;rintro _ _ ⟨b3,rfl,rfl⟩;refine zz 3 ?_;refine S.frzO zB fun g hs hm hb3=>?_;replace hg:=Fr.sub_trans hg hs;replace hR:=melted hR hm
 try replace h:=h.mono hs
 try replace h' :=h'.mono hs
 try replace hxb:=hxb.mono hs
 try replace hyb:=hyb.mono hs
 clear hs hm;refine S.frzO zB fun g hs hm hb2=>?_;replace hg:=Fr.sub_trans hg hs;replace hR:=melted hR hm
 try replace h:=h.mono hs
 try replace h' :=h'.mono hs
 try replace hxb:=hxb.mono hs
 try replace hyb:=hyb.mono hs
 try replace hb3:=hb3.mono hs
 clear hs hm;refine S.regionD (L:=[0,1,3,4,5,6,2,7,8,9,10]) F.mixed zC ?_;refine .quiet (.p rfl) rfl (fun _=>.loadAgg isAgg158 zC rfl hb2) ?_;refine .quiet (.p rfl) rfl (fun _=>.loadAgg isAgg158 zC rfl hb3) ?_;refine zz 4 ?_;refine OD.v0 (.p rfl) zC rfl zC rfl rfl (scompare_c h h') ?_;refine OD.v0 (.p rfl) zC rfl zC rfl rfl (bcompare_c hxb hyb) ?_;refine OD.litP (T:=Rp.i64) (ys:=[_,_]) (.p rfl) zC underlying25 elem3 zE rfl rfl ⟨⟨rfl,by first|assumption|(constructor<;>omega)⟩,⟨rfl,by first|assumption|(constructor<;>omega)⟩,trivial⟩ zE (fun a13 c13=>?_);refine OD.callS (.p rfl) zC rfl zC rfl rfl zB cmpOr_d ?_;rintro _ _ ⟨rfl,rfl⟩;refine OD.q 1 rfl<|ODx.nil<|S.ret results206 rfl fun w hw=>Holds.end_ hR hw ?_;refine ⟨_,⟨congrArg _ ?_,rfl⟩,by repeat (first|exact zpa|exact zpn|(apply zpc;focus (repeat (first|exact zh|apply zt)))|apply zps)⟩;unfold cmpIt firstNZ firstNZ firstNZ
 split
 ·rfl
 ·split
  ·rfl
  ·rename_i h2;exact (Classical.not_not.1 h2).symm
theorem joinEq_c {r:Fr} {cs ds:List Value} {x y:RecT} (h:ItRp.rel r cs x) (h' :ItRp.rel r ds y):Con prog 211 #[.agg cs.toArray,.agg ds.toArray] r [] (Ret fun v η=>v=.bool (eqDot x y)∧η=[]):=by
 obtain ⟨xa3,xa5,xa6,xa7,xc3,xc5,xc6,xc7,rfl,_,hxb⟩:=ItRp.sh h;obtain ⟨ya3,ya5,ya6,ya7,yc3,yc5,yc6,yc7,rfl,_,hyb⟩:=ItRp.sh h';refine Con.o func211 fun g hg R hR=>?_;have hc1:=cmpR_in x y;have h:=h.mono hg;have h' :=h'.mono hg;refine S.seq<|S.region rfl<|O.opE (.p rfl) (.box (cs:=[_,_,_,_,_,_,_,_]) rfl rfl) ?_;rintro _ _ ⟨b2,rfl,rfl⟩;refine O.opE (.p rfl) (.box (cs:=[_,_,_,_,_,_,_,_]) rfl rfl) ?_;rintro _ _ ⟨b3,rfl,rfl⟩;refine zz 3 ?_;refine S.frzO zB fun g hs hm hb3=>?_;replace hg:=Fr.sub_trans hg hs;replace hR:=melted hR hm
 try replace h:=h.mono hs
 try replace h' :=h'.mono hs
 clear hs hm;refine S.frzO zB fun g hs hm hb2=>?_;replace hg:=Fr.sub_trans hg hs;replace hR:=melted hR hm
 try replace h:=h.mono hs
 try replace h' :=h'.mono hs
 try replace hb3:=hb3.mono hs
 clear hs hm;refine S.region rfl<|O.op (.p rfl) (.loadAgg isAgg158 zC rfl hb2) ?_;refine O.op (.p rfl) (.loadAgg isAgg158 zC rfl hb3) ?_;refine O.v0 (.p rfl) rfl zC rfl rfl (scompare_c h h') ?_;refine zz 3 ?_;exact S.rt results211 rfl hR ⟨rfl,rfl⟩
def layF_ren:Go.Shelf.Ren:=⟨fun|6=>205|15=>280|14=>279|28=>320|29=>321|20=>312|21=>313|22=>314|23=>315|24=>316|25=>317|26=>318|27=>319|46=>331|47=>332|48=>333|49=>334|50=>335|57=>338|n=>n,fun|22=>146|24=>158|25=>241|3=>3|39=>57|0=>0|53=>261|55=>195|4=>4|46=>355|45=>354|50=>340|5=>5|9=>9|66=>367|70=>371|76=>374|77=>375|n=>n,fun|n=>n⟩
theorem layF:Go.Proofs.SlLaysF0.n6 prog layF_ren where
 mixed:=by kernel_rfl
 f6 := ⟨ "slices.SortFunc[[]buttress/sibling.item,buttress/sibling.item]", by decide, func205.trans (congrArg some zC)⟩
 f14 := ⟨ "slices.pdqsortCmpFunc[buttress/sibling.item]", by decide, func279.trans (congrArg some zC)⟩
 f15:=func280.trans (congrArg some zC)
 f20 := ⟨ "slices.insertionSortCmpFunc[buttress/sibling.item]", by decide, func312.trans (congrArg some zC)⟩
 f21 := ⟨ "slices.heapSortCmpFunc[buttress/sibling.item]", by decide, func313.trans (congrArg some zC)⟩
 f22 := ⟨ "slices.breakPatternsCmpFunc[buttress/sibling.item]", by decide, func314.trans (congrArg some zC)⟩
 f23 := ⟨ "slices.choosePivotCmpFunc[buttress/sibling.item]", by decide, func315.trans (congrArg some zC)⟩
 f24 := ⟨ "slices.reverseRangeCmpFunc[buttress/sibling.item]", by decide, func316.trans (congrArg some zC)⟩
 f25 := ⟨ "slices.partialInsertionSortCmpFunc[buttress/sibling.item]", by decide, func317.trans (congrArg some zC)⟩
 f26 := ⟨ "slices.partitionEqualCmpFunc[buttress/sibling.item]", by decide, func318.trans (congrArg some zC)⟩
 f27 := ⟨ "slices.partitionCmpFunc[buttress/sibling.item]", by decide, func319.trans (congrArg some zC)⟩
 f28:=func320.trans (congrArg some zC)
 f29:=func321.trans (congrArg some zC)
 f46 := ⟨ "slices.siftDownCmpFunc[buttress/sibling.item]", by decide, func331.trans (congrArg some zC)⟩
 f47:=func332.trans (congrArg some zC)
 f48:=func333.trans (congrArg some zC)
 f49 := ⟨ "slices.medianAdjacentCmpFunc[buttress/sibling.item]", by decide, func334.trans (congrArg some zC)⟩
 f50 := ⟨ "slices.medianCmpFunc[buttress/sibling.item]", by decide, func335.trans (congrArg some zC)⟩
 f57 := ⟨ "slices.order2CmpFunc[buttress/sibling.item]", by decide, func338.trans (congrArg some zC)⟩
 t0:=underlying0
 a0:=isAgg0
 z0:=Tryz.sizeOf0
 v0:=zeroValue0
 t3:=underlying3
 a3:=isAgg3
 z3:=Tryz.sizeOf3
 v3:=zeroValue3
 t4:=underlying4
 a4:=isAgg4
 z4:=Tryz.sizeOf4
 v4:=zeroValue4
 t5:=underlying5
 a5:=isAgg5
 z5:=Tryz.sizeOf5
 v5:=zeroValue5
 t9:=underlying9
 a9:=isAgg9
 z9:=Tryz.sizeOf9
 v9:=zeroValue9
 t22:=underlying146
 a22:=isAgg146
 z22:=Tryz.sizeOf146
 v22:=zeroValue146
 t25:=underlying241
 a25:=isAgg241
 z25:=Tryz.sizeOf241
 v25:=zeroValue241
 t39:=underlying57
 a39:=isAgg57
 z39:=Tryz.sizeOf57
 v39:=zeroValue57
 t45:=underlying354
 a45:=isAgg354
 z45:=Tryz.sizeOf354
 v45:=zeroValue354
 t46:=underlying355
 a46:=isAgg355
 z46:=Tryz.sizeOf355
 v46:=zeroValue355
 t50:=underlying340
 a50:=isAgg340
 z50:=Tryz.sizeOf340
 v50:=zeroValue340
 t53:=underlying261
 a53:=isAgg261
 z53:=Tryz.sizeOf261
 v53:=zeroValue261
 t55:=underlying195
 a55:=isAgg195
 z55:=Tryz.sizeOf195
 v55:=zeroValue195
 t66:=underlying367
 a66:=isAgg367
 z66:=Tryz.sizeOf367
 v66:=zeroValue367
 t70:=underlying371
 a70:=isAgg371
 z70:=Tryz.sizeOf371
 v70:=zeroValue371
 t76:=underlying374
 a76:=isAgg374
 z76:=Tryz.sizeOf374
 v76:=zeroValue374
 t77:=underlying375
 a77:=isAgg375
 z77:=Tryz.sizeOf375
 v77:=zeroValue375
end Go.Proofs.YtodhbhanmdfdeaaGreat
