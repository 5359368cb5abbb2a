/- Texts of this proof. -/
import Derived.Test.YtojafegjlahajaaGreatDoorQEvid1
import Derived.Test.YtojafegjlahajaaGreatDoorQSpJoin
open Go Go.Sp Go.Proofs.Tryz
set_option maxRecDepth 100000
set_option maxHeartbeats 1000000
attribute [local irreducible] obj Own OwnP
namespace Go.Proofs.YtojafegjlahajaaGreatDoor
abbrev ItP:Type:=List Value × RecT
def eqP (p q:ItP):Bool:=eqDot p.2 q.2
theorem compF_small {α:Type} {eq:α→α→Bool} {l:List α} (h:l.length≤1):compF eq none l=l:=by
 match l,h with
 |[],_=>rfl
 |[x],_=>rfl
theorem compF_at {α:Type} (eq:α→α→Bool) {l:List α} {i:Nat} (hi:i<l.length) (h0:0<i):compF eq none (l.take (i+1))=compF eq none (l.take i)++if eq l[i] (l[i-1]'zC) then [] else [l[i]]:=by
 rw [List.take_succ_eq_append_getElem hi,compF_snoc];have e:(l.take i).getLast?=some (l[i-1]'zC):=by
  rw [List.getLast?_eq_getElem?,List.length_take,Nat.min_eq_left zC,List.getElem?_take_of_lt zC,List.getElem?_eq_getElem zC]
 rw [e]
 rfl
theorem drop_getJ {α:Type} {l m:List α} {j i:Nat} (h:l.drop j=m.drop j) (hj:j≤i) (hi:i<l.length) (hm:i<m.length):l[i]=m[i]:=by
 have h1:(l.drop j)[i - j]?=(m.drop j)[i - j]?:=by rw [h]
 rw [List.getElem?_drop,List.getElem?_drop,show j+(i - j)=i by omega,List.getElem?_eq_getElem hi,List.getElem?_eq_getElem hm] at h1;exact Option.some.inj h1
theorem it_all2 {h:Fr}:∀ {ps:List ItP},(∀ p∈ps,ItRp.rel h p.1 p.2)→All2 (ItRp.rel h) (ps.map (·.1)) (ps.map (·.2))
 |[],_=>trivial
 |_::_,q=>⟨q _ List.mem_cons_self,it_all2 fun p hp=>q p (List.mem_cons_of_mem _ hp)⟩
theorem joinCmp_c {r:Fr} {cs ds:List Value} {x y:RecT} (h:ItRp.rel r cs x) (h' :ItRp.rel r ds y):Con prog 307 #[.agg cs.toArray,.agg ds.toArray] r [] (Ret fun v η=>v=.int .i64 (cmpIt x y)∧η=[]):=by
 obtain ⟨xa3,xa5,xa6,xa7,xc3,xc5,xc6,xc7,rfl,_,hxb⟩:=ItRp.sh h;obtain ⟨ya3,ya5,ya6,ya7,yc3,yc5,yc6,yc7,rfl,_,hyb⟩:=ItRp.sh h';refine Con.of (n:=15) _ rfl func307 rfl rfl rfl fun g hg R hR=>?_;have hc1:=cmpR_in x y;have hc2:=compareBytes_in (recB x) (recB y);have h:=h.mono hg;have h' :=h'.mono hg;have hxb:=hxb.mono hg;have hyb:=hyb.mono hg;refine S.seq<|S.region rfl<|O.opE (.p rfl) (.box (cs:=[_,_,_,_,_,_,_,_]) rfl rfl) ?_;rintro _ _ ⟨b2,rfl,rfl⟩;refine O.opE (.p rfl) (.box (cs:=[_,_,_,_,_,_,_,_]) rfl rfl) ?_;rintro _ _ ⟨b3,rfl,rfl⟩;refine O.q 1 rfl<|O.nil<|S.seq<|S.frzO zB fun g hs hm hb3=>?_;replace hg:=Fr.sub_trans hg hs;replace hR:=melted hR hm
 try replace h:=h.mono hs
 try replace h' :=h'.mono hs
 try replace hxb:=hxb.mono hs
 try replace hyb:=hyb.mono hs
 clear hs hm;refine S.frzO zB fun g hs hm hb2=>?_;replace hg:=Fr.sub_trans hg hs;replace hR:=melted hR hm
 try replace h:=h.mono hs
 try replace h' :=h'.mono hs
 try replace hxb:=hxb.mono hs
 try replace hyb:=hyb.mono hs
 try replace hb3:=hb3.mono hs
 clear hs hm;refine S.regionD (L:=[0,1,3,4,5,6,2,7,8,9,10]) mixedF zD ?_;refine .quiet (.p rfl) rfl (fun _=>.loadAgg isAgg220 zD rfl hb2) ?_;refine .quiet (.p rfl) rfl (fun _=>.loadAgg isAgg220 zD rfl hb3) ?_;refine .quiet (.p rfl) rfl (fun _=>.fieldAddr fld220x1 rfl)<|.quiet (.p rfl) rfl (fun _=>.loadAt flat24 rfl (hb2.drop 7) rfl) ?_;refine .quiet (.p rfl) rfl (fun _=>.fieldAddr fld220x1 rfl)<|.quiet (.p rfl) rfl (fun _=>.loadAt flat24 rfl (hb3.drop 7) rfl) ?_;refine OD.call0 (.p rfl) zD rfl zD rfl rfl (scompare_c h h') ?_;rintro _ _ ⟨rfl,rfl⟩
 try simp only [zx1,zx2,zx3]
 refine OD.call0 (.p rfl) zD rfl zD rfl rfl (bcompare_c hxb hyb) ?_;rintro _ _ ⟨rfl,rfl⟩
 try simp only [zx1,zx2,zx3]
 refine OD.litP (T:=Rp.i64) (ys:=[_,_]) (.p rfl) zD underlying104 elem3 zF rfl rfl ⟨⟨rfl,by first|assumption|(constructor<;>omega)⟩,⟨rfl,by first|assumption|(constructor<;>omega)⟩,trivial⟩ zF (fun a13 c13=>?_);refine OD.callS (.p rfl) zD rfl zD rfl rfl zB cmpOr_d ?_;rintro _ _ ⟨rfl,rfl⟩
 try simp only [zx1,zx2,zx3]
 refine OD.q 1 rfl<|ODx.nil<|S.ret results307 rfl fun w hw=>Holds.end_ hR hw ?_;refine ⟨_,⟨congrArg _ ?_,rfl⟩,by repeat (first|exact zpa|exact zpn|(apply zpc;focus (repeat (first|exact zh|apply zt)))|apply zps)⟩;unfold cmpIt firstNZ firstNZ firstNZ
 split
 ·rfl
 ·split
  ·rfl
  ·rename_i h2;exact (Classical.not_not.1 h2).symm
theorem joinEq_c {r:Fr} {cs ds:List Value} {x y:RecT} (h:ItRp.rel r cs x) (h' :ItRp.rel r ds y):Con prog 310 #[.agg cs.toArray,.agg ds.toArray] r [] (Ret fun v η=>v=.bool (eqDot x y)∧η=[]):=by
 obtain ⟨xa3,xa5,xa6,xa7,xc3,xc5,xc6,xc7,rfl,_,hxb⟩:=ItRp.sh h;obtain ⟨ya3,ya5,ya6,ya7,yc3,yc5,yc6,yc7,rfl,_,hyb⟩:=ItRp.sh h';refine Con.of (n:=9) _ rfl func310 rfl rfl rfl fun g hg R hR=>?_;have hc1:=cmpR_in x y;have h:=h.mono hg;have h' :=h'.mono hg;refine S.seq<|S.region rfl<|O.opE (.p rfl) (.box (cs:=[_,_,_,_,_,_,_,_]) rfl rfl) ?_;rintro _ _ ⟨b2,rfl,rfl⟩;refine O.opE (.p rfl) (.box (cs:=[_,_,_,_,_,_,_,_]) rfl rfl) ?_;rintro _ _ ⟨b3,rfl,rfl⟩;refine O.q 1 rfl<|O.nil<|S.seq<|S.frzO zB fun g hs hm hb3=>?_;replace hg:=Fr.sub_trans hg hs;replace hR:=melted hR hm
 try replace h:=h.mono hs
 try replace h' :=h'.mono hs
 clear hs hm;refine S.frzO zB fun g hs hm hb2=>?_;replace hg:=Fr.sub_trans hg hs;replace hR:=melted hR hm
 try replace h:=h.mono hs
 try replace h' :=h'.mono hs
 try replace hb3:=hb3.mono hs
 clear hs hm;refine S.region rfl<|O.op (.p rfl) (.loadAgg isAgg220 zD rfl hb2) ?_;refine O.op (.p rfl) (.loadAgg isAgg220 zD rfl hb3) ?_;refine O.call0 (.p rfl) rfl zD rfl rfl (scompare_c h h') ?_;rintro _ _ ⟨rfl,rfl⟩
 try simp only [zx1,zx2,zx3]
 refine O.op (.p rfl) (.eql rfl rfl)<|O.q 1 rfl<|O.nil ?_;exact S.rt results310 rfl hR ⟨rfl,rfl⟩
def layF_ren:Go.Shelf.Ren:=⟨fun|6=>306|15=>341|14=>340|28=>366|29=>367|20=>358|21=>359|22=>360|23=>361|24=>362|25=>363|26=>364|27=>365|46=>384|47=>385|48=>386|49=>387|50=>388|57=>396|n=>n,fun|22=>216|24=>220|25=>294|3=>3|39=>197|0=>0|53=>317|55=>274|4=>4|46=>431|45=>430|50=>154|5=>5|9=>9|66=>452|70=>456|76=>464|77=>465|n=>n,fun|n=>n⟩
theorem layF:Go.Proofs.SlLaysF0.n6 prog layF_ren where
 mixed:=by kernel_rfl
 f6 := ⟨ "slices.SortFunc[[]buttress/sibling.item,buttress/sibling.item]", by decide, func306.trans (congrArg some zD)⟩
 f14 := ⟨ "slices.pdqsortCmpFunc[buttress/sibling.item]", by decide, func340.trans (congrArg some zD)⟩
 f15:=func341.trans (congrArg some zD)
 f20 := ⟨ "slices.insertionSortCmpFunc[buttress/sibling.item]", by decide, func358.trans (congrArg some zD)⟩
 f21 := ⟨ "slices.heapSortCmpFunc[buttress/sibling.item]", by decide, func359.trans (congrArg some zD)⟩
 f22 := ⟨ "slices.breakPatternsCmpFunc[buttress/sibling.item]", by decide, func360.trans (congrArg some zD)⟩
 f23 := ⟨ "slices.choosePivotCmpFunc[buttress/sibling.item]", by decide, func361.trans (congrArg some zD)⟩
 f24 := ⟨ "slices.reverseRangeCmpFunc[buttress/sibling.item]", by decide, func362.trans (congrArg some zD)⟩
 f25 := ⟨ "slices.partialInsertionSortCmpFunc[buttress/sibling.item]", by decide, func363.trans (congrArg some zD)⟩
 f26 := ⟨ "slices.partitionEqualCmpFunc[buttress/sibling.item]", by decide, func364.trans (congrArg some zD)⟩
 f27 := ⟨ "slices.partitionCmpFunc[buttress/sibling.item]", by decide, func365.trans (congrArg some zD)⟩
 f28:=func366.trans (congrArg some zD)
 f29:=func367.trans (congrArg some zD)
 f46 := ⟨ "slices.siftDownCmpFunc[buttress/sibling.item]", by decide, func384.trans (congrArg some zD)⟩
 f47:=func385.trans (congrArg some zD)
 f48:=func386.trans (congrArg some zD)
 f49 := ⟨ "slices.medianAdjacentCmpFunc[buttress/sibling.item]", by decide, func387.trans (congrArg some zD)⟩
 f50 := ⟨ "slices.medianCmpFunc[buttress/sibling.item]", by decide, func388.trans (congrArg some zD)⟩
 f57 := ⟨ "slices.order2CmpFunc[buttress/sibling.item]", by decide, func396.trans (congrArg some zD)⟩
 t0:=underlying0
 a0:=isAgg0
 z0:=Tryz.sizeOf0
 v0:=zeroValue0
 t3:=underlying3
 a3:=isAgg3
 z3:=Tryz.sizeOf3
 v3:=zeroValue3
 t4:=underlying4
 a4:=isAgg4
 z4:=Tryz.sizeOf4
 v4:=zeroValue4
 t5:=underlying5
 a5:=isAgg5
 z5:=Tryz.sizeOf5
 v5:=zeroValue5
 t9:=underlying9
 a9:=isAgg9
 z9:=Tryz.sizeOf9
 v9:=zeroValue9
 t22:=underlying216
 a22:=isAgg216
 z22:=Tryz.sizeOf216
 v22:=zeroValue216
 t25:=underlying294
 a25:=isAgg294
 z25:=Tryz.sizeOf294
 v25:=zeroValue294
 t39:=underlying197
 a39:=isAgg197
 z39:=Tryz.sizeOf197
 v39:=zeroValue197
 t45:=underlying430
 a45:=isAgg430
 z45:=Tryz.sizeOf430
 v45:=zeroValue430
 t46:=underlying431
 a46:=isAgg431
 z46:=Tryz.sizeOf431
 v46:=zeroValue431
 t50:=underlying154
 a50:=isAgg154
 z50:=Tryz.sizeOf154
 v50:=zeroValue154
 t53:=underlying317
 a53:=isAgg317
 z53:=Tryz.sizeOf317
 v53:=zeroValue317
 t55:=underlying274
 a55:=isAgg274
 z55:=Tryz.sizeOf274
 v55:=zeroValue274
 t66:=underlying452
 a66:=isAgg452
 z66:=Tryz.sizeOf452
 v66:=zeroValue452
 t70:=underlying456
 a70:=isAgg456
 z70:=Tryz.sizeOf456
 v70:=zeroValue456
 t76:=underlying464
 a76:=isAgg464
 z76:=Tryz.sizeOf464
 v76:=zeroValue464
 t77:=underlying465
 a77:=isAgg465
 z77:=Tryz.sizeOf465
 v77:=zeroValue465
end Go.Proofs.YtojafegjlahajaaGreatDoor
