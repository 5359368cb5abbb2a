/- Texts of this proof. -/
import Derived.Test.YtodhbhanmdfdeaaGreatQGet8
import Derived.Test.YtodhbhanmdfdeaaGreatQSpRs4
open Go Go.Sp Go.Proofs.Tryz
set_option maxRecDepth 100000
set_option maxHeartbeats 1000000
attribute [local irreducible] obj Own OwnP
namespace Go.Proofs.YtodhbhanmdfdeaaGreat
theorem sequal_c {r:Fr} {va vb:Value} {xs ys:List UInt8} (ha:Arr Rp.u8 r va xs) (hb:Arr Rp.u8 r vb ys) :
  Con prog 92 #[va,vb] r [] (Ret fun v η=>v=.bool (decide (xs=ys))∧η=[]):=by
 refine Con.o func92 fun g hg R hR=>?_;have ha:=ha.mono hg;have hb:=hb.mono hg;have l1:=ha.bound;have l2:=hb.bound;obtain ⟨a1,c1,rfl⟩:=ha.shape;obtain ⟨a2,c2,rfl⟩:=hb.shape;refine zz 13 ?_;refine S.cd rfl (fun h10=>?_) fun h10=>?_
 ·refine zz 4 ?_
  refine S.ret results92 rfl fun w hw=>hR _ _ w ?_ hw;exact ⟨congrArg Value.bool (decide_eq_false (fun q=>h10 (by rw [q]))).symm,rfl⟩
 ·have h11:xs.length=ys.length:=by omega
  refine zz 9 ?_;refine S.loopK (ι:=Nat) (fun i=>i≤xs.length∧xs.take i=ys.take i) (fun i=>[(13,.int .i64 (i:Int))]) [(0,_),(1,_),(12,_)] (fun i=>[]) (fun i=>xs.length - i) (0) zW zq zq rfl fun i hx ih=>?_;have hm1:=meltRefl (g:=g);obtain ⟨hi,he⟩:=hx;refine zz 5 ?_;refine S.cd rfl (fun h14=>?_) fun h14=>?_
  ·have hlt:i<xs.length:=by omega
   refine zz 9 ?_;refine S.regionD (L:=.range 9) F.mixed zB ?_;refine zz 2 ?_;refine OD.ia (.p rfl) underlying31 size5 rfl rfl rfl zA (h:=fun p18 cs18 hp18 hr18=>?_)
   cases hr18
   refine zz 1 ?_;refine OD.q 2 rfl<|OD.ia (.p rfl) underlying31 size5 rfl rfl rfl zA (h:=fun p22 cs22 hp22 hr22=>?_)
   cases hr22
   refine zz 3 ?_;refine S.cd rfl (fun h24=>?_) fun h24=>?_
   ·refine zz 4 ?_
    refine S.ret results92 rfl fun w hw=>hR _ _ w ?_ hw;exact ⟨congrArg Value.bool (decide_eq_false (fun q=>by subst q;exact h24 rfl)).symm,rfl⟩
   ·refine zz 6 ?_
    exact S.wk (ih (i+1) (by (refine ⟨hlt,?_⟩;rw [List.take_succ_eq_append_getElem hlt,List.take_succ_eq_append_getElem zD,he];congr 2;exact UInt8.toNat_inj.1 zD)) zD)
  ·refine zz 5 ?_
   refine S.ret results92 rfl fun w hw=>hR _ _ w ?_ hw;refine ⟨congrArg Value.bool (decide_eq_true ?_).symm,rfl⟩;have:i=xs.length:=by omega
   subst this
   rwa [List.take_of_length_le (Nat.le_refl _),List.take_of_length_le zD] at he
abbrev heldV (v0 v1 v2 v3:Value):List Value:=[v0,v1,v2,v3]
abbrev heldWs (x:HeldT) (v0 v1 v2 v3:Value):List SProp:=[ListP (LeafG tys) 49 v0 x.1,ListP (RootG tys) 52 v1 x.2.1,ListP (EvdG tys) 55 v2 x.2.2.1,OwnP Rp.i64 3 v3 x.2.2.2.1]
def HeldK (b:List UInt8) (v:Value) (η:List SProp):Prop:=∃ x a0 c0 a1 c1 a2 c2 a3 c3,hGet b=some x∧v=.agg (heldV (.slice a0 x.1.length c0) (.slice a1 x.2.1.length c1) (.slice a2 x.2.2.1.length c2) (.slice a3 x.2.2.2.1.length c3)).toArray∧η=heldWs x (.slice a0 x.1.length c0) (.slice a1 x.2.1.length c1) (.slice a2 x.2.2.1.length c2) (.slice a3 x.2.2.2.1.length c3)
theorem hget1_c {r:Fr} {p:Nat} {va:Value} {b:List UInt8} (hp:At r ⟨p,0,none⟩ [va]) (ha:Arr Rp.u8 r va b) (hl:b.length≤1000000000) (hB:GetB b) :
  Con prog 80 (#[]++#[]++#[.pointer (some ⟨p,0,none⟩)]) r [] (RetP (fun v η=>HeldK b v η) (fun ch η=>∃ z,ch=errP 32 z∧(hGet b=none∧z=4)∧η=[])):=by
 refine Con.of (n:=36) [.pointer (some ⟨p,0,none⟩)] rfl func80 rfl rfl rfl fun g hg R hR=>?_;have hp:=hp.mono hg;have ha:=ha.mono hg;have hbd:=ha.bound;obtain ⟨ax,cx,rfl⟩:=ha.shape;refine S.seq<|S.region rfl<|O.opE (.p rfl) (.alloc (cs:=[.slice none 0 0,.slice none 0 0,.slice none 0 0,.slice none 0 0]) zeroValue27 rfl) ?_;rintro _ _ ⟨b1,rfl,rfl⟩;refine zz 4 ?_;refine O.call0 (.p rfl) rfl zB rfl rfl (rdNew_c zA zH) ?_;rintro _ _ ⟨b5,rfl,rfl⟩;refine O.op (.p rfl) (.build (cs:=[_]) underlying129 rfl rfl rfl rfl rfl)<|O.opE (.p rfl) (.alloc (cs:=[.pointer none]) zeroValue129 rfl) ?_;rintro _ _ ⟨b2,rfl,rfl⟩;refine zz 1 ?_;refine O.nil<|S.seq<|S.frzO zC fun g hs hm hb2=>?_;replace hg:=Fr.sub_trans hg hs;replace hR:=melted hR hm
 try replace hp:=hp.mono hs
 try replace ha:=ha.mono hs
 clear hs hm;refine S.regionD (L:=[0,1,2,4,5,6,8,9,10,12,13,14,15,3,7,11,16,17,18,19]) F.mixed zB ?_;refine .quiet (.p rfl) rfl (fun _=>.loadAgg isAgg129 zB rfl hb2) ?_;refine .quiet (.p rfl) rfl (fun _=>.loadAgg isAgg129 zB rfl hb2) ?_;refine .quiet (.p rfl) rfl (fun _=>.mkFunc rfl rfl)<|.quiet (.p rfl) rfl (fun _=>.loadAgg isAgg129 zB rfl hb2) ?_;refine .quiet (.p rfl) rfl (fun _=>.loadAgg isAgg129 zB rfl hb2) ?_;refine .quiet (.p rfl) rfl (fun _=>.mkFunc rfl rfl)<|.quiet (.p rfl) rfl (fun _=>.loadAgg isAgg129 zB rfl hb2) ?_;refine .quiet (.p rfl) rfl (fun _=>.loadAgg isAgg129 zB rfl hb2) ?_;refine .quiet (.p rfl) rfl (fun _=>.mkFunc rfl rfl)<|.quiet (.p rfl) rfl (fun _=>.loadAgg isAgg129 zB rfl hb2) ?_;refine zz 2 ?_;refine .quiet (.p rfl) rfl (fun _=>.mkFunc rfl rfl)<|OD.callPS (.p rfl) zB rfl zB rfl rfl zC (someL_c hl) (fun ch η' w hX hW=>by (obtain ⟨hb,rfl,rfl⟩:=hX;exact hR _ _ w ⟨4,rfl,⟨hGet_none (by simp [heldP,hb]),rfl⟩,rfl⟩ hW.drop_all)) ?_;rintro _ _ ⟨p0,a10,c10,e0,rfl,rfl⟩;have l0:p0.2.rest.length≤1000000000:=Nat.le_trans (rowP_len leafP_len e0) hl;refine OD.callPS (.p rfl) zB rfl zB rfl rfl zC (someR_c l0) (fun ch η' w hX hW=>by (obtain ⟨hb,rfl,rfl⟩:=hX;exact hR _ _ w ⟨4,rfl,⟨hGet_none (by simp [heldP,e0,hb]),rfl⟩,rfl⟩ hW.drop_all)) ?_;rintro _ _ ⟨p1,a14,c14,e1,rfl,rfl⟩
 have l1:p1.2.rest.length≤1000000000:=Nat.le_trans (rowP_len ownP_len e1) l0;refine OD.callPS (.p rfl) zB rfl zB rfl rfl zC (someE_c l1) (fun ch η' w hX hW=>by (obtain ⟨hb,rfl,rfl⟩:=hX;exact hR _ _ w ⟨4,rfl,⟨hGet_none (by simp [heldP,e0,e1,hb]),rfl⟩,rfl⟩ hW.drop_all)) ?_;rintro _ _ ⟨p2,a18,c18,e2,rfl,rfl⟩;have l2:p2.2.rest.length≤1000000000:=Nat.le_trans (rowP_len proofP_len e2) l1;refine OD.callPS (.p rfl) zB rfl zB rfl rfl zC (someN_c l2) (fun ch η' w hX hW=>by (obtain ⟨hb,rfl,rfl⟩:=hX;exact hR _ _ w ⟨4,rfl,⟨hGet_none (by simp [heldP,e0,e1,e2,hb]),rfl⟩,rfl⟩ hW.drop_all)) ?_;rintro _ _ ⟨p3,a23,c23,e3,rfl,rfl⟩;refine .quiet (.p rfl) rfl (fun _=>.build (cs:=[_,_,_,_]) underlying27 rfl rfl rfl rfl rfl)<|.lazy rfl zB rfl fun b3=>?_;refine OD.storeObj rfl zB zB rfl rfl rfl rfl zC zU ?_;refine zz 2 ?_;have eall:heldP ⟨true,b⟩=some ((p0.1,p1.1,p2.1,p3.1,()),p3.2):=by simp [heldP,e0,e1,e2,e3]
 refine S.frzO zC fun g hs hm hb3=>?_;replace hg:=Fr.sub_trans hg hs;replace hR:=melted hR hm
 try replace hp:=hp.mono hs
 try replace ha:=ha.mono hs
 try replace hb2:=hb2.mono hs
 clear hs hm
 cases ed:p3.2.done with
 |false =>
  have hno:hGet b=none:=hGet_not eall (fun q=>by rw [ed] at q;exact absurd q.1 zE);refine S.regionD (L:=[0,1,2,3,4,6,5,7,8,9]) F.mixed zB ?_;refine zz 2 ?_;refine OD.callS (.p rfl) zB rfl zB rfl rfl zC rdDone_c ?_;rintro _ _ ⟨rfl,rfl⟩;refine OD.sF 27 rfl (by exact ed) ?_;refine OD.q 6 rfl<|OD.callP0 (.p rfl) zB rfl zB rfl rfl (imust_c _) (fun ch η' w hX hW=>by (obtain ⟨hb,rfl,rfl⟩:=hX;exact hR _ _ w ⟨4,rfl,⟨hno,rfl⟩,rfl⟩ hW.drop_all)) ?_;rintro _ _ ⟨hb34,rfl,rfl⟩;exact absurd hb34 zE
 |true =>
  have hB' :=hB _ _ eall ed;have hg_q0:=hg;have hR_q0:=hR
  try have hp_q0:=hp
  try have ha_q0:=ha
  try have hb2_q0:=hb2
  try have hb3_q0:=hb3
  refine S.frzH (B:=ListP (LeafG tys) 49 (.slice a10 p0.1.length c10) p0.1) zC fun gq0 hsq0 ⟨mq0,hmq0,hsmq0⟩ hbq0=>?_;replace hg:=Fr.sub_trans hg hsq0;replace hR:=backR hR hbq0
  try replace hp:=hp.mono hsq0
  try replace ha:=ha.mono hsq0
  try replace hb2:=hb2.mono hsq0
  try replace hb3:=hb3.mono hsq0
  have ar0:Arr LeafRp gq0.h (.slice a10 p0.1.length c10) p0.1:=(ListP.arr hmq0).mono hsmq0;have hg_q1:=hg;have hR_q1:=hR
  try have hp_q1:=hp
  try have ha_q1:=ha
  try have hb2_q1:=hb2
  try have hb3_q1:=hb3
  try have ar0_q1:=ar0
  refine S.frzH (B:=ListP (RootG tys) 52 (.slice a14 p1.1.length c14) p1.1) zC fun gq1 hsq1 ⟨mq1,hmq1,hsmq1⟩ hbq1=>?_;replace hg:=Fr.sub_trans hg hsq1;replace hR:=backR hR hbq1
  try replace hp:=hp.mono hsq1
  try replace ha:=ha.mono hsq1
  try replace hb2:=hb2.mono hsq1
  try replace hb3:=hb3.mono hsq1
  try replace ar0:=ar0.mono hsq1
  have ar1:Arr RootRp gq1.h (.slice a14 p1.1.length c14) p1.1:=(ListP.arr hmq1).mono hsmq1;have hg_q2:=hg;have hR_q2:=hR
  try have hp_q2:=hp
  try have ha_q2:=ha
  try have hb2_q2:=hb2
  try have hb3_q2:=hb3
  try have ar0_q2:=ar0
  try have ar1_q2:=ar1
  refine S.frzH (B:=ListP (EvdG tys) 55 (.slice a18 p2.1.length c18) p2.1) zC fun gq2 hsq2 ⟨mq2,hmq2,hsmq2⟩ hbq2=>?_;replace hg:=Fr.sub_trans hg hsq2;replace hR:=backR hR hbq2
  try replace hp:=hp.mono hsq2
  try replace ha:=ha.mono hsq2
  try replace hb2:=hb2.mono hsq2
  try replace hb3:=hb3.mono hsq2
  try replace ar0:=ar0.mono hsq2
  try replace ar1:=ar1.mono hsq2
  have ar2:Arr EvdRp gq2.h (.slice a18 p2.1.length c18) p2.1:=(ListP.arr hmq2).mono hsmq2;have hg_q3:=hg;have hR_q3:=hR
  try have hp_q3:=hp
  try have ha_q3:=ha
  try have hb2_q3:=hb2
  try have hb3_q3:=hb3
  try have ar0_q3:=ar0
  try have ar1_q3:=ar1
  try have ar2_q3:=ar2
  refine S.frzH (B:=OwnP Rp.i64 3 (.slice a23 p3.1.length c23) p3.1) zC fun gq3 hsq3 ⟨mq3,hmq3,hsmq3⟩ hbq3=>?_;replace hg:=Fr.sub_trans hg hsq3;replace hR:=backR hR hbq3
  try replace hp:=hp.mono hsq3
  try replace ha:=ha.mono hsq3
  try replace hb2:=hb2.mono hsq3
  try replace hb3:=hb3.mono hsq3
  try replace ar0:=ar0.mono hsq3
  try replace ar1:=ar1.mono hsq3
  try replace ar2:=ar2.mono hsq3
  have ar3:Arr Rp.i64 gq3.h (.slice a23 p3.1.length c23) p3.1:=hmq3.arr.mono hsmq3;have hrel:=HeldRp.mk ar0 ar1 ar2 ar3
  cases ew:imgW (p0.1,p1.1,p2.1,p3.1,()) with
  |none =>
   have hno:hGet b=none:=hGet_not eall (fun q=>by rw [ew] at q;cases q.2);refine S.regionD (L:=[0,1,2,3,4,6,5,7,8,9]) F.mixed zB ?_;refine zz 2 ?_;refine OD.callS (.p rfl) zB rfl zB rfl rfl zC rdDone_c ?_;rintro _ _ ⟨rfl,rfl⟩;refine OD.sT 27 rfl (by exact ed) ?_;refine OD.q 1 rfl<|.quiet (.g rfl rfl) rfl (fun _=>.loadAgg isAgg27 zB rfl hb3) ?_;refine zz 1 ?_;refine OD.callP0 (.g rfl rfl) zB rfl zB rfl rfl ((written_c hrel hB')) (fun ch η' w hX hW=>by (obtain ⟨hb,rfl,rfl⟩:=hX;exact hR _ _ w ⟨4,rfl,⟨hno,rfl⟩,rfl⟩ hW.drop_all)) ?_;rintro _ _ ⟨out,a30,c30,eo,rfl,rfl⟩;rw [ew] at eo
   cases eo
  |some out =>
   by_cases eq:out=b
   ·have hyes:hGet b=some (p0.1,p1.1,p2.1,p3.1,()):=hGet_of eall ed (by rw [ew,eq])
    refine S.regionD (L:=[0,1,2,3,4,6,5,7,8,9]) F.mixed zB ?_;refine zz 2 ?_;refine OD.callS (.p rfl) zB rfl zB rfl rfl zC rdDone_c ?_;rintro _ _ ⟨rfl,rfl⟩;refine OD.sT 27 rfl (by exact ed) ?_;refine OD.q 1 rfl<|.quiet (.g rfl rfl) rfl (fun _=>.loadAgg isAgg27 zB rfl hb3) ?_;refine zz 1 ?_;refine OD.callP0 (.g rfl rfl) zB rfl zB rfl rfl ((written_c hrel hB')) (fun ch η' w hX hW=>by (exact absurd (ew.symm.trans hX.1) zG)) ?_;rintro v30 _ ⟨out',a30,c30,eo,rfl,rfl⟩;obtain rfl:out=out' :=Option.some.inj (ew.symm.trans eo);refine OD.callB (.g rfl rfl) zB rfl zB rfl rfl (bs:=[OwnP Rp.u8 5 (.slice a30 out.length c30) out]) zI (fun m hm hd=>sequal_c (hm.arr.right hd) (ha.left)) ?_;rintro _ _ ⟨rfl,rfl⟩;refine OD.sT 32 rfl (by simp [eq]) ?_;refine OD.q 1 rfl<|OD.callP0 (.p rfl) zB rfl zB rfl rfl (imust_c _) (fun ch η' w hX hW=>by (exact absurd hX.1 zE)) ?_;rintro _ _ ⟨hb34,rfl,rfl⟩;refine ODx.nil<|S.seq<|S.back hbq3 ?_;replace hg:=hg_q3;replace hR:=hR_q3
    try replace hp:=hp_q3
    try replace ha:=ha_q3
    try replace hb2:=hb2_q3
    try replace hb3:=hb3_q3
    try replace ar0:=ar0_q3
    try replace ar1:=ar1_q3
    try replace ar2:=ar2_q3
    clear hg_q3 hR_q3;refine S.back hbq2 ?_;replace hg:=hg_q2;replace hR:=hR_q2
    try replace hp:=hp_q2
    try replace ha:=ha_q2
    try replace hb2:=hb2_q2
    try replace hb3:=hb3_q2
    try replace ar0:=ar0_q2
    try replace ar1:=ar1_q2
    clear hg_q2 hR_q2;refine S.back hbq1 ?_;replace hg:=hg_q1;replace hR:=hR_q1
    try replace hp:=hp_q1
    try replace ha:=ha_q1
    try replace hb2:=hb2_q1
    try replace hb3:=hb3_q1
    try replace ar0:=ar0_q1
    clear hg_q1 hR_q1;refine S.back hbq0 ?_;replace hg:=hg_q0;replace hR:=hR_q0
    try replace hp:=hp_q0
    try replace ha:=ha_q0
    try replace hb2:=hb2_q0
    try replace hb3:=hb3_q0
    clear hg_q0 hR_q0;refine S.region rfl<|O.op (.p rfl) (.loadAgg isAgg27 zB rfl hb3) ?_;refine zz 1 ?_;refine O.nil<|S.retCellAgg results80 isAgg27 zB rfl zC fun w hw=>Holds.end_ hR hw ?_;exact pk ⟨_,a10,c10,a14,c14,a18,c18,a23,c23,hyes,rfl,rfl⟩
   ·have hno:hGet b=none:=hGet_not eall (fun q=>eq (by rw [ew] at q;exact Option.some.inj q.2))
    refine S.regionD (L:=[0,1,2,3,4,6,5,7,8,9]) F.mixed zB ?_;refine zz 2 ?_;refine OD.callS (.p rfl) zB rfl zB rfl rfl zC rdDone_c ?_;rintro _ _ ⟨rfl,rfl⟩;refine OD.sT 27 rfl (by exact ed) ?_;refine OD.q 1 rfl<|.quiet (.g rfl rfl) rfl (fun _=>.loadAgg isAgg27 zB rfl hb3) ?_;refine zz 1 ?_;refine OD.callP0 (.g rfl rfl) zB rfl zB rfl rfl ((written_c hrel hB')) (fun ch η' w hX hW=>by (exact absurd (ew.symm.trans hX.1) zG)) ?_;rintro v30 _ ⟨out',a30,c30,eo,rfl,rfl⟩;obtain rfl:out=out' :=Option.some.inj (ew.symm.trans eo);refine OD.callB (.g rfl rfl) zB rfl zB rfl rfl (bs:=[OwnP Rp.u8 5 (.slice a30 out.length c30) out]) zI (fun m hm hd=>sequal_c (hm.arr.right hd) (ha.left)) ?_;rintro _ _ ⟨rfl,rfl⟩;refine OD.sF 32 rfl (by simp [eq]) ?_;refine OD.q 1 rfl<|OD.callP0 (.p rfl) zB rfl zB rfl rfl (imust_c _) (fun ch η' w hX hW=>by (obtain ⟨hb,rfl,rfl⟩:=hX;exact hR _ _ w ⟨4,rfl,⟨hno,rfl⟩,rfl⟩ hW.drop_all)) ?_;rintro _ _ ⟨hb34,rfl,rfl⟩;exact absurd hb34 zE
abbrev held0:List Value:=[.slice none 0 0,.slice none 0 0,.slice none 0 0,.slice none 0 0]
def held_t (b:List UInt8) (v:Value) (η:List SProp):Prop:=(∃ u,HeldK b u η∧v=.tuple #[u,.int .i64 0])∨(hGet b=none∧v=.tuple #[.agg held0.toArray,.int .i64 4]∧η=[])
theorem hTriedG_c {r:Fr} {first cap:Array Value} {b:List UInt8} (con:Con prog 80 (first++#[]++cap) r [] (RetP (fun v η=>HeldK b v η) (fun ch η=>∃ z,ch=errP 32 z∧(hGet b=none∧z=4)∧η=[]))) (h1:(Value.func (.func 80) first cap).oneCell' =true:=by rfl) :
  Con prog 79 #[.func (.func 80) first cap] r [] (Ret fun v η=>held_t b v η) :=
 (triedIH_c zB h1 (fun _ _ h=>by obtain ⟨x,a0,c0,a1,c1,a2,c2,a3,c3,_,rfl,_⟩:=h;exact ⟨_,rfl,rfl,rfl⟩) con).mono (Ret.imp fun v η h=>by
  rcases h with ⟨u,h2,h3⟩|⟨z,⟨h2,rfl⟩,h3,h4⟩
  ·exact .inl ⟨u,h2,h3⟩
  ·exact .inr ⟨h2,h4,h3⟩)
theorem held_tY {b:List UInt8} {x:HeldT} {v:Value} {η:List SProp} (e:hGet b=some x) (h:held_t b v η):∃ a0 c0 a1 c1 a2 c2 a3 c3,v=.tuple #[.agg (heldV (.slice a0 x.1.length c0) (.slice a1 x.2.1.length c1) (.slice a2 x.2.2.1.length c2) (.slice a3 x.2.2.2.1.length c3)).toArray,.int .i64 0]∧η=heldWs x (.slice a0 x.1.length c0) (.slice a1 x.2.1.length c1) (.slice a2 x.2.2.1.length c2) (.slice a3 x.2.2.2.1.length c3):=by
 rcases h with ⟨_,⟨y,a0,c0,a1,c1,a2,c2,a3,c3,h1,rfl,rfl⟩,rfl⟩|⟨h1,_⟩
 ·rw [e] at h1;obtain rfl:=Option.some.inj h1;exact ⟨a0,c0,a1,c1,a2,c2,a3,c3,rfl,rfl⟩
 ·rw [e] at h1;cases h1
theorem held_tN {b:List UInt8} {v:Value} {η:List SProp} (e:hGet b=none) (h:held_t b v η):v=.tuple #[.agg held0.toArray,.int .i64 4]∧η=[]:=by
 rcases h with ⟨_,⟨y,a0,c0,a1,c1,a2,c2,a3,c3,h1,_⟩,_⟩|⟨_,h1,h2⟩
 ·rw [e] at h1;cases h1
 ·exact ⟨h1,h2⟩
theorem hGet_c {r:Fr} {va:Value} {b:List UInt8} (ha:Arr Rp.u8 r va b) (hl:b.length≤1000000000) (hB:GetB b):Con prog 25 #[va] r [] (Ret fun v η=>held_t b v η):=by
 refine Con.o func25 fun g hg R hR=>?_;have ha:=ha.mono hg;obtain ⟨ax,cx,rfl⟩:=ha.shape
 cases e:hGet b with
 |some x =>
  refine S.seq<|S.region rfl<|O.opE (.p rfl) (.box (cs:=[_]) rfl rfl) ?_;rintro _ _ ⟨b1,rfl,rfl⟩;refine O.frzO zC fun g hs hm hb1=>?_;replace hg:=Fr.sub_trans hg hs;replace hR:=melted hR hm
  try replace ha:=ha.mono hs
  clear hs hm;refine O.opE (.p rfl) (.alloc (cs:=[.slice none 0 0,.slice none 0 0,.slice none 0 0,.slice none 0 0]) zeroValue27 rfl) ?_;rintro _ _ ⟨b2,rfl,rfl⟩;refine zz 5 ?_;refine O.call0 (.p rfl) rfl zB rfl rfl (((hTriedG_c (hget1_c hb1 ha hl hB)).mono (Ret.imp fun _ _ h=>held_tY e h))) ?_;rintro _ _ ⟨a0,c0,a1,c1,a2,c2,a3,c3,rfl,rfl⟩;refine zz 3 ?_;refine O.q 1 rfl<|O.nil<|S.retCellT results25 rfl rfl zC (LoadsAs.agg isAgg27 zB) fun w hw=>Holds.end_ hR hw ?_;exact pk (.inl ⟨_,⟨x,a0,c0,a1,c1,a2,c2,a3,c3,e,rfl,rfl⟩,rfl⟩)
 |none =>
  refine S.seq<|S.region rfl<|O.opE (.p rfl) (.box (cs:=[_]) rfl rfl) ?_;rintro _ _ ⟨b1,rfl,rfl⟩;refine O.frzO zC fun g hs hm hb1=>?_;replace hg:=Fr.sub_trans hg hs;replace hR:=melted hR hm
  try replace ha:=ha.mono hs
  clear hs hm;refine O.opE (.p rfl) (.alloc (cs:=[.slice none 0 0,.slice none 0 0,.slice none 0 0,.slice none 0 0]) zeroValue27 rfl) ?_;rintro _ _ ⟨b2,rfl,rfl⟩;refine zz 5 ?_;refine O.v0 (.p rfl) rfl zB rfl rfl (((hTriedG_c (hget1_c hb1 ha hl hB)).mono (Ret.imp fun _ _ h=>held_tN e h))) ?_;refine zz 3 ?_;refine O.q 1 rfl<|O.nil<|S.retCellT results25 rfl rfl zC (LoadsAs.agg isAgg27 zB) fun w hw=>Holds.end_ hR hw ?_;exact pk (.inr ⟨e,rfl,rfl⟩)
theorem be_take (n:Int) (j:Nat) (h:j<8):(be n).take j++[beAt n (7 - j)]=(be n).take (j+1):=by
 match j,h with
 |0,_|1,_|2,_|3,_|4,_|5,_|6,_|7,_=>rfl
theorem be_take_len (n:Int) (j:Nat) (h:j≤8):((be n).take j).length=j:=by rw [List.length_take,be_length];omega
theorem refNumber_c {r:Fr} (n:Int):Con prog 63 #[.int .i64 n] r [] (Ret fun v η=>∃ a c,v=.slice a 8 c∧η=[OwnP Rp.u8 5 v (be n)]):=by
 refine Con.o func63 fun g hg R hR=>?_;refine S.addNil (T:=Rp.u8) (e:=5) ?_;refine zz 14 ?_;refine S.loopK3 (ι:=Nat) (κ:=Option Addr) (υ:=Nat) (fun j a c=>j≤8) (fun j a c=>[(4,.int .i64 ((7:Int) - (j:Int))),(3,.slice a j c)]) [(0,_)] (fun j a c=>[OwnP Rp.u8 5 (.slice a j c) ((be n).take j)]) (fun j a c=>8 - j) (0) (none) (0) zG zq zq rfl fun j a c hx ih=>?_;have hm1:=meltRefl (g:=g);refine zz 6 ?_;refine S.cd rfl (fun h6=>?_) fun h6=>?_
 ·have hj:j<8:=by omega
  have hl:=be_take_len n j zD;have hw:IntKind.u64.wrap (8*(7 - (j:Int)))=8*(7 - (j:Int)):=by rw [wrap_u64_eq];unfold u64;omega
  refine S.skip<|S.seq<|S.block<|S.region rfl<|O.q 2 rfl<|O.op (.p rfl) (.cvt underlying3 underlying195 rfl)<|O.q 1 rfl<|O.op (.p rfl) (.mul rfl rfl (IntWalk.i64_in _ zD))<|O.op (.p rfl) (.cvt underlying3 underlying57 rfl)<|O.op (.p rfl) (.shr rfl rfl zD)<|O.op (.p rfl) (.cvt underlying195 underlying5 rfl)<|O.opE (.p rfl) (.litP (T:=Rp.u8) (ys:=[beAt n (7 - j)]) underlying31 elem5 zE rfl rfl ⟨congrArg (fun v=>[v]) (by simp only [byteV];rw [shift_byte n (7 - j) zD _ (by rw [wrap_u64_eq];unfold u64;omega)]),trivial⟩ zE) ?_;rintro _ _ ⟨a17,c17,rfl,rfl⟩;refine O.frzA zC fun g hs hm ha17=>?_;replace hg:=Fr.sub_trans hg hs;replace hR:=melted hR hm;replace hm1:=meltTrans hm1 hm;clear hs hm;refine O.opE (.p rfl) (.appendP (T:=Rp.u8) pure_u8 underlying31 elem5 zE rfl rfl zC zA zH zH) ?_;rintro _ _ ⟨a18,c18,rfl,rfl⟩;refine zz 5 ?_;refine O.op (.p rfl) (.sub rfl rfl (IntWalk.i64_in _ zD)) ?_;refine zz 2 ?_;rw [be_take n j hj,hl];refine S.slot 4 (v' :=.int .i64 ((7:Int) - ((j+1:Nat):Int))) rfl (congrArg _ zD) ?_;exact S.melt hm1 (S.wk (ih (j+1) (a18) (c18) zD zD))
 ·have hj:j=8:=by omega
  subst hj;refine zz 6 ?_;refine S.ret results63 rfl fun w hw=>hR _ _ w ?_ hw;exact ⟨a,c,rfl,rfl⟩
theorem refBytes_c {r:Fr} {va:Value} {xs:List UInt8} (ha:Arr Rp.u8 r va xs) (hl:xs.length≤100000000000000) :
  Con prog 65 #[va] r [] (Ret fun v η=>∃ a c,v=.slice a (bytesOf xs).length c∧η=[OwnP Rp.u8 5 v (bytesOf xs)]):=by
 refine Con.o func65 fun g hg R hR=>?_;have ha:=ha.mono hg;obtain ⟨a1,c1,rfl⟩:=ha.shape;refine zz 8 ?_;refine O.call0 (.p rfl) rfl zB rfl rfl (refNumber_c _) ?_;rintro _ _ ⟨a5,c5,rfl,rfl⟩;refine O.q 1 rfl<|O.opE (.p rfl) (.appendP (T:=Rp.u8) pure_u8 underlying31 elem5 zE rfl rfl zC zA zH zH) ?_;rintro _ _ ⟨a7,c7,rfl,rfl⟩;refine O.q 1 rfl<|O.nil<|S.ret results65 rfl fun w hw=>hR _ _ w ?_ hw;exact ⟨a7,c7,by simp [bytesOf],by simp [bytesOf]⟩
theorem refJoin_c {r:Fr} {va:Value} {xss:List (List UInt8)} (ha:Arr (Rp.slice Rp.u8) r va xss) (hl:xss.flatten.length≤140737488355328) :
  Con prog 64 #[va] r [] (Ret fun v η=>∃ a c,v=.slice a xss.flatten.length c∧η=[OwnP Rp.u8 5 v xss.flatten]):=by
 refine Con.o func64 fun g hg R hR=>?_;have ha:=ha.mono hg;have hbd:=ha.bound;obtain ⟨a1,c1,rfl⟩:=ha.shape;refine S.addNil (T:=Rp.u8) (e:=5) ?_;refine zz 14 ?_;refine S.loopK4 (ι:=Nat) (κ:=Option Addr) (υ:=Nat) (τ:=Nat) (fun i a6 m6 c6=>i≤xss.length∧m6=(xss.take i).flatten.length) (fun i a6 m6 c6=>[(4,.int .i64 (i:Int)),(3,.slice a6 m6 c6)]) [(0,_)] (fun i a6 m6 c6=>[OwnP Rp.u8 5 (.slice a6 m6 c6) (xss.take i).flatten]) (fun i a6 m6 c6=>xss.length - i) (0) (none) (0) (0) zG zq zq rfl fun i a6 m6 c6 hx ih=>?_;have hm1:=meltRefl (g:=g);obtain ⟨hx1,hs⟩:=hx;refine zz 8 ?_;refine S.cd rfl (fun h8=>?_) fun h8=>?_
 ·have hi:i<xss.length:=by omega
  have h1:=flat_len xss i hi;have h2:=flat_le xss (i+1);have h3:(xss.take (i+1)).flatten.length=(xss.take i).flatten.length+xss[i].length:=by rw [h1,List.length_append]
  refine zz 7 ?_;refine O.ia (.p rfl) underlying39 size31 rfl rfl rfl zA (h:=fun p14 cs14 hp14 hr14=>?_);obtain ⟨v14,rfl,ha14⟩:=hr14;obtain ⟨a14,c14,rfl⟩:=ha14.shape;refine zz 1 ?_;refine O.opE (.p rfl) (.appendP (T:=Rp.u8) pure_u8 underlying31 elem5 zE rfl rfl zC zA zH zH) ?_;rintro _ _ ⟨a16,c16,rfl,rfl⟩;refine zz 8 ?_;rw [← h1];exact S.wk (ih (i+1) (a16) ((xss.take i).flatten.length+xss[i].length) (c16) zD zD)
 ·have hi:i=xss.length:=by omega
  subst hi;rw [List.take_length] at hs;subst hs;refine zz 6 ?_;refine S.ret results64 rfl fun w hw=>hR _ _ w ?_ hw;exact ⟨a6,c6,rfl,by rw [List.take_length]⟩
theorem r15shape_c {r:Fr} {cs:List Value} {x:RootT} (h:RootRp.rel r cs x):Con prog 241 #[.agg cs.toArray] r [] (Ret fun v η=>v=.bool (rootShape x)∧η=[]):=by
 obtain ⟨xa3,xa4,xc3,xc4,rfl,k0,k1,k2,k3,k4⟩:=RootRp.sh h;refine Con.o func241 fun g hg R hR=>?_;refine S.seq<|S.region rfl<|O.opE (.p rfl) (.box (cs:=[_,_,_,_,_]) rfl rfl) ?_;rintro _ _ ⟨b1,rfl,rfl⟩;refine zz 8 ?_
 first|refine O.caseD 6 rfl (fun h6=>?_) (fun h6=>?_)|refine O.caseB 6 rfl (fun h6=>?_) (fun h6=>?_)
 ·refine zz 5 ?_
  first|refine O.caseD 11 rfl (fun h11=>?_) (fun h11=>?_)|refine O.caseB 11 rfl (fun h11=>?_) (fun h11=>?_)
  ·refine zz 5 ?_
   first|refine O.caseD 16 rfl (fun h16=>?_) (fun h16=>?_)|refine O.caseB 16 rfl (fun h16=>?_) (fun h16=>?_)
   ·refine zz 5 ?_
    first|refine O.caseD 21 rfl (fun h21=>?_) (fun h21=>?_)|refine O.caseB 21 rfl (fun h21=>?_) (fun h21=>?_)
    ·refine zz 5 ?_
     first|refine O.caseD 26 rfl (fun h26=>?_) (fun h26=>?_)|refine O.caseB 26 rfl (fun h26=>?_) (fun h26=>?_)
     ·refine zz 5 ?_
      first|refine O.caseD 31 rfl (fun h31=>?_) (fun h31=>?_)|refine O.caseB 31 rfl (fun h31=>?_) (fun h31=>?_)
      ·refine zz 7 ?_
       refine S.ret results241 rfl fun w hw=>Holds.end_ hR hw ?_
       first|exact ⟨_,⟨congrArg _ (decide_eq_false zD).symm,rfl⟩,by repeat (first|exact zpa|exact zpn|(apply zpc;focus (repeat (first|exact zh|apply zt)))|apply zps)⟩|exact ⟨_,⟨congrArg _ (decide_eq_decide.2 zD),rfl⟩,by repeat (first|exact zpa|exact zpn|(apply zpc;focus (repeat (first|exact zh|apply zt)))|apply zps)⟩
      ·refine O.q 6 rfl<|O.nil<|S.ret results241 rfl fun w hw=>Holds.end_ hR hw ?_
       first|exact ⟨_,⟨congrArg _ (decide_eq_false zD).symm,rfl⟩,by repeat (first|exact zpa|exact zpn|(apply zpc;focus (repeat (first|exact zh|apply zt)))|apply zps)⟩|exact ⟨_,⟨congrArg _ (decide_eq_decide.2 zD),rfl⟩,by repeat (first|exact zpa|exact zpn|(apply zpc;focus (repeat (first|exact zh|apply zt)))|apply zps)⟩
     ·refine O.q 11 rfl<|O.nil<|S.ret results241 rfl fun w hw=>Holds.end_ hR hw ?_
      first|exact ⟨_,⟨congrArg _ (decide_eq_false zD).symm,rfl⟩,by repeat (first|exact zpa|exact zpn|(apply zpc;focus (repeat (first|exact zh|apply zt)))|apply zps)⟩|exact ⟨_,⟨congrArg _ (decide_eq_decide.2 zD),rfl⟩,by repeat (first|exact zpa|exact zpn|(apply zpc;focus (repeat (first|exact zh|apply zt)))|apply zps)⟩
    ·refine O.q 16 rfl<|O.nil<|S.ret results241 rfl fun w hw=>Holds.end_ hR hw ?_
     first|exact ⟨_,⟨congrArg _ (decide_eq_false zD).symm,rfl⟩,by repeat (first|exact zpa|exact zpn|(apply zpc;focus (repeat (first|exact zh|apply zt)))|apply zps)⟩|exact ⟨_,⟨congrArg _ (decide_eq_decide.2 zD),rfl⟩,by repeat (first|exact zpa|exact zpn|(apply zpc;focus (repeat (first|exact zh|apply zt)))|apply zps)⟩
   ·refine O.q 21 rfl<|O.nil<|S.ret results241 rfl fun w hw=>Holds.end_ hR hw ?_
    first|exact ⟨_,⟨congrArg _ (decide_eq_false zD).symm,rfl⟩,by repeat (first|exact zpa|exact zpn|(apply zpc;focus (repeat (first|exact zh|apply zt)))|apply zps)⟩|exact ⟨_,⟨congrArg _ (decide_eq_decide.2 zD),rfl⟩,by repeat (first|exact zpa|exact zpn|(apply zpc;focus (repeat (first|exact zh|apply zt)))|apply zps)⟩
  ·refine O.q 26 rfl<|O.nil<|S.ret results241 rfl fun w hw=>Holds.end_ hR hw ?_
   first|exact ⟨_,⟨congrArg _ (decide_eq_false zD).symm,rfl⟩,by repeat (first|exact zpa|exact zpn|(apply zpc;focus (repeat (first|exact zh|apply zt)))|apply zps)⟩|exact ⟨_,⟨congrArg _ (decide_eq_decide.2 zD),rfl⟩,by repeat (first|exact zpa|exact zpn|(apply zpc;focus (repeat (first|exact zh|apply zt)))|apply zps)⟩
 ·refine O.q 31 rfl<|O.nil<|S.ret results241 rfl fun w hw=>Holds.end_ hR hw ?_
  first|exact ⟨_,⟨congrArg _ (decide_eq_false zD).symm,rfl⟩,by repeat (first|exact zpa|exact zpn|(apply zpc;focus (repeat (first|exact zh|apply zt)))|apply zps)⟩|exact ⟨_,⟨congrArg _ (decide_eq_decide.2 zD),rfl⟩,by repeat (first|exact zpa|exact zpn|(apply zpc;focus (repeat (first|exact zh|apply zt)))|apply zps)⟩
theorem r15right_c {r:Fr} {cs:List Value} {x:RootT} (h:RootRp.rel r cs x):Con prog 153 #[.agg cs.toArray] r [] (Ret fun v η=>v=.bool (rootOk x)∧η=[]):=by
 obtain ⟨xa3,xa4,xc3,xc4,rfl,k0,k1,k2,k3,k4⟩:=RootRp.sh h;refine Con.o func153 fun g hg R hR=>?_;have h:=h.mono hg;refine S.seq<|S.region rfl<|O.opE (.p rfl) (.box (cs:=[_,_,_,_,_]) rfl rfl) ?_;rintro _ _ ⟨b1,rfl,rfl⟩;refine zz 3 ?_;refine S.frzO zC fun g hs hm hb1=>?_;replace hg:=Fr.sub_trans hg hs;replace hR:=melted hR hm
 try replace h:=h.mono hs
 clear hs hm
 cases e:rootShape x with
 |false =>
  refine S.region rfl<|O.op (.p rfl) (.loadAgg isAgg52 zB rfl hb1) ?_;refine O.v0 (.p rfl) rfl zB rfl rfl ((r15shape_c h)) ?_;refine O.sF 4 rfl (by exact e) ?_;refine zz 8 ?_;exact S.rt results153 rfl hR ⟨by simp [rootOk,e],rfl⟩
 |true =>
  refine S.region rfl<|O.op (.p rfl) (.loadAgg isAgg52 zB rfl hb1) ?_;refine O.v0 (.p rfl) rfl zB rfl rfl ((r15shape_c h)) ?_;refine O.sT 4 rfl (by exact e) ?_;refine zz 1 ?_;refine O.op (.g rfl rfl) (.fieldAddr fld52x4 rfl) ?_;refine zz 6 ?_;exact S.rt results153 rfl hR ⟨congrArg _ (by rw [rootOk,e,Bool.true_and];exact decide_eq_decide.2 zD),rfl⟩
theorem r15text_c {r:Fr} {cs:List Value} {x:RootT} (h:RootRp.rel r cs x) (hs:rootShape x=true) :
  Con prog 154 #[.agg cs.toArray] r [] (Ret fun v η=>∃ a c,v=.slice a (rootText x).length c∧η=[OwnP Rp.u8 5 (.slice a (rootText x).length c) (rootText x)]):=by
 obtain ⟨xa3,xa4,xc3,xc4,rfl,k0,k1,k2,k3,k4⟩:=RootRp.sh h;have hl:=rootText_length hs;have hfl:[[2],be x.1,be x.2.1,be x.2.2.1,x.2.2.2.1].flatten=rootText x:=by simp [rootText]
 refine Con.o func154 fun g hg R hR=>?_;have h:=h.mono hg;have k3:=k3.mono hg;refine S.seq<|S.region rfl<|O.opE (.p rfl) (.box (cs:=[_,_,_,_,_]) rfl rfl) ?_;rintro _ _ ⟨b1,rfl,rfl⟩;refine zz 4 ?_;refine S.frzO zC fun g hs hm hb1=>?_;replace hg:=Fr.sub_trans hg hs;replace hR:=melted hR hm
 try replace h:=h.mono hs
 try replace k3:=k3.mono hs
 clear hs hm;refine S.region rfl<|O.op (.p rfl) (.loadAgg isAgg52 zB rfl hb1) ?_;refine O.v0 (.p rfl) rfl zB rfl rfl ((r15shape_c h)) ?_;refine O.sT 4 rfl (by exact hs) ?_;refine zz 5 ?_;refine S.regionJ (L:=[1,2,4,5,7,8,10,11,0,3,6,9,12,13,14]) (fun (s:Option Addr × Nat)=>[(2,.slice s.1 (rootText x).length s.2)]) [] (fun (s:Option Addr × Nat)=>[OwnP Rp.u8 5 (.slice s.1 (rootText x).length s.2) (rootText x)]) (.nil) F.mixed zB (fun kk key=>?_) (fun s=>?_)
 ·refine zz 8 ?_
  refine OD.alt2 0 3 [3,6,9,12,13,14] [0,6,9,12,13,14] zB rfl rfl ?_ ?_
  ·refine ODt.litP (T:=Rp.u8) (ys:=[2]) (.p rfl) zB underlying31 elem5 zE rfl rfl ⟨rfl,trivial⟩ zE (fun a6 c6=>?_)
   refine OD.call0 (.p rfl) zB rfl zB rfl rfl (refNumber_c _) ?_;rintro _ _ ⟨a9,c9,rfl,rfl⟩;refine OD.call0 (.p rfl) zB rfl zB rfl rfl (refNumber_c _) ?_;rintro _ _ ⟨a12,c12,rfl,rfl⟩;refine OD.call0 (.p rfl) zB rfl zB rfl rfl (refNumber_c _) ?_;rintro _ _ ⟨a15,c15,rfl,rfl⟩;refine OD.litP (T:=Rp.val) (ys:=[_,_,_,_,_]) (.p rfl) zB underlying39 elem31 zE rfl rfl ⟨⟨rfl,rfl⟩,⟨rfl,rfl⟩,⟨rfl,rfl⟩,⟨rfl,rfl⟩,⟨rfl,rfl⟩,trivial⟩ zE (fun a18 c18=>?_);refine OD.callB (.p rfl) zB rfl zB rfl rfl (bs:=[OwnP Rp.val 31 (.slice a18 5 c18) [.slice a6 1 c6,.slice a9 8 c9,.slice a12 8 c12,.slice a15 8 c15,.slice xa3 x.2.2.2.1.length xc3],OwnP Rp.u8 5 (.slice a6 1 c6) [2],OwnP Rp.u8 5 (.slice a9 8 c9) (be x.1),OwnP Rp.u8 5 (.slice a12 8 c12) (be x.2.1),OwnP Rp.u8 5 (.slice a15 8 c15) (be x.2.2.1)]) zI (fun m hm hd=>refJoin_c (xss:=[[2],be x.1,be x.2.1,be x.2.2.1,x.2.2.2.1]) ((hm.arr.right hd).rows ⟨hm.tail.arr.right hd,hm.tail.tail.arr.right hd,hm.tail.tail.tail.arr.right hd,hm.tail.tail.tail.tail.arr.right hd,k3.left,trivial⟩) (by rw [hfl];omega)) ?_;rintro _ _ ⟨a19,c19,rfl,rfl⟩;rw [hfl];refine OD.q 1 rfl<|ODx.nil<|S.pk ?_ (S.weaken (Sub.app zq (.nil)) (key (a19,c19)))
   try dsimp only
   repeat (first|exact zpa|exact zpn|(apply zpc;focus (repeat (first|exact zh|apply zt)))|apply zps)
  ·refine ODt.call0 (.p rfl) zB rfl zB rfl rfl (refNumber_c _) ?_
   rintro _ _ ⟨a9,c9,rfl,rfl⟩;refine OD.alt2 0 6 [6,9,12,13,14] [0,9,12,13,14] zB rfl rfl ?_ ?_
   ·refine ODt.litP (T:=Rp.u8) (ys:=[2]) (.p rfl) zB underlying31 elem5 zE rfl rfl ⟨rfl,trivial⟩ zE (fun a6 c6=>?_)
    refine OD.call0 (.p rfl) zB rfl zB rfl rfl (refNumber_c _) ?_;rintro _ _ ⟨a12,c12,rfl,rfl⟩;refine OD.call0 (.p rfl) zB rfl zB rfl rfl (refNumber_c _) ?_;rintro _ _ ⟨a15,c15,rfl,rfl⟩;refine OD.litP (T:=Rp.val) (ys:=[_,_,_,_,_]) (.p rfl) zB underlying39 elem31 zE rfl rfl ⟨⟨rfl,rfl⟩,⟨rfl,rfl⟩,⟨rfl,rfl⟩,⟨rfl,rfl⟩,⟨rfl,rfl⟩,trivial⟩ zE (fun a18 c18=>?_);refine OD.callB (.p rfl) zB rfl zB rfl rfl (bs:=[OwnP Rp.val 31 (.slice a18 5 c18) [.slice a6 1 c6,.slice a9 8 c9,.slice a12 8 c12,.slice a15 8 c15,.slice xa3 x.2.2.2.1.length xc3],OwnP Rp.u8 5 (.slice a6 1 c6) [2],OwnP Rp.u8 5 (.slice a9 8 c9) (be x.1),OwnP Rp.u8 5 (.slice a12 8 c12) (be x.2.1),OwnP Rp.u8 5 (.slice a15 8 c15) (be x.2.2.1)]) zI (fun m hm hd=>refJoin_c (xss:=[[2],be x.1,be x.2.1,be x.2.2.1,x.2.2.2.1]) ((hm.arr.right hd).rows ⟨hm.tail.arr.right hd,hm.tail.tail.arr.right hd,hm.tail.tail.tail.arr.right hd,hm.tail.tail.tail.tail.arr.right hd,k3.left,trivial⟩) (by rw [hfl];omega)) ?_;rintro _ _ ⟨a19,c19,rfl,rfl⟩;rw [hfl];refine OD.q 1 rfl<|ODx.nil<|S.pk ?_ (S.weaken (Sub.app zq (.nil)) (key (a19,c19)))
    try dsimp only
    repeat (first|exact zpa|exact zpn|(apply zpc;focus (repeat (first|exact zh|apply zt)))|apply zps)
   ·refine ODt.call0 (.p rfl) zB rfl zB rfl rfl (refNumber_c _) ?_
    rintro _ _ ⟨a12,c12,rfl,rfl⟩;refine OD.alt2 0 9 [9,12,13,14] [0,12,13,14] zB rfl rfl ?_ ?_
    ·refine ODt.litP (T:=Rp.u8) (ys:=[2]) (.p rfl) zB underlying31 elem5 zE rfl rfl ⟨rfl,trivial⟩ zE (fun a6 c6=>?_)
     refine OD.call0 (.p rfl) zB rfl zB rfl rfl (refNumber_c _) ?_;rintro _ _ ⟨a15,c15,rfl,rfl⟩;refine OD.litP (T:=Rp.val) (ys:=[_,_,_,_,_]) (.p rfl) zB underlying39 elem31 zE rfl rfl ⟨⟨rfl,rfl⟩,⟨rfl,rfl⟩,⟨rfl,rfl⟩,⟨rfl,rfl⟩,⟨rfl,rfl⟩,trivial⟩ zE (fun a18 c18=>?_);refine OD.callB (.p rfl) zB rfl zB rfl rfl (bs:=[OwnP Rp.val 31 (.slice a18 5 c18) [.slice a6 1 c6,.slice a9 8 c9,.slice a12 8 c12,.slice a15 8 c15,.slice xa3 x.2.2.2.1.length xc3],OwnP Rp.u8 5 (.slice a6 1 c6) [2],OwnP Rp.u8 5 (.slice a9 8 c9) (be x.1),OwnP Rp.u8 5 (.slice a12 8 c12) (be x.2.1),OwnP Rp.u8 5 (.slice a15 8 c15) (be x.2.2.1)]) zI (fun m hm hd=>refJoin_c (xss:=[[2],be x.1,be x.2.1,be x.2.2.1,x.2.2.2.1]) ((hm.arr.right hd).rows ⟨hm.tail.arr.right hd,hm.tail.tail.arr.right hd,hm.tail.tail.tail.arr.right hd,hm.tail.tail.tail.tail.arr.right hd,k3.left,trivial⟩) (by rw [hfl];omega)) ?_;rintro _ _ ⟨a19,c19,rfl,rfl⟩;rw [hfl];refine OD.q 1 rfl<|ODx.nil<|S.pk ?_ (S.weaken (Sub.app zq (.nil)) (key (a19,c19)))
     try dsimp only
     repeat (first|exact zpa|exact zpn|(apply zpc;focus (repeat (first|exact zh|apply zt)))|apply zps)
    ·refine ODt.call0 (.p rfl) zB rfl zB rfl rfl (refNumber_c _) ?_
     rintro _ _ ⟨a15,c15,rfl,rfl⟩;refine OD.litP (T:=Rp.u8) (ys:=[2]) (.p rfl) zB underlying31 elem5 zE rfl rfl ⟨rfl,trivial⟩ zE (fun a6 c6=>?_);refine OD.litP (T:=Rp.val) (ys:=[_,_,_,_,_]) (.p rfl) zB underlying39 elem31 zE rfl rfl ⟨⟨rfl,rfl⟩,⟨rfl,rfl⟩,⟨rfl,rfl⟩,⟨rfl,rfl⟩,⟨rfl,rfl⟩,trivial⟩ zE (fun a18 c18=>?_);refine OD.callB (.p rfl) zB rfl zB rfl rfl (bs:=[OwnP Rp.val 31 (.slice a18 5 c18) [.slice a6 1 c6,.slice a9 8 c9,.slice a12 8 c12,.slice a15 8 c15,.slice xa3 x.2.2.2.1.length xc3],OwnP Rp.u8 5 (.slice a6 1 c6) [2],OwnP Rp.u8 5 (.slice a9 8 c9) (be x.1),OwnP Rp.u8 5 (.slice a12 8 c12) (be x.2.1),OwnP Rp.u8 5 (.slice a15 8 c15) (be x.2.2.1)]) zI (fun m hm hd=>refJoin_c (xss:=[[2],be x.1,be x.2.1,be x.2.2.1,x.2.2.2.1]) ((hm.arr.right hd).rows ⟨hm.tail.arr.right hd,hm.tail.tail.arr.right hd,hm.tail.tail.tail.arr.right hd,hm.tail.tail.tail.tail.arr.right hd,k3.left,trivial⟩) (by rw [hfl];omega)) ?_;rintro _ _ ⟨a19,c19,rfl,rfl⟩;rw [hfl];refine OD.q 1 rfl<|ODx.nil<|S.pk ?_ (S.weaken (Sub.app zq (.nil)) (key (a19,c19)))
     try dsimp only
     repeat (first|exact zpa|exact zpn|(apply zpc;focus (repeat (first|exact zh|apply zt)))|apply zps)
 exact S.rt results154 rfl hR ⟨s.1,s.2,rfl,rfl⟩
theorem r15put_c {r:Fr} {cs:List Value} {x:RootT} (h:RootRp.rel r cs x) :
  Con prog 66 #[.agg cs.toArray] r [] (Ret fun v η=>∃ a c,v=.tuple #[.slice a (rootOut x).length c,.int .i64 (rootErr x)]∧η=[OwnP Rp.u8 5 (.slice a (rootOut x).length c) (rootOut x)]):=by
 obtain ⟨xa3,xa4,xc3,xc4,rfl,k0,k1,k2,k3,k4⟩:=RootRp.sh h;refine Con.o func66 fun g hg R hR=>?_;have h:=h.mono hg;have k4:=k4.mono hg;refine S.seq<|S.region rfl<|O.opE (.p rfl) (.box (cs:=[_,_,_,_,_]) rfl rfl) ?_;rintro _ _ ⟨b1,rfl,rfl⟩;refine zz 5 ?_;refine S.frzO zC fun g hs hm hb1=>?_;replace hg:=Fr.sub_trans hg hs;replace hR:=melted hR hm
 try replace h:=h.mono hs
 try replace k4:=k4.mono hs
 clear hs hm
 cases e:rootOk x with
 |false =>
  have e1:rootOut x=[]:=by simp [rootOut,e]
  have e2:rootErr x=4:=by simp [rootErr,e]
  rw [e1,e2] at hR;refine S.region rfl<|O.op (.p rfl) (.loadAgg isAgg52 zB rfl hb1) ?_;refine O.v0 (.p rfl) rfl zB rfl rfl ((r15right_c h)) ?_;refine O.sF 5 rfl (by exact e) ?_;refine zz 8 ?_;refine S.addNil (T:=Rp.u8) (e:=5) ?_;refine S.ret2 results66 rfl rfl fun w hw=>Holds.end_ hR hw ?_;exact pk ⟨none,0,rfl,rfl⟩
 |true =>
  have e1:rootOut x=rootText x++x.2.2.2.2.1:=by simp [rootOut,e,rootB]
  have e2:rootErr x=0:=by simp [rootErr,e]
  rw [e1,e2,List.length_append] at hR;have hs:=(rootOk_iff.1 e).1;have hl:=rootText_length hs;have hl2:=(rootOk_iff.1 e).2;refine S.region rfl<|O.op (.p rfl) (.loadAgg isAgg52 zB rfl hb1) ?_;refine O.v0 (.p rfl) rfl zB rfl rfl ((r15right_c h)) ?_;refine O.sT 5 rfl (by exact e) ?_;refine zz 5 ?_;refine S.regionD (L:=[0,2,3,1,4,5,6]) F.mixed zB<|.quiet (.p rfl) rfl (fun _=>.loadAgg isAgg52 zB rfl hb1) ?_;refine zz 2 ?_;refine OD.call0 (.p rfl) zB rfl zB rfl rfl ((r15text_c h hs)) ?_;rintro _ _ ⟨a8,c8,rfl,rfl⟩;refine OD.appendP (.p rfl) zB (T:=Rp.u8) pure_u8 underlying31 elem5 zE rfl rfl zC zA zH zH (fun a11 c11=>?_);refine OD.q 2 rfl<|ODx.nil<|S.ret2 results66 rfl rfl fun w hw=>Holds.end_ hR hw ?_;exact pk ⟨a11,c11,rfl,rfl⟩
theorem refNewReader_c {r:Fr} {va:Value} {xs:List UInt8} (ha:Arr Rp.u8 r va xs) (hl:xs.length≤140737488355328) :
  Con prog 131 #[va] r [] (Ret fun v η=>∃ b a c,v=.pointer (some ⟨b,0,none⟩)∧η=[obj b 254 [.slice a xs.length c,.int .i64 0,.bool false],OwnP Rp.u8 5 (.slice a xs.length c) xs]):=by
 refine Con.o func131 fun g hg R hR=>?_;have ha:=ha.mono hg;obtain ⟨a1,c1,rfl⟩:=ha.shape;refine zz 6 ?_;refine O.opE (.p rfl) (.litP (T:=Rp.u8) (ys:=[]) underlying31 elem5 zE rfl rfl trivial zE) ?_;rintro _ _ ⟨a3,c3,rfl,rfl⟩;refine O.q 1 rfl<|O.opE (.p rfl) (.appendP (T:=Rp.u8) pure_u8 underlying31 elem5 zE rfl rfl zC zA zH zH) ?_;rintro _ _ ⟨a5,c5,rfl,rfl⟩;refine O.op (.p rfl) (.build (cs:=[_,_,_]) underlying254 rfl rfl rfl rfl rfl)<|O.opE (.p rfl) (.box (cs:=[_,_,_]) rfl rfl) ?_;rintro _ _ ⟨b7,rfl,rfl⟩;refine zz 2 ?_;simp only [List.length_nil,Nat.zero_add,List.nil_append];exact S.rt results131 rfl hR ⟨b7,a5,c5,rfl,rfl⟩
theorem refGood_c {r:Fr} {b:Nat} {v u:Value} {bad:Bool}:Con prog 133 #[.pointer (some ⟨b,0,none⟩)] r [obj b 254 [v,u,.bool bad]] (Ret fun z η=>z=.bool (!bad)∧η=[obj b 254 [v,u,.bool bad]]):=by
 refine Con.o func133 fun g hg R hR=>?_;refine zz 10 ?_;refine O.op (.p rfl) ((by first|exact .notD rfl|exact .not rfl)) ?_;refine O.q 1 rfl<|O.nil<|S.ret results133 rfl fun w hw=>hR _ _ w ?_ hw;exact ⟨rfl,rfl⟩
theorem refDone_c {r:Fr} {b p:Nat} {v:Value} {xs:List UInt8} {bad:Bool} (ha:Arr Rp.u8 r v xs):Con prog 136 #[.pointer (some ⟨b,0,none⟩)] r [obj b 254 [v,.int .i64 (p:Int),.bool bad]]
  (Ret fun z η=>z=.bool (!bad && decide (p=xs.length))∧η=[obj b 254 [v,.int .i64 (p:Int),.bool bad]]):=by
 refine Con.o func136 fun g hg R hR=>?_;obtain ⟨a1,c1,rfl⟩:=ha.shape;refine S.frzT (B:=obj b 254 [.slice a1 xs.length c1,.int .i64 (p:Int),.bool bad]) zC fun g2 hs2 ⟨m,hm,hsm⟩ th=>?_;have hat:=(obj_at hm).mono hsm
 cases bad with
 |true =>
  refine zz 5 ?_;refine S.regionD (L:=.range 18) F.mixed zB ?_;refine zz 4 ?_;refine OD.sT 6 rfl zP ?_;refine zz 15 ?_;refine th ?_;refine S.ret results136 rfl fun w hw=>hR _ _ w ?_ hw;exact ⟨rfl,rfl⟩
 |false =>
  refine zz 5 ?_;refine S.regionD (L:=.range 18) F.mixed zB ?_;refine zz 4 ?_;refine OD.sF 6 rfl zP ?_;refine zz 15 ?_;refine th ?_;refine S.ret results136 rfl fun w hw=>hR _ _ w ?_ hw;have e:((p:Int)=(xs.length:Int))↔p=xs.length:=by omega
  exact ⟨by simp [e],rfl⟩
def lok (bad:Bool) (n:Int) (p len:Nat):Bool:=!bad && decide (0≤n∧n+(p:Int)≤(len:Int))
theorem refLeft_c {r:Fr} {b p:Nat} {v:Value} {xs:List UInt8} {bad:Bool} (n:Int) (ha:Arr Rp.u8 r v xs) (hp:p≤xs.length):Con prog 233 #[.pointer (some ⟨b,0,none⟩),.int .i64 n] r [obj b 254 [v,.int .i64 (p:Int),.bool bad]]
  (Ret fun z η=>z=.bool (lok bad n p xs.length)∧η=[obj b 254 [v,.int .i64 (p:Int),.bool (!lok bad n p xs.length)]]):=by
 refine Con.o func233 fun g hg R hR=>?_;have hbd:=ha.bound;obtain ⟨a1,c1,rfl⟩:=ha.shape;refine S.frzT (B:=obj b 254 [.slice a1 xs.length c1,.int .i64 (p:Int),.bool bad]) zC fun g2 hs2 ⟨m,hm,hsm⟩ th=>?_;have hat:=(obj_at hm).mono hsm
 cases bad with
 |true =>
  refine zz 6 ?_;refine S.regionD (L:=.range 22) F.mixed zB ?_;refine zz 4 ?_;refine OD.sT 8 rfl zP ?_;refine zz 21 ?_;refine th ?_;refine zz 10 ?_;refine S.ret results233 rfl fun w hw=>hR _ _ w ?_ hw;exact ⟨by simp [lok],by simp [lok]⟩
 |false =>
  by_cases h1:n<0
  ·have e:lok false n p xs.length=false:=by simp [lok];omega
   refine zz 6 ?_;refine S.regionD (L:=.range 22) F.mixed zB ?_;refine zz 4 ?_;refine OD.sF 8 rfl zP ?_;refine zz 3 ?_;refine OD.sT 11 rfl zJ ?_;refine zz 18 ?_;refine th ?_;refine zz 10 ?_;refine S.ret results233 rfl fun w hw=>hR _ _ w ?_ hw;rw [e];exact ⟨rfl,rfl⟩
  ·by_cases h2:n>(xs.length:Int) - (p:Int)
   ·have e:lok false n p xs.length=false:=by simp [lok];omega
    refine zz 6 ?_;refine S.regionD (L:=.range 22) F.mixed zB ?_;refine zz 4 ?_;refine OD.sF 8 rfl zP ?_;refine zz 3 ?_;refine OD.sF 11 rfl zJ ?_;refine zz 14 ?_;refine OD.sT 25 rfl zJ ?_;refine zz 4 ?_;refine th ?_;refine zz 10 ?_;refine S.ret results233 rfl fun w hw=>hR _ _ w ?_ hw;rw [e];exact ⟨rfl,rfl⟩
   ·have e:lok false n p xs.length=true:=by simp [lok];omega
    refine zz 6 ?_;refine S.regionD (L:=.range 22) F.mixed zB ?_;refine zz 4 ?_;refine OD.sF 8 rfl zP ?_;refine zz 3 ?_;refine OD.sF 11 rfl zJ ?_;refine zz 14 ?_;refine OD.sF 25 rfl zJ ?_;refine zz 8 ?_;refine th ?_;refine S.ret results233 rfl fun w hw=>hR _ _ w ?_ hw;rw [e];exact ⟨rfl,rfl⟩
theorem drop_get {xs:List UInt8} {p:Nat} (h:p<xs.length):xs.drop p=xs[p]::xs.drop (p+1):=List.drop_eq_getElem_cons h
theorem refByte_c {r:Fr} {b p:Nat} {v:Value} {xs:List UInt8} {bad:Bool} (ha:Arr Rp.u8 r v xs) (hp:p≤xs.length):Con prog 234 #[.pointer (some ⟨b,0,none⟩)] r [obj b 254 [v,.int .i64 (p:Int),.bool bad]]
  (Ret fun z η=>∃ p',p' ≤xs.length∧xs.drop p' =(rByte (!bad) (xs.drop p)).2.1∧z=byteV (rByte (!bad) (xs.drop p)).1∧η=[obj b 254 [v,.int .i64 (p' :Int),.bool (bad ||(rByte (!bad) (xs.drop p)).2.2)]]):=by
 refine Con.o func234 fun g hg R hR=>?_;have hbd:=ha.bound;obtain ⟨a1,c1,rfl⟩:=ha.shape
 by_cases hk:bad=false∧p<xs.length
 ·obtain ⟨rfl,hk⟩:=hk
  have e:lok false 1 p xs.length=true:=by simp [lok];omega
  have ha' :=ha.mono hg;refine zz 8 ?_;refine O.vS (.p rfl) rfl zB rfl rfl zC ((refLeft_c 1 ha hp).sub hg) ?_;refine O.sT 4 rfl (by exact e) ?_;refine zz 16 ?_;rw [e];refine S.frzT (B:=obj b 254 [.slice a1 xs.length c1,.int .i64 ((p:Int)+1),.bool (!true)]) zC fun g2 hs2 ⟨m,hm,hsm⟩ th=>?_;have hat:=(obj_at hm).mono hsm;replace ha' :=ha'.mono hs2;refine S.regionD (L:=.range 12) F.mixed zB ?_;refine zz 9 ?_;refine OD.ia (.p rfl) underlying31 size5 rfl rfl (show _=(((p):Nat):Int) by omega) zA (h:=fun p22 cs22 hp22 hr22=>?_)
  cases hr22
  refine zz 1 ?_;refine OD.q 1 rfl<|ODx.nil<|th ?_;refine S.ret results234 rfl fun w hw=>hR _ _ w ?_ hw;rw [drop_get hk];exact ⟨p+1,by omega,rfl,rfl,rfl⟩
 ·have e:lok bad 1 p xs.length=false:=by cases bad<;>simp [lok] at hk ⊢;omega
  have hm:rByte (!bad) (xs.drop p)=(0,xs.drop p,!bad):=by
   cases bad with
   |true=>rfl
   |false=>rw [List.drop_eq_nil_of_le (by simp at hk;exact hk)];rfl
  refine zz 8 ?_;refine O.vS (.p rfl) rfl zB rfl rfl zC ((refLeft_c 1 ha hp).sub hg) ?_;refine O.sF 4 rfl (by exact e) ?_;refine zz 7 ?_;refine S.ret results234 rfl fun w hw=>hR _ _ w ?_ hw;rw [hm];exact ⟨p,hp,rfl,rfl,by rw [e];simp⟩
theorem refNumber2_c {r:Fr} {b p:Nat} {v:Value} {xs:List UInt8} {bad:Bool} (ha:Arr Rp.u8 r v xs) (hp:p≤xs.length) (hl:xs.length≤1000000000):Con prog 199 #[.pointer (some ⟨b,0,none⟩)] r [obj b 254 [v,.int .i64 (p:Int),.bool bad]]
  (Ret fun z η=>∃ p',p' ≤xs.length∧xs.drop p' =(rNum (!bad) (xs.drop p)).2.1∧z=.int .i64 (rNum (!bad) (xs.drop p)).1∧η=[obj b 254 [v,.int .i64 (p' :Int),.bool (bad ||(rNum (!bad) (xs.drop p)).2.2)]]):=by
 refine Con.o func199 fun g hg R hR=>?_;obtain ⟨a1,c1,rfl⟩:=ha.shape
 by_cases hk:bad=false∧p+8≤xs.length
 ·obtain ⟨rfl,hk⟩:=hk
  have e:lok false 8 p xs.length=true:=by simp [lok];omega
  have hm0:rNum true (xs.drop p)=(ofBe (xs.drop p),xs.drop (p+8),false):=by
   unfold rNum;rw [if_pos rfl,if_pos zJ,List.drop_drop]
  have ha' :=ha.mono hg;refine zz 8 ?_;refine O.vS (.p rfl) rfl zB rfl rfl zC ((refLeft_c 8 ha hp).sub hg) ?_;refine O.sT 6 rfl (by exact e) ?_;refine zz 14 ?_;rw [e];refine S.frzT (B:=obj b 254 [.slice a1 xs.length c1,.int .i64 (p:Int),.bool (!true)]) zC fun g2 hs2 ⟨m,hm,hsm⟩ th=>?_;have hat:=(obj_at hm).mono hsm;replace ha' :=ha'.mono hs2;refine S.loopK (ι:=Nat) (fun i=>i≤8) (fun i=>[(4,.int .i64 (i:Int)),(3,.int .u64 (beVal ((xs.drop p).take i):Nat))]) [(0,_)] (fun i=>[]) (fun i=>8 - i) (0) zG zq zq rfl fun i hx ih=>?_;have hm1:=meltRefl (g:=g);refine zz 6 ?_;refine S.cd rfl (fun h9=>?_) fun h9=>?_
  ·have hi:i<8:=by omega
   have hlen:i<(xs.drop p).length:=by simp;omega
   refine zz 3 ?_;refine S.regionD (L:=.range 17) F.mixed zB ?_;refine zz 1 ?_;refine .quiet (.p rfl) rfl (fun _=>.shl rfl rfl zD) ?_;refine zz 10 ?_;refine OD.ia (.p rfl) underlying31 size5 rfl rfl (show _=(((p+i):Nat):Int) by omega) zA (h:=fun p24 cs24 hp24 hr24=>?_)
   cases hr24
   refine zz 1 ?_;refine .quiet (.p rfl) rfl (fun _=>.cvt underlying5 underlying195 rfl)<|.quiet (.p rfl) rfl (fun _=>.or rfl rfl) ?_;refine zz 8 ?_;rw [show xs[p+i]=(xs.drop p)[i] from by simp,or_byte _ _ (beVal_lt7 (xs.drop p) i hi),← beVal_take (xs.drop p) i hlen];exact S.wk (ih (i+1) zD zD)
  ·have hi:i=8:=by omega
   subst hi;refine S.exit rfl<|S.seq<|th ?_;refine zz 10 ?_;refine O.nil<|S.seq<|S.region rfl<|O.q 1 rfl<|O.op (.p rfl) (.cvt underlying195 underlying3 rfl)<|O.q 1 rfl<|O.nil<|S.ret results199 rfl fun w hw=>hR _ _ w ?_ hw;rw [Bool.not_false,hm0];exact ⟨p+8,by omega,rfl,by rw [wrap_i64_eq _ (Nat.lt_of_lt_of_le (beVal_lt (xs.drop p) 8) zE)];rfl,rfl⟩
 ·have e:lok bad 8 p xs.length=false:=by cases bad<;>simp [lok] at hk ⊢;omega
  have hm:rNum (!bad) (xs.drop p)=(0,xs.drop p,!bad):=by
   cases bad with
   |true=>rfl
   |false=>unfold rNum;rw [Bool.not_false,if_pos rfl,if_neg (by simp at hk ⊢;omega)]
  refine zz 8 ?_;refine O.vS (.p rfl) rfl zB rfl rfl zC ((refLeft_c 8 ha hp).sub hg) ?_;refine O.sF 6 rfl (by exact e) ?_;refine zz 7 ?_;refine S.ret results199 rfl fun w hw=>hR _ _ w ?_ hw;rw [hm];exact ⟨p,hp,rfl,rfl,by rw [e];simp⟩
theorem refCount_c {r:Fr} {b p:Nat} {v:Value} {xs:List UInt8} {bad:Bool} (most:Int) (ha:Arr Rp.u8 r v xs) (hp:p≤xs.length) (hl:xs.length≤1000000000):Con prog 132 #[.pointer (some ⟨b,0,none⟩),.int .i64 most] r [obj b 254 [v,.int .i64 (p:Int),.bool bad]]
  (Ret fun z η=>∃ p',p' ≤xs.length∧xs.drop p' =(rCount most (!bad) (xs.drop p)).2.1∧z=.int .i64 (rCount most (!bad) (xs.drop p)).1∧η=[obj b 254 [v,.int .i64 (p' :Int),.bool (bad ||(rCount most (!bad) (xs.drop p)).2.2)]]):=by
 refine Con.o func132 fun g hg R hR=>?_;obtain ⟨z,rest,f,hE⟩:∃ z rest f,rNum (!bad) (xs.drop p)=(z,rest,f):=⟨_,_,_,rfl⟩;have hC:rCount most (!bad) (xs.drop p)=if bad ||f then (z,rest,f) else if 0≤z∧z≤most then (z,rest,false) else (0,rest,true):=by
  unfold rCount rNum at *
  cases bad with
  |true=>simp at hE ⊢;exact hE
  |false =>
   simp only [Bool.not_false,if_true] at hE ⊢
   split at hE<;>rename_i h8
   ·cases hE;rw [if_pos h8];rfl
   ·cases hE;rw [if_neg h8];rfl
 have con:=refNumber2_c (b:=b) (bad:=bad) ha hp hl;rw [hE] at con
 by_cases hb:(bad ||f)=true
 ·have hz:z=0:=by
   unfold rNum at hE;cases bad with
   |true=>simp at hE;exact hE.1.symm
   |false =>
    simp only [Bool.not_false,if_true] at hE;split at hE
    ·cases hE;simp at hb
    ·cases hE;rfl
  subst hz;refine zz 7 ?_;refine O.callS (.p rfl) rfl zB rfl rfl zC (con.sub hg) ?_;rintro v7 _ ⟨p',hp',hd',rfl,rfl⟩;refine zz 9 ?_;refine O.sT 11 rfl (by exact hb) ?_;refine zz 22 ?_;refine S.ret results132 rfl fun w hw=>hR _ _ w ?_ hw;rw [hC,if_pos hb];exact ⟨p',hp',hd',rfl,by rw [hb];rfl⟩
 ·have hb' :(bad ||f)=false:=by simpa using hb
  by_cases hz:0≤z∧z≤most
  ·
   refine zz 7 ?_;refine O.callS (.p rfl) rfl zB rfl rfl zC (con.sub hg) ?_;rintro v7 _ ⟨p',hp',hd',rfl,rfl⟩;refine zz 9 ?_;refine O.sF 11 rfl (by exact hb') ?_;refine zz 3 ?_;refine O.sF 14 rfl zJ ?_;refine zz 5 ?_;refine O.sF 19 rfl zJ ?_;refine zz 9 ?_;refine S.ret results132 rfl fun w hw=>hR _ _ w ?_ hw;rw [hC,if_neg hb,if_pos hz];exact ⟨p',hp',hd',rfl,by rw [hb'];cases bad<;>simp at hb' ⊢⟩
  ·by_cases hz0:z<0
   ·
    refine zz 7 ?_;refine O.callS (.p rfl) rfl zB rfl rfl zC (con.sub hg) ?_;rintro v7 _ ⟨p',hp',hd',rfl,rfl⟩;refine zz 9 ?_;refine O.sF 11 rfl (by exact hb') ?_;refine zz 3 ?_;refine O.sT 14 rfl zJ ?_;refine zz 19 ?_;refine S.ret results132 rfl fun w hw=>hR _ _ w ?_ hw;rw [hC,if_neg hb,if_neg hz];exact ⟨p',hp',hd',rfl,by rw [Bool.or_true];rfl⟩
   ·
    refine zz 7 ?_;refine O.callS (.p rfl) rfl zB rfl rfl zC (con.sub hg) ?_;rintro v7 _ ⟨p',hp',hd',rfl,rfl⟩;refine zz 9 ?_;refine O.sF 11 rfl (by exact hb') ?_;refine zz 3 ?_;refine O.sF 14 rfl zJ ?_;refine zz 5 ?_;refine O.sT 19 rfl zJ ?_;refine zz 14 ?_;refine S.ret results132 rfl fun w hw=>hR _ _ w ?_ hw;rw [hC,if_neg hb,if_neg hz];exact ⟨p',hp',hd',rfl,by rw [Bool.or_true];rfl⟩
theorem refBytes2_c {r:Fr} {b p:Nat} {v:Value} {xs:List UInt8} {bad:Bool} (most:Int) (ha:Arr Rp.u8 r v xs) (hp:p≤xs.length) (hl:xs.length≤1000000000):Con prog 134 #[.pointer (some ⟨b,0,none⟩),.int .i64 most] r [obj b 254 [v,.int .i64 (p:Int),.bool bad]]
  (Ret fun z η=>∃ a c p',p' ≤xs.length∧xs.drop p' =(rBytes most (!bad) (xs.drop p)).2.1∧z=.slice a (rBytes most (!bad) (xs.drop p)).1.length c ∧
   η=[obj b 254 [v,.int .i64 (p' :Int),.bool (bad ||(rBytes most (!bad) (xs.drop p)).2.2)],OwnP Rp.u8 5 z (rBytes most (!bad) (xs.drop p)).1]):=by
 refine Con.o func134 fun g hg R hR=>?_;obtain ⟨a1,c1,rfl⟩:=ha.shape;obtain ⟨z,rest,f,hE⟩:∃ z rest f,rCount most (!bad) (xs.drop p)=(z,rest,f):=⟨_,_,_,rfl⟩;have hB:rBytes most (!bad) (xs.drop p)=if bad ||f then ([],rest,f) else if z.toNat≤rest.length then (rest.take z.toNat,rest.drop z.toNat,false) else ([],rest,true):=by
  unfold rBytes rCount at *
  cases bad with
  |true=>simp at hE ⊢;exact ⟨hE.2.1,hE.2.2⟩
  |false =>
   simp only [Bool.not_false,if_true,Bool.false_or] at hE ⊢
   split at hE<;>rename_i h8
   ·rw [if_pos h8]
    split at hE<;>rename_i h9
    ·cases hE;rw [if_pos h9];simp
    ·cases hE;rw [if_neg h9];rfl
   ·cases hE;rw [if_neg h8];rfl
 have hz0:0≤z:=by
  unfold rCount at hE;cases bad with
  |true=>simp at hE;omega
  |false =>
   simp only [Bool.not_false,if_true] at hE
   split at hE
   ·split at hE<;>rename_i h9
    ·cases hE;exact h9.1
    ·cases hE;omega
   ·cases hE;omega
 have con:=refCount_c (b:=b) (bad:=bad) most ha hp hl;rw [hE] at con
 by_cases hb:(bad ||f)=true
 ·
  refine zz 8 ?_;refine O.callS (.p rfl) rfl zB rfl rfl zC (con.sub hg) ?_;rintro v8 _ ⟨p',hp',hd',rfl,rfl⟩;refine zz 7 ?_;refine O.vS (.p rfl) rfl zB rfl rfl zC ((refLeft_c z ha hp').sub hg) ?_;refine O.sF 11 rfl (by simp [lok,hb]) ?_;refine zz 7 ?_;refine S.addNil (T:=Rp.u8) (e:=5) ?_;refine S.ret results134 rfl fun w hw=>Holds.end_ hR hw ?_;rw [hB,if_pos hb];exact ⟨_,⟨none,0,p',hp',hd',rfl,rfl⟩,by rw [show lok (bad ||f) z p' xs.length=false from by simp [lok,hb],hb];exact Picks.cons (.there .here) (Picks.cons .here Picks.nil)⟩
 ·have hb' :(bad ||f)=false:=by simpa using hb
  rw [hb'] at con
  by_cases hz:z.toNat≤rest.length
  ·have ha' :=ha.mono hg
   refine zz 8 ?_;refine O.callS (.p rfl) rfl zB rfl rfl zC (con.sub hg) ?_;rintro v8 _ ⟨p',hp',hd',rfl,rfl⟩;refine zz 7 ?_;have hrl:rest.length=xs.length - p' :=by have h9:=congrArg List.length hd';simpa using h9.symm
   have e:lok false z p' xs.length=true:=by simp [lok];omega
   refine O.vS (.p rfl) rfl zB rfl rfl zC ((refLeft_c z ha hp').sub hg) ?_;refine O.sT 11 rfl (by exact e) ?_;refine zz 18 ?_;rw [e];refine S.frzT (B:=obj b 254 [.slice a1 xs.length c1,.int .i64 ((p' :Int)+z),.bool (!true)]) zC fun g2 hs2 ⟨m,hm,hsm⟩ th=>?_;have hat:=(obj_at hm).mono hsm;replace ha' :=ha'.mono hs2;refine S.regionD (L:=[1,2,3,4,5,6,7,8,9,10,11,12,13,14,15,0,16,17]) F.mixed zB ?_;refine zz 14 ?_;refine OD.sliceMid (a:=p') (b:=p' +z.toNat) (.p rfl) underlying31 size5 rfl rfl rfl zF zH zH zH zH (fun u37 ha37=>?_);obtain ⟨a37,c37,rfl⟩:=ha37.shape;refine OD.litP (T:=Rp.u8) (ys:=[]) (.p rfl) zB underlying31 elem5 zE rfl rfl trivial zE (fun a22 c22=>?_);refine OD.appendP (.p rfl) zB (T:=Rp.u8) pure_u8 underlying31 elem5 zE rfl rfl zC zA zH zH (fun a38 c38=>?_);refine OD.q 1 rfl<|ODx.nil<|th ?_;have e2:(p' :Int)+z=((p' +z.toNat:Nat):Int):=by omega
   have h9:xs.drop p' =rest:=hd';have e1:(xs.take (p' +z.toNat)).drop p' =rest.take z.toNat:=by rw [List.drop_take,h9];congr 1;omega
   rw [e2];simp only [List.length_nil,Nat.zero_add,List.nil_append,e1];refine S.ret results134 rfl fun w hw=>Holds.end_ hR hw ?_;rw [hB,if_neg hb,if_pos hz];exact ⟨_,⟨a38,c38,p' +z.toNat,by omega,by rw [← List.drop_drop,h9],rfl,rfl⟩,by rw [Bool.or_false];cases bad<;>first|(simp at hb';done)|exact Picks.cons .here (Picks.cons .here Picks.nil)⟩
  ·
   refine zz 8 ?_;refine O.callS (.p rfl) rfl zB rfl rfl zC (con.sub hg) ?_;rintro v8 _ ⟨p',hp',hd',rfl,rfl⟩;refine zz 7 ?_;have hrl:rest.length=xs.length - p' :=by have h9:=congrArg List.length hd';simpa using h9.symm
   have e:lok false z p' xs.length=false:=by simp [lok];omega
   refine O.vS (.p rfl) rfl zB rfl rfl zC ((refLeft_c z ha hp').sub hg) ?_;refine O.sF 11 rfl (by exact e) ?_;refine zz 7 ?_;refine S.addNil (T:=Rp.u8) (e:=5) ?_;refine S.ret results134 rfl fun w hw=>Holds.end_ hR hw ?_;rw [hB,if_neg hb,if_neg hz];exact ⟨_,⟨none,0,p',hp',hd',rfl,rfl⟩,by rw [e];cases bad<;>exact Picks.cons (.there .here) (Picks.cons .here Picks.nil)⟩
theorem rfNew_c {r:Fr} {va:Value} {xs:List UInt8} (ha:Arr Rp.u8 r va xs) (hl:xs.length≤1000000000):Con prog 131 #[va] r [] (Ret fun v η=>∃ b,v=.pointer (some ⟨b,0,none⟩)∧η=[RfP 254 b ⟨true,xs⟩]) :=
 (refNewReader_c ha zD).post fun e η' h w g hw=>by
  cases e with
  |returned u =>
   obtain ⟨b,a,c,rfl,rfl⟩:=h;exact ⟨_,⟨b,rfl,rfl⟩,hw.imp fun _ x=>rf_sat hl x⟩
  |panicked _=>exact h.elim
  |outgrown=>exact h.elim
theorem rfNumber_c {r:Fr} {b:Nat} {s:RS}:Con prog 199 #[.pointer (some ⟨b,0,none⟩)] r [RfP 254 b s] (Ret fun u η=>u=.int .i64 s.num.1∧η=[RfP 254 b s.num.2]) :=
 (Con.rf (Q:=fun u s' ζ=>u=.int .i64 s.num.1∧s' =s.num.2∧ζ=[]) fun m v xs p bad h1 h2 h3 h4 h5=>(refNumber2_c h2 h3 h4).mono (Ret.imp fun u η h=>by
  obtain ⟨p',h6,h7,rfl,rfl⟩:=h;simp only [h1,h5] at h7 ⊢;exact ⟨p',_,s.num.2,_,⟨rfl,rfl,rfl⟩,⟨good_or' h1,h6,h7⟩,rfl⟩)).mono (Ret.imp fun u η h=>by obtain ⟨s',ζ,⟨rfl,rfl,rfl⟩,rfl⟩:=h;exact ⟨rfl,rfl⟩)
theorem rfByte_c {r:Fr} {b:Nat} {s:RS}:Con prog 234 #[.pointer (some ⟨b,0,none⟩)] r [RfP 254 b s] (Ret fun u η=>u=byteV s.byte.1∧η=[RfP 254 b s.byte.2]) :=
 (Con.rf (Q:=fun u s' ζ=>u=byteV s.byte.1∧s' =s.byte.2∧ζ=[]) fun m v xs p bad h1 h2 h3 h4 h5=>(refByte_c h2 h3).mono (Ret.imp fun u η h=>by
  obtain ⟨p',h6,h7,rfl,rfl⟩:=h;simp only [h1,h5] at h7 ⊢;exact ⟨p',_,s.byte.2,_,⟨rfl,rfl,rfl⟩,⟨good_or' h1,h6,h7⟩,rfl⟩)).mono (Ret.imp fun u η h=>by obtain ⟨s',ζ,⟨rfl,rfl,rfl⟩,rfl⟩:=h;exact ⟨rfl,rfl⟩)
theorem rfCount_c {r:Fr} {b:Nat} {s:RS} (most:Int):Con prog 132 #[.pointer (some ⟨b,0,none⟩),.int .i64 most] r [RfP 254 b s] (Ret fun u η=>u=.int .i64 (s.count most).1∧η=[RfP 254 b (s.count most).2]) :=
 (Con.rf (Q:=fun u s' ζ=>u=.int .i64 (s.count most).1∧s' =(s.count most).2∧ζ=[]) fun m v xs p bad h1 h2 h3 h4 h5=>(refCount_c most h2 h3 h4).mono (Ret.imp fun u η h=>by
  obtain ⟨p',h6,h7,rfl,rfl⟩:=h;simp only [h1,h5] at h7 ⊢;exact ⟨p',_,(s.count most).2,_,⟨rfl,rfl,rfl⟩,⟨good_or' h1,h6,h7⟩,rfl⟩)).mono (Ret.imp fun u η h=>by obtain ⟨s',ζ,⟨rfl,rfl,rfl⟩,rfl⟩:=h;exact ⟨rfl,rfl⟩)
theorem rfBytes_c {r:Fr} {b:Nat} {s:RS} (most:Int):Con prog 134 #[.pointer (some ⟨b,0,none⟩),.int .i64 most] r [RfP 254 b s] (Ret fun u η=>∃ a c,u=.slice a (s.bytes most).1.length c∧η=[RfP 254 b (s.bytes most).2,OwnP Rp.u8 5 (.slice a (s.bytes most).1.length c) (s.bytes most).1]) :=
 (Con.rf (Q:=fun u s' ζ=>∃ a c,u=.slice a (s.bytes most).1.length c∧s' =(s.bytes most).2∧ζ=[OwnP Rp.u8 5 (.slice a (s.bytes most).1.length c) (s.bytes most).1]) fun m v xs p bad h1 h2 h3 h4 h5=>(refBytes2_c most h2 h3 h4).mono (Ret.imp fun u η h=>by
  obtain ⟨a,c,p',h6,h7,rfl,rfl⟩:=h;simp only [h1,h5] at h7 ⊢;exact ⟨p',_,(s.bytes most).2,_,⟨a,c,rfl,rfl,rfl⟩,⟨good_or' h1,h6,h7⟩,rfl⟩)).mono (Ret.imp fun u η h=>by obtain ⟨s',ζ,⟨a,c,rfl,rfl,rfl⟩,rfl⟩:=h;exact ⟨a,c,rfl,rfl⟩)
theorem rfGood_c {r:Fr} {b:Nat} {s:RS}:Con prog 133 #[.pointer (some ⟨b,0,none⟩)] r [RfP 254 b s] (Ret fun u η=>u=.bool s.good∧η=[RfP 254 b s]) :=
 (Con.rf (Q:=fun u s' ζ=>u=.bool s.good∧s' =s∧ζ=[]) fun m v xs p bad h1 h2 h3 h4 h5=>refGood_c.mono (Ret.imp fun u η h=>by
  obtain ⟨rfl,rfl⟩:=h;rw [h1];exact ⟨p,bad,s,[],⟨rfl,rfl,rfl⟩,⟨h1,h3,h5⟩,rfl⟩)).mono (Ret.imp fun u η h=>by obtain ⟨s',ζ,⟨rfl,rfl,rfl⟩,rfl⟩:=h;exact ⟨rfl,rfl⟩)
theorem rfDone_c {r:Fr} {b:Nat} {s:RS}:Con prog 136 #[.pointer (some ⟨b,0,none⟩)] r [RfP 254 b s] (Ret fun u η=>u=.bool s.done∧η=[RfP 254 b s]) :=
 (Con.rf (Q:=fun u s' ζ=>u=.bool s.done∧s' =s∧ζ=[]) fun m v xs p bad h1 h2 h3 h4 h5=>(refDone_c h2).mono (Ret.imp fun u η h=>by
  obtain ⟨rfl,rfl⟩:=h;have e:(decide (p=xs.length))=decide (s.rest.length=0):=by rw [← h5,List.length_drop];exact decide_eq_decide.2 zD
  rw [h1,e];exact ⟨p,bad,s,[],⟨rfl,rfl,rfl⟩,⟨h1,h3,h5⟩,rfl⟩)).mono (Ret.imp fun u η h=>by obtain ⟨s',ζ,⟨rfl,rfl,rfl⟩,rfl⟩:=h;exact ⟨rfl,rfl⟩)
noncomputable def rootO (b:List UInt8):RootT:=(rootGet b).getD rootZ
noncomputable def rootE (b:List UInt8):Int:=if (rootGet b).isSome then 0 else 4
theorem r15get_c {r:Fr} {va:Value} {b:List UInt8} (ha:Arr Rp.u8 r va b) (hl:b.length≤1000000000) :
  Con prog 197 #[va] r [] (Ret fun v η=>∃ a3 c3 a4 c4,v=.tuple #[.agg (rootV (rootO b) (.slice a3 (rootO b).2.2.2.1.length c3) (.slice a4 (rootO b).2.2.2.2.1.length c4)).toArray,.int .i64 (rootE b)]∧η=rootWs (rootO b) (.slice a3 (rootO b).2.2.2.1.length c3) (.slice a4 (rootO b).2.2.2.2.1.length c4)):=by
 refine Con.o func197 fun g hg R hR=>?_;have ha:=ha.mono hg;have hbd:=ha.bound;obtain ⟨a1,c1,rfl⟩:=ha.shape
 by_cases h1:b.length=153
 ·have htl:((b.take 25).drop 1).length=24:=by simp;omega
  have hQ:(b.drop 1).take 24=(b.take 25).drop 1:=by rw [List.drop_take]
  refine S.seq<|S.region rfl<|O.opE (.p rfl) (.alloc (cs:=[.int .i64 0,.int .i64 0,.int .i64 0,.slice none 0 0,.slice none 0 0]) zeroValue52 rfl) ?_;rintro _ _ ⟨b2,rfl,rfl⟩;refine zz 8 ?_;refine O.sF 10 rfl (by simp [h1]) ?_;refine zz 6 ?_;refine O.sliceMid (a:=1) (b:=25) (.p rfl) underlying31 size5 rfl rfl rfl zF zH zH zH zH (fun u13 ha13=>?_);obtain ⟨a13,c13,rfl⟩:=ha13.shape;refine O.call0 (.p rfl) rfl zB rfl rfl (rfNew_c zA zH) ?_;rintro _ _ ⟨b14,rfl,rfl⟩;refine zz 3 ?_;generalize hs:RS.mk true ((b.take 25).drop 1)=s;have i0:=RS.num_in s;refine zz 2 ?_;refine O.vS (.p rfl) rfl zB rfl rfl zC rfNumber_c ?_;refine O.op (.p rfl) (.build (cs:=[_,_,_,_,_]) underlying52 rfl rfl rfl rfl rfl)<|O.opE (.p rfl) (.alloc (cs:=[.int .i64 0,.int .i64 0,.int .i64 0,.slice none 0 0,.slice none 0 0]) zeroValue52 rfl) ?_;rintro _ _ ⟨b5,rfl,rfl⟩;refine zz 3 ?_;generalize hn:s.num=n at i0 ⊢;have i1:=RS.num_in n.2;refine zz 2 ?_;refine O.vS (.p rfl) rfl zB rfl rfl zC rfNumber_c ?_;refine zz 4 ?_;generalize hq:n.2.num=q at i1 ⊢;have i2:=RS.num_in q.2;refine zz 2 ?_;refine O.vS (.p rfl) rfl zB rfl rfl zC rfNumber_c ?_;refine zz 4 ?_;generalize hw:q.2.num=w at i2 ⊢;have hX:rootQ b=(n.1,q.1,w.1,(b.take 89).drop 25,b.drop 89,()):=by
   unfold rootQ;rw [hQ,hs,List.drop_take]
   simp only
   rw [hn,hq,hw]
  have hrel:∀ {m:Fr} (v3 v4:Value),Arr Rp.u8 m v3 ((b.take 89).drop 25)→Arr Rp.u8 m v4 (b.drop 89)→RootRp.rel m [.int .i64 n.1,.int .i64 q.1,.int .i64 w.1,v3,v4] (rootQ b):=fun v3 v4 h3 h4=>hX ▸ RootRp.mk i0 i1 i2 h3 h4;refine S.region rfl<|O.opE (.p rfl) (.litP (T:=Rp.u8) (ys:=[]) underlying31 elem5 zE rfl rfl trivial zE) ?_;rintro _ _ ⟨a24,c24,rfl,rfl⟩;refine O.q 1 rfl<|O.sliceMid (a:=25) (b:=89) (.p rfl) underlying31 size5 rfl rfl rfl zF zH zH zH zH (fun u26 ha26=>?_);obtain ⟨a26,c26,rfl⟩:=ha26.shape;refine O.opE (.p rfl) (.appendP (T:=Rp.u8) pure_u8 underlying31 elem5 zE rfl rfl zC zA zH zH) ?_;rintro _ _ ⟨a27,c27,rfl,rfl⟩;refine zz 5 ?_;refine O.opE (.p rfl) (.litP (T:=Rp.u8) (ys:=[]) underlying31 elem5 zE rfl rfl trivial zE) ?_;rintro _ _ ⟨a29,c29,rfl,rfl⟩;refine O.q 1 rfl<|O.sliceFrom (a:=89) (.p rfl) underlying31 size5 rfl rfl zF zH zH (fun u31 ha31=>?_);obtain ⟨a31,c31,rfl⟩:=ha31.shape;refine O.opE (.p rfl) (.appendP (T:=Rp.u8) pure_u8 underlying31 elem5 zE rfl rfl zC zA zH zH) ?_;rintro _ _ ⟨a32,c32,rfl,rfl⟩;refine zz 4 ?_;simp only [List.length_nil,Nat.zero_add];refine S.objIs (b:=b5) (cs' :=[.int .i64 n.1,.int .i64 q.1,.int .i64 w.1,.slice a27 ((b.take 89).drop 25).length c27,.slice a32 (b.drop 89).length c32]) zC rfl ?_
  cases e:rootOk (rootQ b) with
  |true =>
   have e5:rootOut (rootQ b)=rootB (rootQ b):=by simp [rootOut,e]
   have e6:rootErr (rootQ b)=0:=by simp [rootErr,e]
   by_cases eb:rootB (rootQ b)=b
   ·have g1:rootGet b=some (rootQ b):=by rw [rootGet_eq2 h1,if_pos ⟨e,eb⟩]
    have o1:rootO b=(n.1,q.1,w.1,(b.take 89).drop 25,b.drop 89,()):=by simp [rootO,g1,hX]
    have o2:rootE b=0:=by simp [rootE,g1]
    refine zz 2 ?_;refine O.callB (.p rfl) rfl zB rfl rfl (bs:=[OwnP Rp.u8 5 (.slice a27 ((b.take 89).drop 25).length c27) ((b.take 89).drop 25),OwnP Rp.u8 5 (.slice a32 (b.drop 89).length c32) (b.drop 89)]) zI (fun m hm hd=>r15put_c (hrel _ _ (hm.arr.right hd) (hm.tail.arr.right hd))) ?_;rintro _ _ ⟨a36,c36,rfl,rfl⟩;rw [e5,e6,eb];refine zz 11 ?_;refine O.sF 40 rfl zE ?_;refine O.q 2 rfl<|O.toStrO (.g rfl rfl) underlying31 underlying5 underlying9 rfl zC ?_;refine O.q 1 rfl<|O.op (.g rfl rfl) (.toStr underlying31 underlying5 underlying9 rfl zA) ?_;refine O.op (.g rfl rfl) (.neqS rfl rfl)<|O.sF 46 rfl zG ?_;refine zz 8 ?_;refine O.q 1 rfl<|O.nil<|S.retCellT results197 rfl rfl zC (LoadsAs.agg isAgg52 zB) fun w hw=>Holds.end_ hR hw ?_;exact ⟨_,⟨a27,c27,a32,c32,by rw [o1,o2];rfl,rfl⟩,by rw [o1];exact by repeat (first|exact zpa|exact zpn|(apply zpc;focus (repeat (first|exact zh|apply zt)))|apply zps)⟩
   ·have g1:rootGet b=none:=by rw [rootGet_eq2 h1,if_neg (fun q=>eb q.2)]
    have o1:rootO b=rootZ:=by simp [rootO,g1]
    have o2:rootE b=4:=by simp [rootE,g1]
    refine S.addNil (T:=Rp.u8) (e:=5) ?_;refine S.addNil (T:=Rp.u8) (e:=5) ?_;refine zz 2 ?_;refine O.callB (.p rfl) rfl zB rfl rfl (bs:=[OwnP Rp.u8 5 (.slice a27 ((b.take 89).drop 25).length c27) ((b.take 89).drop 25),OwnP Rp.u8 5 (.slice a32 (b.drop 89).length c32) (b.drop 89)]) zI (fun m hm hd=>r15put_c (hrel _ _ (hm.arr.right hd) (hm.tail.arr.right hd))) ?_;rintro _ _ ⟨a36,c36,rfl,rfl⟩;rw [e5,e6];refine zz 11 ?_;refine O.sF 40 rfl zE ?_;refine O.q 2 rfl<|O.toStrO (.g rfl rfl) underlying31 underlying5 underlying9 rfl zC ?_;refine O.q 1 rfl<|O.op (.g rfl rfl) (.toStr underlying31 underlying5 underlying9 rfl zA) ?_;refine O.op (.g rfl rfl) (.neqS rfl rfl)<|O.sT 46 rfl (by simp [str_inj,eb]) ?_;refine zz 5 ?_;refine O.op (.p rfl) (.build (cs:=[_,_,_,_,_]) underlying52 rfl rfl rfl rfl rfl) ?_;refine zz 1 ?_;refine O.q 1 rfl<|O.nil<|S.retCellT results197 rfl rfl zC (LoadsAs.agg isAgg52 zB) fun w hw=>Holds.end_ hR hw ?_;exact ⟨_,⟨none,0,none,0,by rw [o1,o2];rfl,rfl⟩,by rw [o1];exact by repeat (first|exact zpa|exact zpn|(apply zpc;focus (repeat (first|exact zh|apply zt)))|apply zps)⟩
  |false =>
   have e6:rootErr (rootQ b)=4:=by simp [rootErr,e]
   have g1:rootGet b=none:=by rw [rootGet_eq2 h1,if_neg (fun q=>by rw [e] at q;exact absurd q.1 zE)]
   have o1:rootO b=rootZ:=by simp [rootO,g1]
   have o2:rootE b=4:=by simp [rootE,g1]
   refine S.addNil (T:=Rp.u8) (e:=5) ?_;refine S.addNil (T:=Rp.u8) (e:=5) ?_;refine zz 2 ?_;refine O.callB (.p rfl) rfl zB rfl rfl (bs:=[OwnP Rp.u8 5 (.slice a27 ((b.take 89).drop 25).length c27) ((b.take 89).drop 25),OwnP Rp.u8 5 (.slice a32 (b.drop 89).length c32) (b.drop 89)]) zI (fun m hm hd=>r15put_c (hrel _ _ (hm.arr.right hd) (hm.tail.arr.right hd))) ?_;rintro _ _ ⟨a36,c36,rfl,rfl⟩;rw [e6];refine zz 11 ?_;refine O.sT 40 rfl zE ?_;refine zz 11 ?_;refine O.op (.p rfl) (.build (cs:=[_,_,_,_,_]) underlying52 rfl rfl rfl rfl rfl) ?_;refine zz 1 ?_;refine O.q 1 rfl<|O.nil<|S.retCellT results197 rfl rfl zC (LoadsAs.agg isAgg52 zB) fun w hw=>Holds.end_ hR hw ?_;exact ⟨_,⟨none,0,none,0,by rw [o1,o2];rfl,rfl⟩,by rw [o1];exact by repeat (first|exact zpa|exact zpn|(apply zpc;focus (repeat (first|exact zh|apply zt)))|apply zps)⟩
 ·have hno:rootGet b=none:=rootGet_len h1
  have e1:rootO b=rootZ:=by simp [rootO,hno]
  have e2:rootE b=4:=by simp [rootE,hno]
  refine S.addNil (T:=Rp.u8) (e:=5) ?_;refine S.addNil (T:=Rp.u8) (e:=5) ?_;refine S.seq<|S.region rfl<|O.opE (.p rfl) (.alloc (cs:=[.int .i64 0,.int .i64 0,.int .i64 0,.slice none 0 0,.slice none 0 0]) zeroValue52 rfl) ?_;rintro _ _ ⟨b2,rfl,rfl⟩;refine zz 8 ?_;refine O.sT 10 rfl zJ ?_;refine zz 4 ?_;refine O.op (.p rfl) (.build (cs:=[_,_,_,_,_]) underlying52 rfl rfl rfl rfl rfl) ?_;refine zz 1 ?_;refine O.q 1 rfl<|O.nil<|S.retCellT results197 rfl rfl zC (LoadsAs.agg isAgg52 zB) fun w hw=>Holds.end_ hR hw ?_;exact ⟨_,⟨none,0,none,0,by rw [e1,e2];rfl,rfl⟩,by rw [e1];exact by repeat (first|exact zpa|exact zpn|(apply zpc;focus (repeat (first|exact zh|apply zt)))|apply zps)⟩
theorem r16ahead_c {r:Fr} {va vb:Value} {xs ys:List UInt8} (ha:Arr Rp.u8 r va xs) (hb:Arr Rp.u8 r vb ys) (hl:xs.length=ys.length) :
  Con prog 242 #[va,vb] r [] (Ret fun v η=>v=.bool (decide (xs<ys))∧η=[]):=by
 refine Con.o func242 fun g hg R hR=>?_;have ha:=ha.mono hg;have hb:=hb.mono hg;have hbd:=ha.bound;obtain ⟨a1,c1,rfl⟩:=ha.shape;obtain ⟨a2,c2,rfl⟩:=hb.shape;refine zz 10 ?_;refine S.loopK (ι:=Nat) (fun i=>i≤xs.length∧xs.take i=ys.take i) (fun i=>[(5,.int .i64 (i:Int))]) [(0,_),(1,_)] (fun i=>[]) (fun i=>xs.length - i) (0) zG zq zq rfl fun i hx ih=>?_;have hm1:=meltRefl (g:=g);obtain ⟨hx1,hx2⟩:=hx
 by_cases hi:i<xs.length
 ·have hi2:i<ys.length:=by omega
  by_cases e:xs[i]=ys[i]
  ·
   refine zz 7 ?_;refine O.sT 9 rfl (by exact decide_eq_true zD) ?_;refine zz 5 ?_;refine O.sT 14 rfl (by exact decide_eq_true zD) ?_;refine zz 7 ?_;refine S.regionD (L:=.range 9) F.mixed zB ?_;refine zz 2 ?_;refine OD.ia (.p rfl) underlying31 size5 rfl rfl rfl zA (h:=fun p20 cs20 hp20 hr20=>?_)
   cases hr20
   refine zz 1 ?_;refine OD.q 2 rfl<|OD.ia (.p rfl) underlying31 size5 rfl rfl rfl zA (h:=fun p24 cs24 hp24 hr24=>?_)
   cases hr24
   refine zz 2 ?_;refine OD.sF 26 rfl (by exact decide_eq_false (by rw [e];omega)) ?_;refine zz 9 ?_;exact S.wk (ih (i+1) (by exact ⟨by omega,take_same hi hi2 hx2 e⟩) zD)
  ·have hne:xs[i].toNat≠ys[i].toNat:=fun q=>e (UInt8.toNat_inj.1 q)
   have hlt:=lt_at hi hi2 hx2 e;refine zz 7 ?_;refine O.sT 9 rfl (by exact decide_eq_true zD) ?_;refine zz 5 ?_;refine O.sT 14 rfl (by exact decide_eq_true zD) ?_;refine zz 7 ?_;refine S.regionD (L:=.range 9) F.mixed zB ?_;refine zz 2 ?_;refine OD.ia (.p rfl) underlying31 size5 rfl rfl rfl zA (h:=fun p20 cs20 hp20 hr20=>?_)
   cases hr20
   refine zz 1 ?_;refine OD.q 2 rfl<|OD.ia (.p rfl) underlying31 size5 rfl rfl rfl zA (h:=fun p24 cs24 hp24 hr24=>?_)
   cases hr24
   refine zz 2 ?_;refine OD.sT 26 rfl (by exact decide_eq_true zD) ?_;refine ODx.nil<|S.condT rfl<|S.seq<|S.regionD (L:=.range 10) F.mixed zB<|OD.q 2 rfl<|OD.ia (.p rfl) underlying31 size5 rfl rfl rfl zA (h:=fun p29 cs29 hp29 hr29=>?_)
   cases hr29
   refine zz 1 ?_;refine OD.q 2 rfl<|OD.ia (.p rfl) underlying31 size5 rfl rfl rfl zA (h:=fun p33 cs33 hp33 hr33=>?_)
   cases hr33
   refine zz 4 ?_;exact S.rt results242 rfl hR ⟨congrArg _ (decide_eq_decide.2 (by rw [hlt];omega)),rfl⟩
 ·clear ih
  have hi1:i=xs.length:=by omega
  have hi2:i=ys.length:=by omega
  have he:xs=ys:=by rw [← List.take_length (l:=xs),← hi1,hx2,hi2,List.take_length]
  refine zz 7 ?_;refine O.sF 9 rfl (by exact decide_eq_false zD) ?_;refine zz 13 ?_;exact S.rt results242 rfl hR ⟨congrArg _ (decide_eq_false (by rw [he];exact List.lt_irrefl _)).symm,rfl⟩
theorem r16right_c {r:Fr} {cs:List Value} {v:EvdT} (h:EvdRp.rel r cs v):Con prog 155 #[.agg cs.toArray] r [] (Ret fun u η=>u=.bool (evdOk v)∧η=[]):=by
 obtain ⟨xa3,xa4,xa8,xa9,xc3,xc4,xc8,xc9,rfl,k0,k1,k2,k3,k4,k5,k6,k7,k8,k9⟩:=EvdRp.sh h;have hO:=evdOk_iff (e:=v);have r1:RootRp.rel r _ v.1:=RootRp.mk k0 k1 k2 k3 k4;have r2:RootRp.rel r _ v.2.1:=RootRp.mk k5 k6 k7 k8 k9;refine Con.o func155 fun g hg R hR=>?_;have h:=h.mono hg;have r1:=r1.mono hg;have r2:=r2.mono hg;have k3:=k3.mono hg;have k8:=k8.mono hg;refine S.seq<|S.region rfl<|O.opE (.p rfl) (.box (cs:=[_,_,_,_,_,_,_,_,_,_]) rfl rfl) ?_;rintro _ _ ⟨b1,rfl,rfl⟩;refine zz 3 ?_;refine S.frzO zC fun g hs hm hb1=>?_;replace hg:=Fr.sub_trans hg hs;replace hR:=melted hR hm
 try replace h:=h.mono hs
 try replace r1:=r1.mono hs
 try replace r2:=r2.mono hs
 try replace k3:=k3.mono hs
 try replace k8:=k8.mono hs
 clear hs hm;refine S.regionD (L:=.range 8) F.mixed zB ?_;refine zz 1 ?_;refine .quiet (.p rfl) rfl (fun _=>.loadAgg (cs:=[_,_,_,_,_]) isAgg52 zB rfl (hb1.take 5)) ?_;refine zz 1 ?_;refine .quiet (.p rfl) rfl (fun _=>.loadAgg (cs:=[_,_,_,_,_]) isAgg52 zB rfl ((hb1.drop 5).take 5)) ?_;refine .lazy rfl zB rfl fun b3=>?_;refine .lazy rfl zB rfl fun b4=>?_;refine OD.storeObj rfl zB zB rfl rfl rfl rfl zC zU ?_;refine OD.storeObj rfl zB zB rfl rfl rfl rfl zC zU ?_;refine zz 2 ?_
 by_cases n0:¬ (rootOk v.1=true)
 ·
  refine zz 2 ?_;refine O.v0 (.p rfl) rfl zB rfl rfl ((r15right_c (x:=v.1) r1)) ?_;refine O.sF 10 rfl (by exact (by simpa using n0)) ?_;refine zz 34 ?_;exact S.rt results155 rfl hR ⟨congrArg _ (Bool.eq_false_iff.2 fun q=>n0 (hO.1 q).1).symm,rfl⟩
 have c0:=Classical.not_not.1 n0
 by_cases n1:¬ (rootOk v.2.1=true)
 ·
  refine zz 2 ?_;refine O.v0 (.p rfl) rfl zB rfl rfl ((r15right_c (x:=v.1) r1)) ?_;refine O.sT 10 rfl (by exact c0) ?_;refine zz 2 ?_;refine O.v0 (.g rfl rfl) rfl zB rfl rfl ((r15right_c (x:=v.2.1) r2)) ?_;refine O.sF 13 rfl (by exact (by simpa using n1)) ?_;refine zz 31 ?_;exact S.rt results155 rfl hR ⟨congrArg _ (Bool.eq_false_iff.2 fun q=>n1 (hO.1 q).2.1).symm,rfl⟩
 have c1:=Classical.not_not.1 n1;have hl:v.1.2.2.2.1.length=v.2.1.2.2.2.1.length:=by rw [(rootShape_iff.1 (rootOk_iff.1 c0).1).2.2.2.2.2.2,(rootShape_iff.1 (rootOk_iff.1 c1).1).2.2.2.2.2.2]
 by_cases n2:¬ (v.1.1=v.2.1.1)
 ·
  refine zz 2 ?_;refine O.v0 (.p rfl) rfl zB rfl rfl ((r15right_c (x:=v.1) r1)) ?_;refine O.sT 10 rfl (by exact c0) ?_;refine zz 2 ?_;refine O.v0 (.g rfl rfl) rfl zB rfl rfl ((r15right_c (x:=v.2.1) r2)) ?_;refine O.sT 13 rfl (by exact c1) ?_;refine zz 7 ?_;refine O.sF 20 rfl (by exact decide_eq_false n2) ?_;refine zz 24 ?_;exact S.rt results155 rfl hR ⟨congrArg _ (Bool.eq_false_iff.2 fun q=>n2 (hO.1 q).2.2.1).symm,rfl⟩
 have c2:=Classical.not_not.1 n2
 by_cases n3:¬ (v.1.2.1=v.2.1.2.1)
 ·
  refine zz 2 ?_;refine O.v0 (.p rfl) rfl zB rfl rfl ((r15right_c (x:=v.1) r1)) ?_;refine O.sT 10 rfl (by exact c0) ?_;refine zz 2 ?_;refine O.v0 (.g rfl rfl) rfl zB rfl rfl ((r15right_c (x:=v.2.1) r2)) ?_;refine O.sT 13 rfl (by exact c1) ?_;refine zz 7 ?_;refine O.sT 20 rfl (by exact decide_eq_true c2) ?_;refine zz 7 ?_;refine O.sF 27 rfl (by exact decide_eq_false n3) ?_;refine zz 17 ?_;exact S.rt results155 rfl hR ⟨congrArg _ (Bool.eq_false_iff.2 fun q=>n3 (hO.1 q).2.2.2.1).symm,rfl⟩
 have c3:=Classical.not_not.1 n3
 by_cases n4:¬ (v.1.2.2.1=v.2.1.2.2.1)
 ·
  refine zz 2 ?_;refine O.v0 (.p rfl) rfl zB rfl rfl ((r15right_c (x:=v.1) r1)) ?_;refine O.sT 10 rfl (by exact c0) ?_;refine zz 2 ?_;refine O.v0 (.g rfl rfl) rfl zB rfl rfl ((r15right_c (x:=v.2.1) r2)) ?_;refine O.sT 13 rfl (by exact c1) ?_;refine zz 7 ?_;refine O.sT 20 rfl (by exact decide_eq_true c2) ?_;refine zz 7 ?_;refine O.sT 27 rfl (by exact decide_eq_true c3) ?_;refine zz 7 ?_;refine O.sF 34 rfl (by exact decide_eq_false n4) ?_;refine zz 10 ?_;exact S.rt results155 rfl hR ⟨congrArg _ (Bool.eq_false_iff.2 fun q=>n4 (hO.1 q).2.2.2.2.1).symm,rfl⟩
 have c4:=Classical.not_not.1 n4
 by_cases n5:¬ (v.1.2.2.2.1<v.2.1.2.2.2.1)
 ·
  refine zz 2 ?_;refine O.v0 (.p rfl) rfl zB rfl rfl ((r15right_c (x:=v.1) r1)) ?_;refine O.sT 10 rfl (by exact c0) ?_;refine zz 2 ?_;refine O.v0 (.g rfl rfl) rfl zB rfl rfl ((r15right_c (x:=v.2.1) r2)) ?_;refine O.sT 13 rfl (by exact c1) ?_;refine zz 7 ?_;refine O.sT 20 rfl (by exact decide_eq_true c2) ?_;refine zz 7 ?_;refine O.sT 27 rfl (by exact decide_eq_true c3) ?_;refine zz 7 ?_;refine O.sT 34 rfl (by exact decide_eq_true c4) ?_;refine zz 6 ?_;refine O.v0 (.g rfl rfl) rfl zB rfl rfl ((r16ahead_c k3 k8 hl)) ?_;refine O.sF 41 rfl (by exact decide_eq_false n5) ?_;refine zz 3 ?_;exact S.rt results155 rfl hR ⟨congrArg _ (Bool.eq_false_iff.2 fun q=>n5 (hO.1 q).2.2.2.2.2).symm,rfl⟩
 have c5:=Classical.not_not.1 n5;refine zz 2 ?_;refine O.v0 (.p rfl) rfl zB rfl rfl ((r15right_c (x:=v.1) r1)) ?_;refine O.sT 10 rfl (by exact c0) ?_;refine zz 2 ?_;refine O.v0 (.g rfl rfl) rfl zB rfl rfl ((r15right_c (x:=v.2.1) r2)) ?_;refine O.sT 13 rfl (by exact c1) ?_;refine zz 7 ?_;refine O.sT 20 rfl (by exact decide_eq_true c2) ?_;refine zz 7 ?_;refine O.sT 27 rfl (by exact decide_eq_true c3) ?_;refine zz 7 ?_;refine O.sT 34 rfl (by exact decide_eq_true c4) ?_;refine zz 6 ?_;refine O.v0 (.g rfl rfl) rfl zB rfl rfl ((r16ahead_c k3 k8 hl)) ?_;refine O.sT 41 rfl (by exact decide_eq_true c5) ?_;refine zz 3 ?_;exact S.rt results155 rfl hR ⟨congrArg _ (hO.2 ⟨c0,c1,c2,c3,c4,c5⟩).symm,rfl⟩
theorem r16put_c {r:Fr} {cs:List Value} {v:EvdT} (h:EvdRp.rel r cs v) :
  Con prog 67 #[.agg cs.toArray] r [] (Ret fun u η=>∃ a c,u=.tuple #[.slice a (evdOut v).length c,.int .i64 (evdErr v)]∧η=[OwnP Rp.u8 5 (.slice a (evdOut v).length c) (evdOut v)]):=by
 obtain ⟨xa3,xa4,xa8,xa9,xc3,xc4,xc8,xc9,rfl,k0,k1,k2,k3,k4,k5,k6,k7,k8,k9⟩:=EvdRp.sh h;have r1:RootRp.rel r _ v.1:=RootRp.mk k0 k1 k2 k3 k4;have r2:RootRp.rel r _ v.2.1:=RootRp.mk k5 k6 k7 k8 k9;refine Con.o func67 fun g hg R hR=>?_;have h:=h.mono hg;have r1:=r1.mono hg;have r2:=r2.mono hg;refine S.seq<|S.region rfl<|O.opE (.p rfl) (.box (cs:=[_,_,_,_,_,_,_,_,_,_]) rfl rfl) ?_;rintro _ _ ⟨b1,rfl,rfl⟩;refine zz 5 ?_;refine S.frzO zC fun g hs hm hb1=>?_;replace hg:=Fr.sub_trans hg hs;replace hR:=melted hR hm
 try replace h:=h.mono hs
 try replace r1:=r1.mono hs
 try replace r2:=r2.mono hs
 clear hs hm
 cases e:evdOk v with
 |false =>
  have e1:evdOut v=[]:=by simp [evdOut,e]
  have e2:evdErr v=4:=by simp [evdErr,e]
  rw [e1,e2] at hR;refine S.region rfl<|O.op (.p rfl) (.loadAgg isAgg55 zB rfl hb1) ?_;refine O.v0 (.p rfl) rfl zB rfl rfl ((r16right_c h)) ?_;refine O.sF 9 rfl (by exact e) ?_;refine zz 8 ?_;refine S.addNil (T:=Rp.u8) (e:=5) ?_;refine S.ret2 results67 rfl rfl fun w hw=>Holds.end_ hR hw ?_;exact pk ⟨none,0,rfl,rfl⟩
 |true =>
  have hO:=evdOk_iff.1 e;have o1:rootOut v.1=rootB v.1:=by simp [rootOut,hO.1]
  have o2:rootOut v.2.1=rootB v.2.1:=by simp [rootOut,hO.2.1]
  have l1:=rootB_length hO.1;have l2:=rootB_length hO.2.1;have e1:evdOut v=evdB v:=by simp [evdOut,e]
  have e2:evdErr v=0:=by simp [evdErr,e]
  have hl:=evdB_length e;have hfl:[bytesOf (rootB v.1),bytesOf (rootB v.2.1)].flatten=evdB v:=by simp [evdB]
  rw [e1,e2] at hR;refine S.region rfl<|O.op (.p rfl) (.loadAgg isAgg55 zB rfl hb1) ?_;refine O.v0 (.p rfl) rfl zB rfl rfl ((r16right_c h)) ?_;refine O.sT 9 rfl (by exact e) ?_;refine zz 6 ?_;refine O.op (.p rfl) (.fieldAddr fld55x0 rfl)<|O.op (.p rfl) (.loadAgg (cs:=[_,_,_,_,_]) isAgg52 zB rfl (hb1.take 5)) ?_;refine O.call0 (.p rfl) rfl zB rfl rfl ((r15put_c (x:=v.1) r1)) ?_;rintro _ _ ⟨a14,c14,rfl,rfl⟩;rw [o1];refine zz 8 ?_;refine O.op (.p rfl) (.fieldAddr fld55x1 rfl)<|O.op (.p rfl) (.loadAgg (cs:=[_,_,_,_,_]) isAgg52 zB rfl ((hb1.drop 5).take 5)) ?_;refine O.call0 (.p rfl) rfl zB rfl rfl ((r15put_c (x:=v.2.1) r2)) ?_;rintro _ _ ⟨a20,c20,rfl,rfl⟩;rw [o2];refine zz 9 ?_;refine O.callB (.p rfl) rfl zB rfl rfl (bs:=[OwnP Rp.u8 5 (.slice a14 (rootB v.1).length c14) (rootB v.1)]) zI (fun m hm hd=>refBytes_c (hm.arr.right hd) zD) ?_;rintro _ _ ⟨a24,c24,rfl,rfl⟩;refine O.q 1 rfl<|O.callB (.p rfl) rfl zB rfl rfl (bs:=[OwnP Rp.u8 5 (.slice a20 (rootB v.2.1).length c20) (rootB v.2.1)]) zI (fun m hm hd=>refBytes_c (hm.arr.right hd) zD) ?_;rintro _ _ ⟨a26,c26,rfl,rfl⟩;refine O.opE (.p rfl) (.litP (T:=Rp.val) (ys:=[_,_]) underlying39 elem31 zE rfl rfl ⟨⟨rfl,rfl⟩,⟨rfl,rfl⟩,trivial⟩ zE) ?_;rintro _ _ ⟨a27,c27,rfl,rfl⟩
  refine O.callB (.p rfl) rfl zB rfl rfl (bs:=[OwnP Rp.val 31 (.slice a27 2 c27) [.slice a24 (bytesOf (rootB v.1)).length c24,.slice a26 (bytesOf (rootB v.2.1)).length c26],OwnP Rp.u8 5 (.slice a24 (bytesOf (rootB v.1)).length c24) (bytesOf (rootB v.1)),OwnP Rp.u8 5 (.slice a26 (bytesOf (rootB v.2.1)).length c26) (bytesOf (rootB v.2.1))]) zI (fun m hm hd=>refJoin_c (xss:=[bytesOf (rootB v.1),bytesOf (rootB v.2.1)]) ((hm.arr.right hd).rows ⟨hm.tail.arr.right hd,hm.tail.tail.arr.right hd,trivial⟩) (by rw [hfl];omega)) ?_;rintro _ _ ⟨a28,c28,rfl,rfl⟩;rw [hfl];refine O.q 2 rfl<|O.nil<|S.ret2 results67 rfl rfl fun w hw=>Holds.end_ hR hw ?_;exact pk ⟨a28,c28,rfl,rfl⟩
noncomputable def evdO (b:List UInt8):EvdT:=(evdGet b).getD (rootZ,rootZ,())
noncomputable def evdE (b:List UInt8):Int:=if (evdGet b).isSome then 0 else 4
theorem rootO_in (b:List UInt8):InI64 (rootO b).1∧InI64 (rootO b).2.1∧InI64 (rootO b).2.2.1:=by
 unfold rootO
 cases e:rootGet b with
 |none=>exact ⟨⟨by decide,by decide⟩,⟨by decide,by decide⟩,⟨by decide,by decide⟩⟩
 |some x =>
  have h:=rootShape_iff.1 (rootOk_iff.1 (rootGet_iff.1 e).1).1;simp only [Option.getD_some];exact ⟨⟨by omega,by omega⟩,⟨by omega,by omega⟩,⟨by omega,by omega⟩⟩
theorem r16get_c {r:Fr} {va:Value} {b:List UInt8} (ha:Arr Rp.u8 r va b) (hl:b.length≤1000000000) :
  Con prog 198 #[va] r [] (Ret fun v η=>∃ a3 c3 a4 c4 a8 c8 a9 c9,v=.tuple #[.agg (evdV (evdO b) (.slice a3 (evdO b).1.2.2.2.1.length c3) (.slice a4 (evdO b).1.2.2.2.2.1.length c4) (.slice a8 (evdO b).2.1.2.2.2.1.length c8) (.slice a9 (evdO b).2.1.2.2.2.2.1.length c9)).toArray,.int .i64 (evdE b)]∧η=evdWs (evdO b) (.slice a3 (evdO b).1.2.2.2.1.length c3) (.slice a4 (evdO b).1.2.2.2.2.1.length c4) (.slice a8 (evdO b).2.1.2.2.2.1.length c8) (.slice a9 (evdO b).2.1.2.2.2.2.1.length c9)):=by
 refine Con.o func198 fun g hg R hR=>?_;have ha:=ha.mono hg;obtain ⟨a1,c1,rfl⟩:=ha.shape;refine S.seq<|S.region rfl<|O.opE (.p rfl) (.alloc (cs:=[.int .i64 0,.int .i64 0,.int .i64 0,.slice none 0 0,.slice none 0 0,.int .i64 0,.int .i64 0,.int .i64 0,.slice none 0 0,.slice none 0 0]) zeroValue55 rfl) ?_;rintro _ _ ⟨b2,rfl,rfl⟩;refine zz 5 ?_;refine O.call0 (.p rfl) rfl zB rfl rfl (rfNew_c zA zH) ?_;rintro _ _ ⟨b13,rfl,rfl⟩;refine zz 3 ?_;generalize hy:(RS.mk true b).bytes 153=y;have ly:y.2.rest.length≤1000000000:=by rw [← hy];exact Nat.le_trans (RS.bytes_len _ _) hl
 have lo:y.1.length≤1000000000:=by rw [← hy];exact Nat.le_trans (RS.bytes_out _ _) hl
 generalize hz:y.2.bytes 153=z;have lz:z.1.length≤1000000000:=by rw [← hz];exact Nat.le_trans (RS.bytes_out _ _) ly
 have hev:evdGet b=(rootGet y.1).bind fun a=>(rootGet z.1).bind fun c=>if z.2.done=true∧evdOk (a,c,())=true then some (a,c,()) else none:=by unfold evdGet;simp only;rw [hy,hz]
 obtain ⟨i0,i1,i2⟩:=rootO_in y.1;obtain ⟨i5,i6,i7⟩:=rootO_in z.1;refine zz 2 ?_;refine O.callS (.p rfl) rfl zB rfl rfl zC (rfBytes_c _) ?_;rintro _ _ ⟨a15,c15,rfl,rfl⟩;rw [hy];refine O.frzA zC fun g hs hm ha15=>?_;replace hg:=Fr.sub_trans hg hs;replace hR:=melted hR hm
 try replace ha:=ha.mono hs
 clear hs hm;refine zz 5 ?_;refine O.callS (.p rfl) rfl zB rfl rfl zC (rfBytes_c _) ?_;rintro _ _ ⟨a17,c17,rfl,rfl⟩;rw [hz];refine O.frzA zC fun g hs hm ha17=>?_;replace hg:=Fr.sub_trans hg hs;replace hR:=melted hR hm
 try replace ha:=ha.mono hs
 try replace ha15:=ha15.mono hs
 clear hs hm;refine zz 5 ?_;refine O.call0 (.p rfl) rfl zB rfl rfl ((r15get_c ha15 lo)) ?_;rintro _ _ ⟨a3_20,c3_20,a4_20,c4_20,rfl,rfl⟩;refine O.q 3 rfl<|O.opE (.p rfl) (.alloc (cs:=[.int .i64 0,.int .i64 0,.int .i64 0,.slice none 0 0,.slice none 0 0]) zeroValue52 rfl) ?_;rintro _ _ ⟨b7,rfl,rfl⟩;refine zz 6 ?_;refine O.call0 (.p rfl) rfl zB rfl rfl ((r15get_c ha17 lz)) ?_;rintro _ _ ⟨a3_25,c3_25,a4_25,c4_25,rfl,rfl⟩;refine O.q 3 rfl<|O.opE (.p rfl) (.alloc (cs:=[.int .i64 0,.int .i64 0,.int .i64 0,.slice none 0 0,.slice none 0 0]) zeroValue52 rfl) ?_;rintro _ _ ⟨b9,rfl,rfl⟩;refine zz 4 ?_;generalize hA:rootO y.1=A at i0 i1 i2 ⊢;generalize hC:rootO z.1=C at i5 i6 i7 ⊢;refine S.objIs (b:=b7) (cs' :=[.int .i64 A.1,.int .i64 A.2.1,.int .i64 A.2.2.1,.slice a3_20 A.2.2.2.1.length c3_20,.slice a4_20 A.2.2.2.2.1.length c4_20]) zC rfl ?_;refine S.objIs (b:=b9) (cs' :=[.int .i64 C.1,.int .i64 C.2.1,.int .i64 C.2.2.1,.slice a3_25 C.2.2.2.1.length c3_25,.slice a4_25 C.2.2.2.2.1.length c4_25]) zC rfl ?_;refine zz 3 ?_;refine O.op (.p rfl) (.build (cs:=[_,_,_,_,_,_,_,_,_,_]) underlying55 rfl rfl rfl rfl rfl)<|O.opE (.p rfl) (.alloc (cs:=[.int .i64 0,.int .i64 0,.int .i64 0,.slice none 0 0,.slice none 0 0,.int .i64 0,.int .i64 0,.int .i64 0,.slice none 0 0,.slice none 0 0]) zeroValue55 rfl) ?_;rintro _ _ ⟨b11,rfl,rfl⟩;refine zz 1 ?_
 refine O.nil<|S.seq<|S.seq<|S.objIs (b:=b11) (cs' :=[.int .i64 A.1,.int .i64 A.2.1,.int .i64 A.2.2.1,.slice a3_20 A.2.2.2.1.length c3_20,.slice a4_20 A.2.2.2.2.1.length c4_20,.int .i64 C.1,.int .i64 C.2.1,.int .i64 C.2.2.1,.slice a3_25 C.2.2.2.1.length c3_25,.slice a4_25 C.2.2.2.2.1.length c4_25]) zC rfl ?_
 cases e3:z.2.done with
 |false =>
  have g1:evdGet b=none:=by rw [hev];cases rootGet y.1<;>cases rootGet z.1<;>simp [e3]
  have o1:evdO b=(rootZ,rootZ,()):=by simp [evdO,g1]
  have o2:evdE b=4:=by simp [evdE,g1]
  refine S.addNil (T:=Rp.u8) (e:=5) ?_;refine S.addNil (T:=Rp.u8) (e:=5) ?_;refine S.addNil (T:=Rp.u8) (e:=5) ?_;refine S.addNil (T:=Rp.u8) (e:=5) ?_;refine zz 2 ?_;refine O.vS (.p rfl) rfl zB rfl rfl zC rfDone_c ?_;refine O.sF 32 rfl (by exact e3) ?_;refine zz 18 ?_;refine O.op (.p rfl) (.build (cs:=[_,_,_,_,_,_,_,_,_,_]) underlying55 rfl rfl rfl rfl rfl) ?_;refine zz 1 ?_;refine O.q 1 rfl<|O.nil<|S.retCellT results198 rfl rfl zC (LoadsAs.agg isAgg55 zB) fun w hw=>Holds.end_ hR hw ?_;exact ⟨_,⟨none,0,none,0,none,0,none,0,by rw [o1,o2];rfl,rfl⟩,by rw [o1];exact by repeat (first|exact zpa|exact zpn|(apply zpc;focus (repeat (first|exact zh|apply zt)))|apply zps)⟩
 |true =>
  cases r1:rootGet y.1 with
  |none =>
   have E1:rootE y.1=4:=by simp [rootE,r1]
   rw [E1];have g1:evdGet b=none:=by rw [hev,r1];rfl
   have o1:evdO b=(rootZ,rootZ,()):=by simp [evdO,g1]
   have o2:evdE b=4:=by simp [evdE,g1]
   refine S.addNil (T:=Rp.u8) (e:=5) ?_;refine S.addNil (T:=Rp.u8) (e:=5) ?_;refine S.addNil (T:=Rp.u8) (e:=5) ?_;refine S.addNil (T:=Rp.u8) (e:=5) ?_;refine zz 2 ?_;refine O.vS (.p rfl) rfl zB rfl rfl zC rfDone_c ?_;refine O.sT 32 rfl (by exact e3) ?_;refine zz 4 ?_;refine O.sT 36 rfl zE ?_;refine zz 14 ?_;refine O.op (.p rfl) (.build (cs:=[_,_,_,_,_,_,_,_,_,_]) underlying55 rfl rfl rfl rfl rfl) ?_;refine zz 1 ?_;refine O.q 1 rfl<|O.nil<|S.retCellT results198 rfl rfl zC (LoadsAs.agg isAgg55 zB) fun w hw=>Holds.end_ hR hw ?_;exact ⟨_,⟨none,0,none,0,none,0,none,0,by rw [o1,o2];rfl,rfl⟩,by rw [o1];exact by repeat (first|exact zpa|exact zpn|(apply zpc;focus (repeat (first|exact zh|apply zt)))|apply zps)⟩
  |some x1 =>
   have E1:rootE y.1=0:=by simp [rootE,r1]
   have A1:A=x1:=by rw [← hA];simp [rootO,r1]
   rw [E1]
   cases r2:rootGet z.1 with
   |none =>
    have E2:rootE z.1=4:=by simp [rootE,r2]
    rw [E2];have g1:evdGet b=none:=by rw [hev,r1,r2];rfl
    have o1:evdO b=(rootZ,rootZ,()):=by simp [evdO,g1]
    have o2:evdE b=4:=by simp [evdE,g1]
    refine S.addNil (T:=Rp.u8) (e:=5) ?_;refine S.addNil (T:=Rp.u8) (e:=5) ?_;refine S.addNil (T:=Rp.u8) (e:=5) ?_;refine S.addNil (T:=Rp.u8) (e:=5) ?_;refine zz 2 ?_;refine O.vS (.p rfl) rfl zB rfl rfl zC rfDone_c ?_;refine O.sT 32 rfl (by exact e3) ?_;refine zz 4 ?_;refine O.sF 36 rfl zE ?_;refine zz 4 ?_;refine O.sT 40 rfl zE ?_;refine zz 10 ?_;refine O.op (.p rfl) (.build (cs:=[_,_,_,_,_,_,_,_,_,_]) underlying55 rfl rfl rfl rfl rfl) ?_;refine zz 1 ?_;refine O.q 1 rfl<|O.nil<|S.retCellT results198 rfl rfl zC (LoadsAs.agg isAgg55 zB) fun w hw=>Holds.end_ hR hw ?_;exact ⟨_,⟨none,0,none,0,none,0,none,0,by rw [o1,o2];rfl,rfl⟩,by rw [o1];exact by repeat (first|exact zpa|exact zpn|(apply zpc;focus (repeat (first|exact zh|apply zt)))|apply zps)⟩
   |some x2 =>
    have E2:rootE z.1=0:=by simp [rootE,r2]
    have C1:C=x2:=by rw [← hC];simp [rootO,r2]
    rw [E2];have hev2:evdGet b=if evdOk (A,C,())=true then some (A,C,()) else none:=by rw [hev,r1,r2,A1,C1];simp [e3]
    have hrel:∀ {m:Fr} (v3 v4 v8 v9:Value),Arr Rp.u8 m v3 A.2.2.2.1→Arr Rp.u8 m v4 A.2.2.2.2.1→Arr Rp.u8 m v8 C.2.2.2.1→Arr Rp.u8 m v9 C.2.2.2.2.1→EvdRp.rel m [.int .i64 A.1,.int .i64 A.2.1,.int .i64 A.2.2.1,v3,v4,.int .i64 C.1,.int .i64 C.2.1,.int .i64 C.2.2.1,v8,v9] (A,C,()):=fun v3 v4 v8 v9 h3 h4 h8 h9=>EvdRp.mk i0 i1 i2 h3 h4 i5 i6 i7 h8 h9
    cases e4:evdOk (A,C,()) with
    |false =>
     have g1:evdGet b=none:=by rw [hev2,e4];rfl
     have o1:evdO b=(rootZ,rootZ,()):=by simp [evdO,g1]
     have o2:evdE b=4:=by simp [evdE,g1]
     refine S.addNil (T:=Rp.u8) (e:=5) ?_;refine S.addNil (T:=Rp.u8) (e:=5) ?_;refine S.addNil (T:=Rp.u8) (e:=5) ?_;refine S.addNil (T:=Rp.u8) (e:=5) ?_;refine zz 2 ?_;refine O.vS (.p rfl) rfl zB rfl rfl zC rfDone_c ?_;refine O.sT 32 rfl (by exact e3) ?_;refine zz 4 ?_;refine O.sF 36 rfl zE ?_;refine zz 4 ?_;refine O.sF 40 rfl zE ?_;refine zz 3 ?_;refine O.callB (.g rfl rfl) rfl zB rfl rfl (bs:=[OwnP Rp.u8 5 (.slice a3_20 A.2.2.2.1.length c3_20) A.2.2.2.1,OwnP Rp.u8 5 (.slice a4_20 A.2.2.2.2.1.length c4_20) A.2.2.2.2.1,OwnP Rp.u8 5 (.slice a3_25 C.2.2.2.1.length c3_25) C.2.2.2.1,OwnP Rp.u8 5 (.slice a4_25 C.2.2.2.2.1.length c4_25) C.2.2.2.2.1]) zI (fun m hm hd=>r16right_c (hrel _ _ _ _ (hm.arr.right hd) (hm.tail.arr.right hd) (hm.tail.tail.arr.right hd) (hm.tail.tail.tail.arr.right hd))) ?_;rintro _ _ ⟨rfl,rfl⟩;refine O.sF 44 rfl (by exact e4) ?_;refine zz 6 ?_;refine O.op (.p rfl) (.build (cs:=[_,_,_,_,_,_,_,_,_,_]) underlying55 rfl rfl rfl rfl rfl) ?_;refine zz 1 ?_;refine O.q 1 rfl<|O.nil<|S.retCellT results198 rfl rfl zC (LoadsAs.agg isAgg55 zB) fun w hw=>Holds.end_ hR hw ?_;exact ⟨_,⟨none,0,none,0,none,0,none,0,by rw [o1,o2];rfl,rfl⟩,by rw [o1];exact by repeat (first|exact zpa|exact zpn|(apply zpc;focus (repeat (first|exact zh|apply zt)))|apply zps)⟩
    |true =>
     have g1:evdGet b=some (A,C,()):=by rw [hev2,e4];rfl
     have o1:evdO b=(A,C,()):=by simp [evdO,g1]
     have o2:evdE b=0:=by simp [evdE,g1]
     refine zz 2 ?_;refine O.vS (.p rfl) rfl zB rfl rfl zC rfDone_c ?_;refine O.sT 32 rfl (by exact e3) ?_;refine zz 4 ?_;refine O.sF 36 rfl zE ?_;refine zz 4 ?_;refine O.sF 40 rfl zE ?_;refine zz 3 ?_;refine O.callB (.g rfl rfl) rfl zB rfl rfl (bs:=[OwnP Rp.u8 5 (.slice a3_20 A.2.2.2.1.length c3_20) A.2.2.2.1,OwnP Rp.u8 5 (.slice a4_20 A.2.2.2.2.1.length c4_20) A.2.2.2.2.1,OwnP Rp.u8 5 (.slice a3_25 C.2.2.2.1.length c3_25) C.2.2.2.1,OwnP Rp.u8 5 (.slice a4_25 C.2.2.2.2.1.length c4_25) C.2.2.2.2.1]) zI (fun m hm hd=>r16right_c (hrel _ _ _ _ (hm.arr.right hd) (hm.tail.arr.right hd) (hm.tail.tail.arr.right hd) (hm.tail.tail.tail.arr.right hd))) ?_;rintro _ _ ⟨rfl,rfl⟩;refine O.sT 44 rfl (by exact e4) ?_;refine zz 9 ?_;refine O.q 1 rfl<|O.nil<|S.retCellT results198 rfl rfl zC (LoadsAs.agg isAgg55 zB) fun w hw=>Holds.end_ hR hw ?_;exact ⟨_,⟨a3_20,c3_20,a4_20,c4_20,a3_25,c3_25,a4_25,c4_25,by rw [o1,o2];rfl,rfl⟩,by rw [o1];exact by repeat (first|exact zpa|exact zpn|(apply zpc;focus (repeat (first|exact zh|apply zt)))|apply zps)⟩
theorem r7dot_c {r:Fr} {a b:Int} (d:DotT) (h:d=(a,b,())):Con prog 286 #[.agg #[.int .i64 a,.int .i64 b]] r [] (Ret fun v η=>v=.bool (dotOk d)∧η=[]):=by
 subst h;refine Con.o func286 fun g hg R hR=>?_;refine S.seq<|S.region rfl<|O.opE (.p rfl) (.box (cs:=[_,_]) rfl rfl) ?_;rintro _ _ ⟨b1,rfl,rfl⟩;refine zz 8 ?_
 first|refine O.caseD 6 rfl (fun h6=>?_) (fun h6=>?_)|refine O.caseB 6 rfl (fun h6=>?_) (fun h6=>?_)
 ·refine zz 5 ?_
  first|refine O.caseD 11 rfl (fun h11=>?_) (fun h11=>?_)|refine O.caseB 11 rfl (fun h11=>?_) (fun h11=>?_)
  ·refine zz 5 ?_
   first|refine O.caseD 16 rfl (fun h16=>?_) (fun h16=>?_)|refine O.caseB 16 rfl (fun h16=>?_) (fun h16=>?_)
   ·refine zz 6 ?_
    refine S.ret results286 rfl fun w hw=>Holds.end_ hR hw ?_
    first|exact ⟨_,⟨congrArg _ (decide_eq_false zV).symm,rfl⟩,by repeat (first|exact zpa|exact zpn|(apply zpc;focus (repeat (first|exact zh|apply zt)))|apply zps)⟩|exact ⟨_,⟨congrArg _ (decide_eq_decide.2 zV),rfl⟩,by repeat (first|exact zpa|exact zpn|(apply zpc;focus (repeat (first|exact zh|apply zt)))|apply zps)⟩
   ·refine O.q 5 rfl<|O.nil<|S.ret results286 rfl fun w hw=>Holds.end_ hR hw ?_
    first|exact ⟨_,⟨congrArg _ (decide_eq_false zV).symm,rfl⟩,by repeat (first|exact zpa|exact zpn|(apply zpc;focus (repeat (first|exact zh|apply zt)))|apply zps)⟩|exact ⟨_,⟨congrArg _ (decide_eq_decide.2 zV),rfl⟩,by repeat (first|exact zpa|exact zpn|(apply zpc;focus (repeat (first|exact zh|apply zt)))|apply zps)⟩
  ·refine O.q 10 rfl<|O.nil<|S.ret results286 rfl fun w hw=>Holds.end_ hR hw ?_
   first|exact ⟨_,⟨congrArg _ (decide_eq_false zV).symm,rfl⟩,by repeat (first|exact zpa|exact zpn|(apply zpc;focus (repeat (first|exact zh|apply zt)))|apply zps)⟩|exact ⟨_,⟨congrArg _ (decide_eq_decide.2 zV),rfl⟩,by repeat (first|exact zpa|exact zpn|(apply zpc;focus (repeat (first|exact zh|apply zt)))|apply zps)⟩
 ·refine O.q 15 rfl<|O.nil<|S.ret results286 rfl fun w hw=>Holds.end_ hR hw ?_
  first|exact ⟨_,⟨congrArg _ (decide_eq_false zV).symm,rfl⟩,by repeat (first|exact zpa|exact zpn|(apply zpc;focus (repeat (first|exact zh|apply zt)))|apply zps)⟩|exact ⟨_,⟨congrArg _ (decide_eq_decide.2 zV),rfl⟩,by repeat (first|exact zpa|exact zpn|(apply zpc;focus (repeat (first|exact zh|apply zt)))|apply zps)⟩
theorem r7right_c {r:Fr} {va:Value} {v:List DotT} (ha:Arr DotRp r va v):Con prog 287 #[va] r [] (Ret fun u η=>u=.bool (vecOk v)∧η=[]):=by
 refine Con.o func287 fun g hg R hR=>?_;have ha:=ha.mono hg;have hbd:=ha.bound;obtain ⟨a1,c1,rfl⟩:=ha.shape;refine zz 10 ?_;refine S.loopK (ι:=Nat) (fun k=>k≤v.length∧vecOk (v.take k)=true) (fun k=>[(3,.int .i64 (k:Int))]) [(0,_)] (fun k=>[]) (fun k=>v.length - k) (0) zX zq zq rfl fun k hx ih=>?_;have hm1:=meltRefl (g:=g);obtain ⟨hx1,hx2⟩:=hx;refine zz 8 ?_;refine S.cd rfl (fun h7=>?_) fun h7=>?_
 ·have hk:k<v.length:=by omega
  have hst:=vecOk_step hk hx2
  by_cases hd:dotOk v[k]=true
  ·by_cases h0:k=0
   ·
    refine S.skip<|S.seq<|S.block<|S.seq<|S.regionD (L:=.range 24) F.mixed zB<|OD.q 2 rfl<|OD.ia (.p rfl) underlying72 size166 rfl rfl rfl zA (h:=fun p12 cs12 hp12 hr12=>?_);obtain ⟨rfl,hi12,hj12⟩:=DotRp.open hr12;refine .quiet (.p rfl) rfl (fun _=>.loadAgg isAgg166 zB rfl hp12) ?_;refine OD.v0 (.p rfl) zB rfl zB rfl rfl ((r7dot_c v[k] rfl)) ?_;refine OD.sT 14 rfl (by exact hd) ?_;refine zz 4 ?_;refine OD.sF 18 rfl (by exact decide_eq_false zD) ?_;refine zz 24 ?_;exact S.wk (ih (k+1) (by exact ⟨by omega,hst.2 ⟨hd,fun h=>absurd h zD⟩⟩) zD)
   ·have hk1:k - 1<v.length:=by omega
    by_cases hlt:v[k - 1].1<v[k].1
    ·
     refine S.skip<|S.seq<|S.block<|S.seq<|S.regionD (L:=.range 24) F.mixed zB<|OD.q 2 rfl<|OD.ia (.p rfl) underlying72 size166 rfl rfl rfl zA (h:=fun p12 cs12 hp12 hr12=>?_);obtain ⟨rfl,hi12,hj12⟩:=DotRp.open hr12;refine .quiet (.p rfl) rfl (fun _=>.loadAgg isAgg166 zB rfl hp12) ?_;refine OD.v0 (.p rfl) zB rfl zB rfl rfl ((r7dot_c v[k] rfl)) ?_;refine OD.sT 14 rfl (by exact hd) ?_;refine zz 4 ?_;refine OD.sT 18 rfl (by exact decide_eq_true zD) ?_;refine zz 4 ?_;refine OD.ia (.g rfl rfl) underlying72 size166 rfl rfl (show _=(((k - 1):Nat):Int) by omega) zA (h:=fun p23 cs23 hp23 hr23=>?_);obtain ⟨rfl,hi23,hj23⟩:=DotRp.open hr23;refine zz 2 ?_;refine OD.q 2 rfl<|OD.ia (.g rfl rfl) underlying72 size166 rfl rfl rfl zA (h:=fun p28 cs28 hp28 hr28=>?_);obtain ⟨rfl,hi28,hj28⟩:=DotRp.open hr28;refine zz 3 ?_;refine OD.sF 31 rfl (by exact decide_eq_false zD) ?_;refine zz 11 ?_;exact S.wk (ih (k+1) (by exact ⟨by omega,hst.2 ⟨hd,fun _=>hlt⟩⟩) zD)
    ·
     refine S.skip<|S.seq<|S.block<|S.seq<|S.regionD (L:=.range 24) F.mixed zB<|OD.q 2 rfl<|OD.ia (.p rfl) underlying72 size166 rfl rfl rfl zA (h:=fun p12 cs12 hp12 hr12=>?_);obtain ⟨rfl,hi12,hj12⟩:=DotRp.open hr12;refine .quiet (.p rfl) rfl (fun _=>.loadAgg isAgg166 zB rfl hp12) ?_;refine OD.v0 (.p rfl) zB rfl zB rfl rfl ((r7dot_c v[k] rfl)) ?_;refine OD.sT 14 rfl (by exact hd) ?_;refine zz 4 ?_;refine OD.sT 18 rfl (by exact decide_eq_true zD) ?_;refine zz 4 ?_;refine OD.ia (.g rfl rfl) underlying72 size166 rfl rfl (show _=(((k - 1):Nat):Int) by omega) zA (h:=fun p23 cs23 hp23 hr23=>?_);obtain ⟨rfl,hi23,hj23⟩:=DotRp.open hr23;refine zz 2 ?_;refine OD.q 2 rfl<|OD.ia (.g rfl rfl) underlying72 size166 rfl rfl rfl zA (h:=fun p28 cs28 hp28 hr28=>?_);obtain ⟨rfl,hi28,hj28⟩:=DotRp.open hr28;refine zz 3 ?_;refine OD.sT 31 rfl (by exact decide_eq_true zD) ?_;refine zz 8 ?_;exact S.rt results287 rfl hR ⟨congrArg _ (vecOk_none (i:=k+1) (Bool.eq_false_iff.2 fun e=>hlt ((hst.1 e).2 zD))).symm,rfl⟩
  ·have hd' :dotOk v[k]=false:=by simpa using hd
   refine S.skip<|S.seq<|S.block<|S.seq<|S.regionD (L:=.range 24) F.mixed zB<|OD.q 2 rfl<|OD.ia (.p rfl) underlying72 size166 rfl rfl rfl zA (h:=fun p12 cs12 hp12 hr12=>?_);obtain ⟨rfl,hi12,hj12⟩:=DotRp.open hr12;refine .quiet (.p rfl) rfl (fun _=>.loadAgg isAgg166 zB rfl hp12) ?_;refine OD.v0 (.p rfl) zB rfl zB rfl rfl ((r7dot_c v[k] rfl)) ?_;refine OD.sF 14 rfl (by exact hd') ?_;refine zz 25 ?_;exact S.rt results287 rfl hR ⟨congrArg _ (vecOk_none (i:=k+1) (Bool.eq_false_iff.2 fun e=>hd (hst.1 e).1)).symm,rfl⟩
 ·clear ih
  have hk:k=v.length:=by omega
  subst hk;rw [List.take_length] at hx2;refine zz 5 ?_;exact S.rt results287 rfl hR ⟨by rw [hx2],rfl⟩
theorem r7up_c {r:Fr} {va:Value} {v:List DotT} (c:Int) (ha:Arr DotRp r va v) (ho:vecOk v=true) :
  Con prog 288 #[va,.int .i64 c] r [] (Ret fun u η=>∃ z,u=.int .i64 z∧(∀ s,1≤s→decide (s≤z)=hasM v (c,s,()))∧η=[]):=by
 have hri:=(vecOk_iff.1 ho).2;refine Con.o func288 fun g hg R hR=>?_;have ha:=ha.mono hg;have hbd:=ha.bound;obtain ⟨a1,c1,rfl⟩:=ha.shape;refine zz 10 ?_;refine S.loopK (ι:=Nat) (fun k=>k≤v.length∧∀ x∈v.take k,¬ x.1=c) (fun k=>[(5,.int .i64 (k:Int))]) [(0,_),(1,_)] (fun k=>[]) (fun k=>v.length - k) (0) zb25 zq zq rfl fun k hx ih=>?_;have hm1:=meltRefl (g:=g);obtain ⟨hx1,hx2⟩:=hx;refine zz 8 ?_;refine S.cd rfl (fun h9=>?_) fun h9=>?_
 ·have hk:k<v.length:=by omega
  by_cases e:v[k].1=c
  ·
   refine zz 7 ?_;refine O.ia (.p rfl) underlying72 size166 rfl rfl rfl zA (h:=fun p14 cs14 hp14 hr14=>?_);obtain ⟨rfl,hi14,hj14⟩:=DotRp.open hr14;refine O.op (.p rfl) (.fieldAddr fld166x0 rfl) ?_;refine zz 3 ?_;refine O.sT 18 rfl (by exact decide_eq_true e) ?_;refine zz 6 ?_;refine O.ia (.p rfl) underlying72 size166 rfl rfl rfl zA (h:=fun p21 cs21 hp21 hr21=>?_);obtain ⟨rfl,hi21,hj21⟩:=DotRp.open hr21;refine O.op (.p rfl) (.fieldAddr fld166x1 rfl) ?_;refine zz 3 ?_;exact S.rt results288 rfl hR ⟨_,rfl,fun s _=>(hasM_at (d:=(c,s,())) hri hk e).symm,rfl⟩
  ·
   refine zz 7 ?_;refine O.ia (.p rfl) underlying72 size166 rfl rfl rfl zA (h:=fun p14 cs14 hp14 hr14=>?_);obtain ⟨rfl,hi14,hj14⟩:=DotRp.open hr14;refine O.op (.p rfl) (.fieldAddr fld166x0 rfl) ?_;refine zz 3 ?_;refine O.sF 18 rfl (by exact decide_eq_false e) ?_;refine zz 9 ?_;exact S.wk (ih (k+1) (by exact ⟨by omega,mem_take_succ hk hx2 e⟩) zD)
 ·clear ih
  have hk:k=v.length:=by omega
  subst hk;rw [List.take_length] at hx2;refine zz 5 ?_;exact S.rt results288 rfl hR ⟨0,rfl,fun s hs=>by rw [decide_eq_false zD];exact (List.any_eq_false.2 fun x hx=>by simp [hx2 x hx]).symm,rfl⟩
theorem r7has_c {r:Fr} {va:Value} {v:List DotT} {a b:Int} (d:DotT) (h:d=(a,b,())) (ha:Arr DotRp r va v) :
  Con prog 216 #[va,.agg #[.int .i64 a,.int .i64 b]] r [] (Ret fun u η=>u=.bool (hasR v d)∧η=[]):=by
 subst h;refine Con.o func216 fun g hg R hR=>?_;have ha:=ha.mono hg;obtain ⟨a1,c1,rfl⟩:=ha.shape;refine S.seq<|S.region rfl<|O.opE (.p rfl) (.box (cs:=[_,_]) rfl rfl) ?_;rintro _ _ ⟨b3,rfl,rfl⟩;refine zz 3 ?_;refine S.frzO zC fun g hs hm hb3=>?_;replace hg:=Fr.sub_trans hg hs;replace hR:=melted hR hm
 try replace ha:=ha.mono hs
 clear hs hm
 cases e1:vecOk v with
 |false =>
  refine S.regionD (L:=[0,1,2,3,4,5,6,7,8,9,11,12,10,13,14,15]) F.mixed zB ?_;refine OD.q 1 rfl<|OD.v0 (.p rfl) zB rfl zB rfl rfl ((r7right_c ha)) ?_;refine OD.sF 6 rfl (by exact e1) ?_;refine zz 15 ?_;exact S.rt results216 rfl hR ⟨by simp [hasR,e1],rfl⟩
 |true =>
  cases e2:dotOk (a,b,()) with
  |false =>
   refine S.regionD (L:=[0,1,2,3,4,5,6,7,8,9,11,12,10,13,14,15]) F.mixed zB ?_;refine OD.q 1 rfl<|OD.v0 (.p rfl) zB rfl zB rfl rfl ((r7right_c ha)) ?_;refine OD.sT 6 rfl (by exact e1) ?_;refine OD.q 1 rfl<|.quiet (.g rfl rfl) rfl (fun _=>.loadAgg isAgg166 zB rfl hb3) ?_;refine OD.v0 (.g rfl rfl) zB rfl zB rfl rfl ((r7dot_c _ rfl)) ?_;refine OD.sF 9 rfl (by exact e2) ?_;refine zz 12 ?_;exact S.rt results216 rfl hR ⟨by simp [hasR,e1,e2],rfl⟩
  |true =>
   have hb:=(dotOk_iff.1 e2).2.2.1;refine S.regionD (L:=[0,1,2,3,4,5,6,7,8,9,11,12,10,13,14,15]) F.mixed zB ?_;refine OD.q 1 rfl<|OD.v0 (.p rfl) zB rfl zB rfl rfl ((r7right_c ha)) ?_;refine OD.sT 6 rfl (by exact e1) ?_;refine OD.q 1 rfl<|.quiet (.g rfl rfl) rfl (fun _=>.loadAgg isAgg166 zB rfl hb3) ?_;refine OD.v0 (.g rfl rfl) zB rfl zB rfl rfl ((r7dot_c _ rfl)) ?_;refine OD.sT 9 rfl (by exact e2) ?_;refine zz 7 ?_;refine OD.call0 (.g rfl rfl) zB rfl zB rfl rfl ((r7up_c _ ha e1)) ?_;rintro v15 _ ⟨z,rfl,hz,rfl⟩;refine zz 4 ?_;exact S.rt results216 rfl hR ⟨congrArg _ (by rw [hasR,e1,e2,← hz b hb];rfl),rfl⟩
theorem r8shape_c {r:Fr} {cs:List Value} {x:RecT} (h:RecRp.rel r cs x):Con prog 215 #[.agg cs.toArray] r [] (Ret fun v η=>v=.bool (shaped x)∧η=[]):=by
 obtain ⟨xa3,xa5,xa6,xc3,xc5,xc6,rfl,k0,k1,k2,k3,k5,k6⟩:=RecRp.sh h;have hz0:=str_size x.1;refine Con.o func215 fun g hg R hR=>?_;have h:=h.mono hg;have k3:=k3.mono hg;have k5:=k5.mono hg;have k6:=k6.mono hg;refine S.seq<|S.region rfl<|O.opE (.p rfl) (.box (cs:=[_,_,_,_,_,_,_]) rfl rfl) ?_;rintro _ _ ⟨b1,rfl,rfl⟩;refine zz 3 ?_;refine S.frzO zC fun g hs hm hb1=>?_;replace hg:=Fr.sub_trans hg hs;replace hR:=melted hR hm
 try replace h:=h.mono hs
 try replace k3:=k3.mono hs
 try replace k5:=k5.mono hs
 try replace k6:=k6.mono hs
 clear hs hm
 by_cases n0:¬ (1≤x.1.length)
 ·
  refine zz 1 ?_;refine O.op (.p rfl) (.fieldAddr fld74x1 rfl) ?_;refine zz 1 ?_;refine O.op (.p rfl) (.fieldAddr fld74x2 rfl) ?_;refine zz 1 ?_;refine O.op (.p rfl) (.build (cs:=[_,_]) underlying166 rfl rfl rfl rfl rfl)<|O.opE (.p rfl) (.alloc (cs:=[.int .i64 0,.int .i64 0]) zeroValue166 rfl) ?_;rintro _ _ ⟨b3,rfl,rfl⟩;refine zz 1 ?_;refine O.nil<|S.seq<|S.seq<|S.frzO zC fun g hs hm hb3=>?_;replace hg:=Fr.sub_trans hg hs;replace hR:=melted hR hm
  try replace h:=h.mono hs
  try replace k3:=k3.mono hs
  try replace k5:=k5.mono hs
  try replace k6:=k6.mono hs
  try replace hb1:=hb1.mono hs
  clear hs hm;refine zz 1 ?_;refine O.op (.p rfl) (.fieldAddr fld74x0 rfl) ?_;refine zz 3 ?_;refine O.sT 12 rfl (by exact decide_eq_true (by rw [hz0];omega)) ?_;refine zz 29 ?_;exact S.rt results215 rfl hR ⟨congrArg _ (Bool.eq_false_iff.2 fun q=>n0 (shaped_iff.1 q).1).symm,rfl⟩
 have c0:=Classical.not_not.1 n0
 by_cases n1:¬ (x.1.length≤64)
 ·
  refine zz 1 ?_;refine O.op (.p rfl) (.fieldAddr fld74x1 rfl) ?_;refine zz 1 ?_;refine O.op (.p rfl) (.fieldAddr fld74x2 rfl) ?_;refine zz 1 ?_;refine O.op (.p rfl) (.build (cs:=[_,_]) underlying166 rfl rfl rfl rfl rfl)<|O.opE (.p rfl) (.alloc (cs:=[.int .i64 0,.int .i64 0]) zeroValue166 rfl) ?_;rintro _ _ ⟨b3,rfl,rfl⟩;refine zz 1 ?_;refine O.nil<|S.seq<|S.seq<|S.frzO zC fun g hs hm hb3=>?_;replace hg:=Fr.sub_trans hg hs;replace hR:=melted hR hm
  try replace h:=h.mono hs
  try replace k3:=k3.mono hs
  try replace k5:=k5.mono hs
  try replace k6:=k6.mono hs
  try replace hb1:=hb1.mono hs
  clear hs hm;refine zz 1 ?_;refine O.op (.p rfl) (.fieldAddr fld74x0 rfl) ?_;refine zz 3 ?_;refine O.sF 12 rfl (by exact decide_eq_false (by rw [hz0];omega)) ?_;refine zz 1 ?_;refine O.op (.g rfl rfl) (.fieldAddr fld74x0 rfl) ?_;refine zz 3 ?_;refine O.sT 17 rfl (by exact decide_eq_true (by rw [hz0];omega)) ?_;refine zz 24 ?_;exact S.rt results215 rfl hR ⟨congrArg _ (Bool.eq_false_iff.2 fun q=>n1 (shaped_iff.1 q).2.1).symm,rfl⟩
 have c1:=Classical.not_not.1 n1
 by_cases n2:¬ (dotOk (rDot x)=true)
 ·
  refine zz 1 ?_;refine O.op (.p rfl) (.fieldAddr fld74x1 rfl) ?_;refine zz 1 ?_;refine O.op (.p rfl) (.fieldAddr fld74x2 rfl) ?_;refine zz 1 ?_;refine O.op (.p rfl) (.build (cs:=[_,_]) underlying166 rfl rfl rfl rfl rfl)<|O.opE (.p rfl) (.alloc (cs:=[.int .i64 0,.int .i64 0]) zeroValue166 rfl) ?_;rintro _ _ ⟨b3,rfl,rfl⟩;refine zz 1 ?_;refine O.nil<|S.seq<|S.seq<|S.frzO zC fun g hs hm hb3=>?_;replace hg:=Fr.sub_trans hg hs;replace hR:=melted hR hm
  try replace h:=h.mono hs
  try replace k3:=k3.mono hs
  try replace k5:=k5.mono hs
  try replace k6:=k6.mono hs
  try replace hb1:=hb1.mono hs
  clear hs hm;refine zz 1 ?_;refine O.op (.p rfl) (.fieldAddr fld74x0 rfl) ?_;refine zz 3 ?_;refine O.sF 12 rfl (by exact decide_eq_false (by rw [hz0];omega)) ?_;refine zz 1 ?_;refine O.op (.g rfl rfl) (.fieldAddr fld74x0 rfl) ?_;refine zz 3 ?_;refine O.sF 17 rfl (by exact decide_eq_false (by rw [hz0];omega)) ?_;refine O.q 2 rfl<|O.op (.g rfl rfl) (.loadAgg isAgg166 zB rfl hb3) ?_;refine O.v0 (.g rfl rfl) rfl zB rfl rfl ((r7dot_c (rDot x) rfl)) ?_;refine O.sF 21 rfl (by exact (by simpa using n2)) ?_;refine zz 20 ?_;exact S.rt results215 rfl hR ⟨congrArg _ (Bool.eq_false_iff.2 fun q=>n2 (shaped_iff.1 q).2.2.1).symm,rfl⟩
 have c2:=Classical.not_not.1 n2
 by_cases n3:¬ (vecOk x.2.2.2.1=true)
 ·
  refine zz 1 ?_;refine O.op (.p rfl) (.fieldAddr fld74x1 rfl) ?_;refine zz 1 ?_;refine O.op (.p rfl) (.fieldAddr fld74x2 rfl) ?_;refine zz 1 ?_;refine O.op (.p rfl) (.build (cs:=[_,_]) underlying166 rfl rfl rfl rfl rfl)<|O.opE (.p rfl) (.alloc (cs:=[.int .i64 0,.int .i64 0]) zeroValue166 rfl) ?_;rintro _ _ ⟨b3,rfl,rfl⟩;refine zz 1 ?_;refine O.nil<|S.seq<|S.seq<|S.frzO zC fun g hs hm hb3=>?_;replace hg:=Fr.sub_trans hg hs;replace hR:=melted hR hm
  try replace h:=h.mono hs
  try replace k3:=k3.mono hs
  try replace k5:=k5.mono hs
  try replace k6:=k6.mono hs
  try replace hb1:=hb1.mono hs
  clear hs hm;refine zz 1 ?_;refine O.op (.p rfl) (.fieldAddr fld74x0 rfl) ?_;refine zz 3 ?_;refine O.sF 12 rfl (by exact decide_eq_false (by rw [hz0];omega)) ?_;refine zz 1 ?_;refine O.op (.g rfl rfl) (.fieldAddr fld74x0 rfl) ?_;refine zz 3 ?_;refine O.sF 17 rfl (by exact decide_eq_false (by rw [hz0];omega)) ?_;refine O.q 2 rfl<|O.op (.g rfl rfl) (.loadAgg isAgg166 zB rfl hb3) ?_;refine O.v0 (.g rfl rfl) rfl zB rfl rfl ((r7dot_c (rDot x) rfl)) ?_;refine O.sT 21 rfl (by exact c2) ?_;refine zz 3 ?_;refine O.op (.g rfl rfl) (.fieldAddr fld74x3 rfl) ?_;refine zz 1 ?_;refine O.v0 (.g rfl rfl) rfl zB rfl rfl ((r7right_c k3)) ?_;refine O.sF 27 rfl (by exact (by simpa using n3)) ?_;refine zz 14 ?_;exact S.rt results215 rfl hR ⟨congrArg _ (Bool.eq_false_iff.2 fun q=>n3 (shaped_iff.1 q).2.2.2.1).symm,rfl⟩
 have c3:=Classical.not_not.1 n3
 by_cases n4:¬ (hasR x.2.2.2.1 (rDot x)=false)
 ·
  refine zz 1 ?_;refine O.op (.p rfl) (.fieldAddr fld74x1 rfl) ?_;refine zz 1 ?_;refine O.op (.p rfl) (.fieldAddr fld74x2 rfl) ?_;refine zz 1 ?_;refine O.op (.p rfl) (.build (cs:=[_,_]) underlying166 rfl rfl rfl rfl rfl)<|O.opE (.p rfl) (.alloc (cs:=[.int .i64 0,.int .i64 0]) zeroValue166 rfl) ?_;rintro _ _ ⟨b3,rfl,rfl⟩;refine zz 1 ?_;refine O.nil<|S.seq<|S.seq<|S.frzO zC fun g hs hm hb3=>?_;replace hg:=Fr.sub_trans hg hs;replace hR:=melted hR hm
  try replace h:=h.mono hs
  try replace k3:=k3.mono hs
  try replace k5:=k5.mono hs
  try replace k6:=k6.mono hs
  try replace hb1:=hb1.mono hs
  clear hs hm;refine zz 1 ?_;refine O.op (.p rfl) (.fieldAddr fld74x0 rfl) ?_;refine zz 3 ?_;refine O.sF 12 rfl (by exact decide_eq_false (by rw [hz0];omega)) ?_;refine zz 1 ?_;refine O.op (.g rfl rfl) (.fieldAddr fld74x0 rfl) ?_;refine zz 3 ?_;refine O.sF 17 rfl (by exact decide_eq_false (by rw [hz0];omega)) ?_;refine O.q 2 rfl<|O.op (.g rfl rfl) (.loadAgg isAgg166 zB rfl hb3) ?_;refine O.v0 (.g rfl rfl) rfl zB rfl rfl ((r7dot_c (rDot x) rfl)) ?_;refine O.sT 21 rfl (by exact c2) ?_;refine zz 3 ?_;refine O.op (.g rfl rfl) (.fieldAddr fld74x3 rfl) ?_;refine zz 1 ?_;refine O.v0 (.g rfl rfl) rfl zB rfl rfl ((r7right_c k3)) ?_;refine O.sT 27 rfl (by exact c3) ?_;refine zz 3 ?_;refine O.op (.g rfl rfl) (.fieldAddr fld74x3 rfl) ?_;refine zz 1 ?_;refine O.op (.g rfl rfl) (.loadAgg isAgg166 zB rfl hb3) ?_;refine O.v0 (.g rfl rfl) rfl zB rfl rfl ((r7has_c (rDot x) rfl k3)) ?_;refine O.sT 34 rfl (by exact (by simpa using n4)) ?_;refine zz 7 ?_;exact S.rt results215 rfl hR ⟨congrArg _ (Bool.eq_false_iff.2 fun q=>n4 (shaped_iff.1 q).2.2.2.2.1).symm,rfl⟩
 have c4:=Classical.not_not.1 n4
 by_cases n5:¬ (x.2.2.2.2.2.1.length≤1024)
 ·
  refine zz 1 ?_;refine O.op (.p rfl) (.fieldAddr fld74x1 rfl) ?_;refine zz 1 ?_;refine O.op (.p rfl) (.fieldAddr fld74x2 rfl) ?_;refine zz 1 ?_;refine O.op (.p rfl) (.build (cs:=[_,_]) underlying166 rfl rfl rfl rfl rfl)<|O.opE (.p rfl) (.alloc (cs:=[.int .i64 0,.int .i64 0]) zeroValue166 rfl) ?_;rintro _ _ ⟨b3,rfl,rfl⟩;refine zz 1 ?_;refine O.nil<|S.seq<|S.seq<|S.frzO zC fun g hs hm hb3=>?_;replace hg:=Fr.sub_trans hg hs;replace hR:=melted hR hm
  try replace h:=h.mono hs
  try replace k3:=k3.mono hs
  try replace k5:=k5.mono hs
  try replace k6:=k6.mono hs
  try replace hb1:=hb1.mono hs
  clear hs hm;refine zz 1 ?_;refine O.op (.p rfl) (.fieldAddr fld74x0 rfl) ?_;refine zz 3 ?_;refine O.sF 12 rfl (by exact decide_eq_false (by rw [hz0];omega)) ?_;refine zz 1 ?_;refine O.op (.g rfl rfl) (.fieldAddr fld74x0 rfl) ?_;refine zz 3 ?_;refine O.sF 17 rfl (by exact decide_eq_false (by rw [hz0];omega)) ?_;refine O.q 2 rfl<|O.op (.g rfl rfl) (.loadAgg isAgg166 zB rfl hb3) ?_;refine O.v0 (.g rfl rfl) rfl zB rfl rfl ((r7dot_c (rDot x) rfl)) ?_;refine O.sT 21 rfl (by exact c2) ?_;refine zz 3 ?_;refine O.op (.g rfl rfl) (.fieldAddr fld74x3 rfl) ?_;refine zz 1 ?_;refine O.v0 (.g rfl rfl) rfl zB rfl rfl ((r7right_c k3)) ?_;refine O.sT 27 rfl (by exact c3) ?_;refine zz 3 ?_;refine O.op (.g rfl rfl) (.fieldAddr fld74x3 rfl) ?_;refine zz 1 ?_;refine O.op (.g rfl rfl) (.loadAgg isAgg166 zB rfl hb3) ?_;refine O.v0 (.g rfl rfl) rfl zB rfl rfl ((r7has_c (rDot x) rfl k3)) ?_;refine O.sF 34 rfl (by exact c4) ?_;refine zz 6 ?_;refine O.op (.p rfl) (.fieldAddr fld74x5 rfl) ?_;refine zz 3 ?_;refine O.sF 39 rfl (by exact decide_eq_false zD) ?_;refine zz 13 ?_;exact S.rt results215 rfl hR ⟨congrArg _ (Bool.eq_false_iff.2 fun q=>n5 (shaped_iff.1 q).2.2.2.2.2.1).symm,rfl⟩
 have c5:=Classical.not_not.1 n5
 cases g4:x.2.2.2.2.1 with
 |false =>
  have hs:shaped x=true:=shaped_iff.2 ⟨c0,c1,c2,c3,c4,c5,fun q=>by rw [g4] at q;cases q⟩;refine zz 1 ?_;refine O.op (.p rfl) (.fieldAddr fld74x1 rfl) ?_;refine zz 1 ?_;refine O.op (.p rfl) (.fieldAddr fld74x2 rfl) ?_;refine zz 1 ?_;refine O.op (.p rfl) (.build (cs:=[_,_]) underlying166 rfl rfl rfl rfl rfl)<|O.opE (.p rfl) (.alloc (cs:=[.int .i64 0,.int .i64 0]) zeroValue166 rfl) ?_;rintro _ _ ⟨b3,rfl,rfl⟩;refine zz 1 ?_;refine O.nil<|S.seq<|S.seq<|S.frzO zC fun g hs hm hb3=>?_;replace hg:=Fr.sub_trans hg hs;replace hR:=melted hR hm
  try replace h:=h.mono hs
  try replace k3:=k3.mono hs
  try replace k5:=k5.mono hs
  try replace k6:=k6.mono hs
  try replace hb1:=hb1.mono hs
  clear hs hm;refine zz 1 ?_;refine O.op (.p rfl) (.fieldAddr fld74x0 rfl) ?_;refine zz 3 ?_;refine O.sF 12 rfl (by exact decide_eq_false (by rw [hz0];omega)) ?_;refine zz 1 ?_;refine O.op (.g rfl rfl) (.fieldAddr fld74x0 rfl) ?_;refine zz 3 ?_;refine O.sF 17 rfl (by exact decide_eq_false (by rw [hz0];omega)) ?_;refine O.q 2 rfl<|O.op (.g rfl rfl) (.loadAgg isAgg166 zB rfl hb3) ?_;refine O.v0 (.g rfl rfl) rfl zB rfl rfl ((r7dot_c (rDot x) rfl)) ?_;refine O.sT 21 rfl (by exact c2) ?_;refine zz 3 ?_;refine O.op (.g rfl rfl) (.fieldAddr fld74x3 rfl) ?_;refine zz 1 ?_;refine O.v0 (.g rfl rfl) rfl zB rfl rfl ((r7right_c k3)) ?_;refine O.sT 27 rfl (by exact c3) ?_;refine zz 3 ?_;refine O.op (.g rfl rfl) (.fieldAddr fld74x3 rfl) ?_;refine zz 1 ?_;refine O.op (.g rfl rfl) (.loadAgg isAgg166 zB rfl hb3) ?_;refine O.v0 (.g rfl rfl) rfl zB rfl rfl ((r7has_c (rDot x) rfl k3)) ?_;refine O.sF 34 rfl (by exact c4) ?_;refine zz 6 ?_;refine O.op (.p rfl) (.fieldAddr fld74x5 rfl) ?_;refine zz 3 ?_;refine O.sT 39 rfl (by exact decide_eq_true zD) ?_;refine zz 1 ?_;refine O.op (.g rfl rfl) (.fieldAddr fld74x4 rfl) ?_;refine zz 1 ?_;refine O.sF 42 rfl (by exact g4) ?_;refine zz 10 ?_;exact S.rt results215 rfl hR ⟨by rw [hs],rfl⟩
 |true =>
  by_cases n6:x.2.2.2.2.2.1.length=0
  ·have hs:shaped x=true:=shaped_iff.2 ⟨c0,c1,c2,c3,c4,c5,fun _=>n6⟩
   refine zz 1 ?_;refine O.op (.p rfl) (.fieldAddr fld74x1 rfl) ?_;refine zz 1 ?_;refine O.op (.p rfl) (.fieldAddr fld74x2 rfl) ?_;refine zz 1 ?_;refine O.op (.p rfl) (.build (cs:=[_,_]) underlying166 rfl rfl rfl rfl rfl)<|O.opE (.p rfl) (.alloc (cs:=[.int .i64 0,.int .i64 0]) zeroValue166 rfl) ?_;rintro _ _ ⟨b3,rfl,rfl⟩;refine zz 1 ?_;refine O.nil<|S.seq<|S.seq<|S.frzO zC fun g hs hm hb3=>?_;replace hg:=Fr.sub_trans hg hs;replace hR:=melted hR hm
   try replace h:=h.mono hs
   try replace k3:=k3.mono hs
   try replace k5:=k5.mono hs
   try replace k6:=k6.mono hs
   try replace hb1:=hb1.mono hs
   clear hs hm;refine zz 1 ?_;refine O.op (.p rfl) (.fieldAddr fld74x0 rfl) ?_;refine zz 3 ?_;refine O.sF 12 rfl (by exact decide_eq_false (by rw [hz0];omega)) ?_;refine zz 1 ?_;refine O.op (.g rfl rfl) (.fieldAddr fld74x0 rfl) ?_;refine zz 3 ?_;refine O.sF 17 rfl (by exact decide_eq_false (by rw [hz0];omega)) ?_;refine O.q 2 rfl<|O.op (.g rfl rfl) (.loadAgg isAgg166 zB rfl hb3) ?_;refine O.v0 (.g rfl rfl) rfl zB rfl rfl ((r7dot_c (rDot x) rfl)) ?_;refine O.sT 21 rfl (by exact c2) ?_;refine zz 3 ?_;refine O.op (.g rfl rfl) (.fieldAddr fld74x3 rfl) ?_;refine zz 1 ?_;refine O.v0 (.g rfl rfl) rfl zB rfl rfl ((r7right_c k3)) ?_;refine O.sT 27 rfl (by exact c3) ?_;refine zz 3 ?_;refine O.op (.g rfl rfl) (.fieldAddr fld74x3 rfl) ?_;refine zz 1 ?_;refine O.op (.g rfl rfl) (.loadAgg isAgg166 zB rfl hb3) ?_;refine O.v0 (.g rfl rfl) rfl zB rfl rfl ((r7has_c (rDot x) rfl k3)) ?_;refine O.sF 34 rfl (by exact c4) ?_;refine zz 6 ?_;refine O.op (.p rfl) (.fieldAddr fld74x5 rfl) ?_;refine zz 3 ?_;refine O.sT 39 rfl (by exact decide_eq_true zD) ?_;refine zz 1 ?_;refine O.op (.g rfl rfl) (.fieldAddr fld74x4 rfl) ?_;refine zz 1 ?_;refine O.sT 42 rfl (by exact g4) ?_;refine zz 2 ?_;refine O.op (.g rfl rfl) (.fieldAddr fld74x5 rfl) ?_;refine zz 3 ?_;refine O.sT 48 rfl (by exact decide_eq_true zD) ?_;refine zz 4 ?_;exact S.rt results215 rfl hR ⟨by rw [hs],rfl⟩
  ·have hs:shaped x=false:=Bool.eq_false_iff.2 fun q=>n6 ((shaped_iff.1 q).2.2.2.2.2.2 g4)
   refine zz 1 ?_;refine O.op (.p rfl) (.fieldAddr fld74x1 rfl) ?_;refine zz 1 ?_;refine O.op (.p rfl) (.fieldAddr fld74x2 rfl) ?_;refine zz 1 ?_;refine O.op (.p rfl) (.build (cs:=[_,_]) underlying166 rfl rfl rfl rfl rfl)<|O.opE (.p rfl) (.alloc (cs:=[.int .i64 0,.int .i64 0]) zeroValue166 rfl) ?_;rintro _ _ ⟨b3,rfl,rfl⟩;refine zz 1 ?_;refine O.nil<|S.seq<|S.seq<|S.frzO zC fun g hs hm hb3=>?_;replace hg:=Fr.sub_trans hg hs;replace hR:=melted hR hm
   try replace h:=h.mono hs
   try replace k3:=k3.mono hs
   try replace k5:=k5.mono hs
   try replace k6:=k6.mono hs
   try replace hb1:=hb1.mono hs
   clear hs hm;refine zz 1 ?_;refine O.op (.p rfl) (.fieldAddr fld74x0 rfl) ?_;refine zz 3 ?_;refine O.sF 12 rfl (by exact decide_eq_false (by rw [hz0];omega)) ?_;refine zz 1 ?_;refine O.op (.g rfl rfl) (.fieldAddr fld74x0 rfl) ?_;refine zz 3 ?_;refine O.sF 17 rfl (by exact decide_eq_false (by rw [hz0];omega)) ?_;refine O.q 2 rfl<|O.op (.g rfl rfl) (.loadAgg isAgg166 zB rfl hb3) ?_;refine O.v0 (.g rfl rfl) rfl zB rfl rfl ((r7dot_c (rDot x) rfl)) ?_;refine O.sT 21 rfl (by exact c2) ?_;refine zz 3 ?_;refine O.op (.g rfl rfl) (.fieldAddr fld74x3 rfl) ?_;refine zz 1 ?_;refine O.v0 (.g rfl rfl) rfl zB rfl rfl ((r7right_c k3)) ?_;refine O.sT 27 rfl (by exact c3) ?_;refine zz 3 ?_;refine O.op (.g rfl rfl) (.fieldAddr fld74x3 rfl) ?_;refine zz 1 ?_;refine O.op (.g rfl rfl) (.loadAgg isAgg166 zB rfl hb3) ?_;refine O.v0 (.g rfl rfl) rfl zB rfl rfl ((r7has_c (rDot x) rfl k3)) ?_;refine O.sF 34 rfl (by exact c4) ?_;refine zz 6 ?_;refine O.op (.p rfl) (.fieldAddr fld74x5 rfl) ?_;refine zz 3 ?_;refine O.sT 39 rfl (by exact decide_eq_true zD) ?_;refine zz 1 ?_;refine O.op (.g rfl rfl) (.fieldAddr fld74x4 rfl) ?_;refine zz 1 ?_;refine O.sT 42 rfl (by exact g4) ?_;refine zz 2 ?_;refine O.op (.g rfl rfl) (.fieldAddr fld74x5 rfl) ?_;refine zz 3 ?_;refine O.sF 48 rfl (by exact decide_eq_false zD) ?_;refine zz 4 ?_;exact S.rt results215 rfl hR ⟨by rw [hs],rfl⟩
theorem r8right_c {r:Fr} {cs:List Value} {x:RecT} (h:RecRp.rel r cs x):Con prog 213 #[.agg cs.toArray] r [] (Ret fun v η=>v=.bool (recOk x)∧η=[]):=by
 obtain ⟨xa3,xa5,xa6,xc3,xc5,xc6,rfl,k0,k1,k2,k3,k5,k6⟩:=RecRp.sh h;have hz0:=str_size x.1;refine Con.o func213 fun g hg R hR=>?_;have h:=h.mono hg;have k3:=k3.mono hg;have k5:=k5.mono hg;have k6:=k6.mono hg;refine S.seq<|S.region rfl<|O.opE (.p rfl) (.box (cs:=[_,_,_,_,_,_,_]) rfl rfl) ?_;rintro _ _ ⟨b1,rfl,rfl⟩;refine zz 3 ?_;refine S.frzO zC fun g hs hm hb1=>?_;replace hg:=Fr.sub_trans hg hs;replace hR:=melted hR hm
 try replace h:=h.mono hs
 try replace k3:=k3.mono hs
 try replace k5:=k5.mono hs
 try replace k6:=k6.mono hs
 clear hs hm
 cases e:shaped x with
 |false =>
  refine S.region rfl<|O.op (.p rfl) (.loadAgg isAgg74 zB rfl hb1) ?_;refine O.v0 (.p rfl) rfl zB rfl rfl ((r8shape_c h)) ?_;refine O.sF 4 rfl (by exact e) ?_;refine zz 8 ?_;exact S.rt results213 rfl hR ⟨by simp [recOk,e],rfl⟩
 |true =>
  refine S.region rfl<|O.op (.p rfl) (.loadAgg isAgg74 zB rfl hb1) ?_;refine O.v0 (.p rfl) rfl zB rfl rfl ((r8shape_c h)) ?_;refine O.sT 4 rfl (by exact e) ?_;refine zz 1 ?_;refine O.op (.g rfl rfl) (.fieldAddr fld74x6 rfl) ?_;refine zz 6 ?_;exact S.rt results213 rfl hR ⟨congrArg _ (by rw [recOk,e,Bool.true_and];exact decide_eq_decide.2 zD),rfl⟩
theorem r8over_c {r:Fr} {cs ds:List Value} {x y:RecT} (h:RecRp.rel r cs x) (h' :RecRp.rel r ds y):Con prog 109 #[.agg cs.toArray,.agg ds.toArray] r [] (Ret fun v η=>v=.bool (over x y)∧η=[]):=by
 obtain ⟨xa3,xa5,xa6,xc3,xc5,xc6,rfl,k0,k1,k2,k3,k5,k6⟩:=RecRp.sh h;obtain ⟨ya3,ya5,ya6,yc3,yc5,yc6,rfl,j0,j1,j2,j3,j5,j6⟩:=RecRp.sh h';refine Con.o func109 fun g hg R hR=>?_;have h:=h.mono hg;have h' :=h'.mono hg;have k3:=k3.mono hg;refine S.seq<|S.region rfl<|O.opE (.p rfl) (.box (cs:=[_,_,_,_,_,_,_]) rfl rfl) ?_;rintro _ _ ⟨b2,rfl,rfl⟩;refine O.opE (.p rfl) (.box (cs:=[_,_,_,_,_,_,_]) rfl rfl) ?_;rintro _ _ ⟨b3,rfl,rfl⟩;refine zz 3 ?_
 cases e1:shaped x with
 |false =>
  refine zz 2 ?_;refine O.v0 (.p rfl) rfl zB rfl rfl ((r8shape_c h)) ?_;refine O.sF 6 rfl (by exact e1) ?_;refine zz 23 ?_;exact S.rt results109 rfl hR ⟨by simp [over,e1],rfl⟩
 |true =>
  cases e2:shaped y with
  |false =>
   refine zz 2 ?_;refine O.v0 (.p rfl) rfl zB rfl rfl ((r8shape_c h)) ?_;refine O.sT 6 rfl (by exact e1) ?_;refine zz 2 ?_;refine O.v0 (.g rfl rfl) rfl zB rfl rfl ((r8shape_c h')) ?_;refine O.sF 9 rfl (by exact e2) ?_;refine zz 20 ?_;exact S.rt results109 rfl hR ⟨by simp [over,e2],rfl⟩
  |true =>
   by_cases e3:x.1=y.1
   ·
    refine zz 2 ?_;refine O.v0 (.p rfl) rfl zB rfl rfl ((r8shape_c h)) ?_;refine O.sT 6 rfl (by exact e1) ?_;refine zz 2 ?_;refine O.v0 (.g rfl rfl) rfl zB rfl rfl ((r8shape_c h')) ?_;refine O.sT 9 rfl (by exact e2) ?_;refine zz 6 ?_;refine O.op (.g rfl rfl) (.eqlS rfl rfl)<|O.sT 16 rfl (by simp [e3]) ?_;refine zz 8 ?_;refine O.op (.g rfl rfl) (.build (cs:=[_,_]) underlying166 rfl rfl rfl rfl rfl)<|O.v0 (.g rfl rfl) rfl zB rfl rfl ((r7has_c (rDot y) rfl k3)) ?_;refine zz 3 ?_;exact S.rt results109 rfl hR ⟨by simp [over,e1,e2,e3],rfl⟩
   ·
    refine zz 2 ?_;refine O.v0 (.p rfl) rfl zB rfl rfl ((r8shape_c h)) ?_;refine O.sT 6 rfl (by exact e1) ?_;refine zz 2 ?_;refine O.v0 (.g rfl rfl) rfl zB rfl rfl ((r8shape_c h')) ?_;refine O.sT 9 rfl (by exact e2) ?_;refine zz 6 ?_;refine O.op (.g rfl rfl) (.eqlS rfl rfl)<|O.sF 16 rfl (by simp [e3]) ?_;refine zz 13 ?_;exact S.rt results109 rfl hR ⟨by simp [over,e3],rfl⟩
def recHead (x:RecT):List UInt8:=[1]++(bytesOf x.1++(be x.2.1++(be x.2.2.1++be x.2.2.2.1.length)))
theorem r8text_c {r:Fr} {cs:List Value} {x:RecT} (h:RecRp.rel r cs x) (hs:shaped x=true) :
  Con prog 285 #[.agg cs.toArray] r [] (Ret fun v η=>∃ a c,v=.slice a (recText x).length c∧η=[OwnP Rp.u8 5 (.slice a (recText x).length c) (recText x)]):=by
 obtain ⟨xa3,xa5,xa6,xc3,xc5,xc6,rfl,k0,k1,k2,k3,k5,k6⟩:=RecRp.sh h;obtain ⟨m0,m1,_,m3,_,m5,_⟩:=shaped_iff.1 hs;have m4:=rises_len m3;have hfl:[[1],bytesOf x.1,be x.2.1,be x.2.2.1,be x.2.2.2.1.length].flatten=recHead x:=by simp [recHead]
 have hhl:(recHead x).length=33+x.1.length:=by simp [recHead];omega
 refine Con.o func285 fun g hg R hR=>?_;have h:=h.mono hg;have k3:=k3.mono hg;have k5:=k5.mono hg;have k6:=k6.mono hg;refine S.seq<|S.region rfl<|O.opE (.p rfl) (.box (cs:=[_,_,_,_,_,_,_]) rfl rfl) ?_;rintro _ _ ⟨b1,rfl,rfl⟩;refine zz 4 ?_;refine S.frzO zC fun g hs hm hb1=>?_;replace hg:=Fr.sub_trans hg hs;replace hR:=melted hR hm
 try replace h:=h.mono hs
 try replace k3:=k3.mono hs
 try replace k5:=k5.mono hs
 try replace k6:=k6.mono hs
 clear hs hm;refine S.region rfl<|O.op (.p rfl) (.loadAgg isAgg74 zB rfl hb1) ?_;refine O.v0 (.p rfl) rfl zB rfl rfl ((r8shape_c h)) ?_;refine O.sT 7 rfl (by exact hs) ?_;refine zz 5 ?_;refine S.regionJ (L:=[1,2,5,6,8,9,11,12,13,0,3,4,7,10,14,15,16,17]) (fun (s:Option Addr × Nat)=>[(3,.slice s.1 (recHead x).length s.2)]) [(1,_)] (fun (s:Option Addr × Nat)=>[OwnP Rp.u8 5 (.slice s.1 (recHead x).length s.2) (recHead x)]) zq F.mixed zB (fun kk key=>?_) (fun s=>?_)
 ·refine zz 9 ?_
  refine OD.alt2 0 3 [3,4,7,10,14,15,16,17] [0,4,7,10,14,15,16,17] zB rfl rfl ?_ ?_
  ·refine ODt.litP (T:=Rp.u8) (ys:=[1]) (.p rfl) zB underlying31 elem5 zE rfl rfl ⟨rfl,trivial⟩ zE (fun a9 c9=>?_)
   refine OD.strBytesO (.p rfl) zB underlying9 underlying31 underlying5 rfl zY (fun a12 c12=>?_);refine OD.callB (.p rfl) zB rfl zB rfl rfl (bs:=[OwnP Rp.u8 5 (.slice a12 x.1.length c12) x.1]) zI (fun m hm hd=>refBytes_c (hm.arr.right hd) zD) ?_;rintro _ _ ⟨a13,c13,rfl,rfl⟩;refine OD.call0 (.p rfl) zB rfl zB rfl rfl (refNumber_c _) ?_;rintro _ _ ⟨a16,c16,rfl,rfl⟩;refine OD.call0 (.p rfl) zB rfl zB rfl rfl (refNumber_c _) ?_;rintro _ _ ⟨a19,c19,rfl,rfl⟩;refine OD.call0 (.p rfl) zB rfl zB rfl rfl (refNumber_c _) ?_;rintro _ _ ⟨a23,c23,rfl,rfl⟩;refine OD.litP (T:=Rp.val) (ys:=[_,_,_,_,_]) (.p rfl) zB underlying39 elem31 zE rfl rfl ⟨⟨rfl,rfl⟩,⟨rfl,rfl⟩,⟨rfl,rfl⟩,⟨rfl,rfl⟩,⟨rfl,rfl⟩,trivial⟩ zE (fun a24 c24=>?_)
   refine OD.callB (.p rfl) zB rfl zB rfl rfl (bs:=[OwnP Rp.val 31 (.slice a24 5 c24) [.slice a9 1 c9,.slice a13 (bytesOf x.1).length c13,.slice a16 8 c16,.slice a19 8 c19,.slice a23 8 c23],OwnP Rp.u8 5 (.slice a9 1 c9) [1],OwnP Rp.u8 5 (.slice a13 (bytesOf x.1).length c13) (bytesOf x.1),OwnP Rp.u8 5 (.slice a16 8 c16) (be x.2.1),OwnP Rp.u8 5 (.slice a19 8 c19) (be x.2.2.1),OwnP Rp.u8 5 (.slice a23 8 c23) (be x.2.2.2.1.length)]) zI (fun m hm hd=>refJoin_c (xss:=[[1],bytesOf x.1,be x.2.1,be x.2.2.1,be x.2.2.2.1.length]) ((hm.arr.right hd).rows ⟨hm.tail.arr.right hd,hm.tail.tail.arr.right hd,hm.tail.tail.tail.arr.right hd,hm.tail.tail.tail.tail.arr.right hd,hm.tail.tail.tail.tail.tail.arr.right hd,trivial⟩) (by rw [hfl];omega)) ?_;rintro _ _ ⟨a25,c25,rfl,rfl⟩;rw [hfl];refine OD.q 1 rfl<|ODx.nil<|S.pk ?_ (S.weaken (Sub.app zq zq) (key (a25,c25)))
   try dsimp only
   repeat (first|exact zpa|exact zpn|(apply zpc;focus (repeat (first|exact zh|apply zt)))|apply zps)
  ·refine ODt.strBytesO (.p rfl) zB underlying9 underlying31 underlying5 rfl zY (fun a12 c12=>?_)
   refine OD.alt2 0 4 [4,7,10,14,15,16,17] [0,7,10,14,15,16,17] zB rfl rfl ?_ ?_
   ·refine ODt.litP (T:=Rp.u8) (ys:=[1]) (.p rfl) zB underlying31 elem5 zE rfl rfl ⟨rfl,trivial⟩ zE (fun a9 c9=>?_)
    refine OD.callB (.p rfl) zB rfl zB rfl rfl (bs:=[OwnP Rp.u8 5 (.slice a12 x.1.length c12) x.1]) zI (fun m hm hd=>refBytes_c (hm.arr.right hd) zD) ?_;rintro _ _ ⟨a13,c13,rfl,rfl⟩;refine OD.call0 (.p rfl) zB rfl zB rfl rfl (refNumber_c _) ?_;rintro _ _ ⟨a16,c16,rfl,rfl⟩;refine OD.call0 (.p rfl) zB rfl zB rfl rfl (refNumber_c _) ?_;rintro _ _ ⟨a19,c19,rfl,rfl⟩;refine OD.call0 (.p rfl) zB rfl zB rfl rfl (refNumber_c _) ?_;rintro _ _ ⟨a23,c23,rfl,rfl⟩;refine OD.litP (T:=Rp.val) (ys:=[_,_,_,_,_]) (.p rfl) zB underlying39 elem31 zE rfl rfl ⟨⟨rfl,rfl⟩,⟨rfl,rfl⟩,⟨rfl,rfl⟩,⟨rfl,rfl⟩,⟨rfl,rfl⟩,trivial⟩ zE (fun a24 c24=>?_);refine OD.callB (.p rfl) zB rfl zB rfl rfl (bs:=[OwnP Rp.val 31 (.slice a24 5 c24) [.slice a9 1 c9,.slice a13 (bytesOf x.1).length c13,.slice a16 8 c16,.slice a19 8 c19,.slice a23 8 c23],OwnP Rp.u8 5 (.slice a9 1 c9) [1],OwnP Rp.u8 5 (.slice a13 (bytesOf x.1).length c13) (bytesOf x.1),OwnP Rp.u8 5 (.slice a16 8 c16) (be x.2.1),OwnP Rp.u8 5 (.slice a19 8 c19) (be x.2.2.1),OwnP Rp.u8 5 (.slice a23 8 c23) (be x.2.2.2.1.length)]) zI (fun m hm hd=>refJoin_c (xss:=[[1],bytesOf x.1,be x.2.1,be x.2.2.1,be x.2.2.2.1.length]) ((hm.arr.right hd).rows ⟨hm.tail.arr.right hd,hm.tail.tail.arr.right hd,hm.tail.tail.tail.arr.right hd,hm.tail.tail.tail.tail.arr.right hd,hm.tail.tail.tail.tail.tail.arr.right hd,trivial⟩) (by rw [hfl];omega)) ?_;rintro _ _ ⟨a25,c25,rfl,rfl⟩;rw [hfl]
    refine OD.q 1 rfl<|ODx.nil<|S.pk ?_ (S.weaken (Sub.app zq zq) (key (a25,c25)))
    try dsimp only
    repeat (first|exact zpa|exact zpn|(apply zpc;focus (repeat (first|exact zh|apply zt)))|apply zps)
   ·refine ODt.callB (.p rfl) zB rfl zB rfl rfl (bs:=[OwnP Rp.u8 5 (.slice a12 x.1.length c12) x.1]) zI (fun m hm hd=>refBytes_c (hm.arr.right hd) zD) ?_
    rintro _ _ ⟨a13,c13,rfl,rfl⟩;refine OD.alt2 0 7 [7,10,14,15,16,17] [0,10,14,15,16,17] zB rfl rfl ?_ ?_
    ·refine ODt.litP (T:=Rp.u8) (ys:=[1]) (.p rfl) zB underlying31 elem5 zE rfl rfl ⟨rfl,trivial⟩ zE (fun a9 c9=>?_)
     refine OD.call0 (.p rfl) zB rfl zB rfl rfl (refNumber_c _) ?_;rintro _ _ ⟨a16,c16,rfl,rfl⟩;refine OD.call0 (.p rfl) zB rfl zB rfl rfl (refNumber_c _) ?_;rintro _ _ ⟨a19,c19,rfl,rfl⟩;refine OD.call0 (.p rfl) zB rfl zB rfl rfl (refNumber_c _) ?_;rintro _ _ ⟨a23,c23,rfl,rfl⟩;refine OD.litP (T:=Rp.val) (ys:=[_,_,_,_,_]) (.p rfl) zB underlying39 elem31 zE rfl rfl ⟨⟨rfl,rfl⟩,⟨rfl,rfl⟩,⟨rfl,rfl⟩,⟨rfl,rfl⟩,⟨rfl,rfl⟩,trivial⟩ zE (fun a24 c24=>?_);refine OD.callB (.p rfl) zB rfl zB rfl rfl (bs:=[OwnP Rp.val 31 (.slice a24 5 c24) [.slice a9 1 c9,.slice a13 (bytesOf x.1).length c13,.slice a16 8 c16,.slice a19 8 c19,.slice a23 8 c23],OwnP Rp.u8 5 (.slice a9 1 c9) [1],OwnP Rp.u8 5 (.slice a13 (bytesOf x.1).length c13) (bytesOf x.1),OwnP Rp.u8 5 (.slice a16 8 c16) (be x.2.1),OwnP Rp.u8 5 (.slice a19 8 c19) (be x.2.2.1),OwnP Rp.u8 5 (.slice a23 8 c23) (be x.2.2.2.1.length)]) zI (fun m hm hd=>refJoin_c (xss:=[[1],bytesOf x.1,be x.2.1,be x.2.2.1,be x.2.2.2.1.length]) ((hm.arr.right hd).rows ⟨hm.tail.arr.right hd,hm.tail.tail.arr.right hd,hm.tail.tail.tail.arr.right hd,hm.tail.tail.tail.tail.arr.right hd,hm.tail.tail.tail.tail.tail.arr.right hd,trivial⟩) (by rw [hfl];omega)) ?_;rintro _ _ ⟨a25,c25,rfl,rfl⟩;rw [hfl];refine OD.q 1 rfl<|ODx.nil<|S.pk ?_ (S.weaken (Sub.app zq zq) (key (a25,c25)))
     try dsimp only
     repeat (first|exact zpa|exact zpn|(apply zpc;focus (repeat (first|exact zh|apply zt)))|apply zps)
    ·refine ODt.call0 (.p rfl) zB rfl zB rfl rfl (refNumber_c _) ?_
     rintro _ _ ⟨a16,c16,rfl,rfl⟩;refine OD.alt2 0 10 [10,14,15,16,17] [0,14,15,16,17] zB rfl rfl ?_ ?_
     ·refine ODt.litP (T:=Rp.u8) (ys:=[1]) (.p rfl) zB underlying31 elem5 zE rfl rfl ⟨rfl,trivial⟩ zE (fun a9 c9=>?_)
      refine OD.call0 (.p rfl) zB rfl zB rfl rfl (refNumber_c _) ?_;rintro _ _ ⟨a19,c19,rfl,rfl⟩;refine OD.call0 (.p rfl) zB rfl zB rfl rfl (refNumber_c _) ?_;rintro _ _ ⟨a23,c23,rfl,rfl⟩;refine OD.litP (T:=Rp.val) (ys:=[_,_,_,_,_]) (.p rfl) zB underlying39 elem31 zE rfl rfl ⟨⟨rfl,rfl⟩,⟨rfl,rfl⟩,⟨rfl,rfl⟩,⟨rfl,rfl⟩,⟨rfl,rfl⟩,trivial⟩ zE (fun a24 c24=>?_);refine OD.callB (.p rfl) zB rfl zB rfl rfl (bs:=[OwnP Rp.val 31 (.slice a24 5 c24) [.slice a9 1 c9,.slice a13 (bytesOf x.1).length c13,.slice a16 8 c16,.slice a19 8 c19,.slice a23 8 c23],OwnP Rp.u8 5 (.slice a9 1 c9) [1],OwnP Rp.u8 5 (.slice a13 (bytesOf x.1).length c13) (bytesOf x.1),OwnP Rp.u8 5 (.slice a16 8 c16) (be x.2.1),OwnP Rp.u8 5 (.slice a19 8 c19) (be x.2.2.1),OwnP Rp.u8 5 (.slice a23 8 c23) (be x.2.2.2.1.length)]) zI (fun m hm hd=>refJoin_c (xss:=[[1],bytesOf x.1,be x.2.1,be x.2.2.1,be x.2.2.2.1.length]) ((hm.arr.right hd).rows ⟨hm.tail.arr.right hd,hm.tail.tail.arr.right hd,hm.tail.tail.tail.arr.right hd,hm.tail.tail.tail.tail.arr.right hd,hm.tail.tail.tail.tail.tail.arr.right hd,trivial⟩) (by rw [hfl];omega)) ?_;rintro _ _ ⟨a25,c25,rfl,rfl⟩;rw [hfl];refine OD.q 1 rfl<|ODx.nil<|S.pk ?_ (S.weaken (Sub.app zq zq) (key (a25,c25)))
      try dsimp only
      repeat (first|exact zpa|exact zpn|(apply zpc;focus (repeat (first|exact zh|apply zt)))|apply zps)
     ·refine ODt.call0 (.p rfl) zB rfl zB rfl rfl (refNumber_c _) ?_
      rintro _ _ ⟨a19,c19,rfl,rfl⟩;refine OD.alt2 0 14 [14,15,16,17] [0,15,16,17] zB rfl rfl ?_ ?_
      ·refine ODt.litP (T:=Rp.u8) (ys:=[1]) (.p rfl) zB underlying31 elem5 zE rfl rfl ⟨rfl,trivial⟩ zE (fun a9 c9=>?_)
       refine OD.call0 (.p rfl) zB rfl zB rfl rfl (refNumber_c _) ?_;rintro _ _ ⟨a23,c23,rfl,rfl⟩;refine OD.litP (T:=Rp.val) (ys:=[_,_,_,_,_]) (.p rfl) zB underlying39 elem31 zE rfl rfl ⟨⟨rfl,rfl⟩,⟨rfl,rfl⟩,⟨rfl,rfl⟩,⟨rfl,rfl⟩,⟨rfl,rfl⟩,trivial⟩ zE (fun a24 c24=>?_);refine OD.callB (.p rfl) zB rfl zB rfl rfl (bs:=[OwnP Rp.val 31 (.slice a24 5 c24) [.slice a9 1 c9,.slice a13 (bytesOf x.1).length c13,.slice a16 8 c16,.slice a19 8 c19,.slice a23 8 c23],OwnP Rp.u8 5 (.slice a9 1 c9) [1],OwnP Rp.u8 5 (.slice a13 (bytesOf x.1).length c13) (bytesOf x.1),OwnP Rp.u8 5 (.slice a16 8 c16) (be x.2.1),OwnP Rp.u8 5 (.slice a19 8 c19) (be x.2.2.1),OwnP Rp.u8 5 (.slice a23 8 c23) (be x.2.2.2.1.length)]) zI (fun m hm hd=>refJoin_c (xss:=[[1],bytesOf x.1,be x.2.1,be x.2.2.1,be x.2.2.2.1.length]) ((hm.arr.right hd).rows ⟨hm.tail.arr.right hd,hm.tail.tail.arr.right hd,hm.tail.tail.tail.arr.right hd,hm.tail.tail.tail.tail.arr.right hd,hm.tail.tail.tail.tail.tail.arr.right hd,trivial⟩) (by rw [hfl];omega)) ?_;rintro _ _ ⟨a25,c25,rfl,rfl⟩;rw [hfl];refine OD.q 1 rfl<|ODx.nil<|S.pk ?_ (S.weaken (Sub.app zq zq) (key (a25,c25)))
       try dsimp only
       repeat (first|exact zpa|exact zpn|(apply zpc;focus (repeat (first|exact zh|apply zt)))|apply zps)
      ·refine ODt.call0 (.p rfl) zB rfl zB rfl rfl (refNumber_c _) ?_
       rintro _ _ ⟨a23,c23,rfl,rfl⟩;refine OD.litP (T:=Rp.u8) (ys:=[1]) (.p rfl) zB underlying31 elem5 zE rfl rfl ⟨rfl,trivial⟩ zE (fun a9 c9=>?_);refine OD.litP (T:=Rp.val) (ys:=[_,_,_,_,_]) (.p rfl) zB underlying39 elem31 zE rfl rfl ⟨⟨rfl,rfl⟩,⟨rfl,rfl⟩,⟨rfl,rfl⟩,⟨rfl,rfl⟩,⟨rfl,rfl⟩,trivial⟩ zE (fun a24 c24=>?_);refine OD.callB (.p rfl) zB rfl zB rfl rfl (bs:=[OwnP Rp.val 31 (.slice a24 5 c24) [.slice a9 1 c9,.slice a13 (bytesOf x.1).length c13,.slice a16 8 c16,.slice a19 8 c19,.slice a23 8 c23],OwnP Rp.u8 5 (.slice a9 1 c9) [1],OwnP Rp.u8 5 (.slice a13 (bytesOf x.1).length c13) (bytesOf x.1),OwnP Rp.u8 5 (.slice a16 8 c16) (be x.2.1),OwnP Rp.u8 5 (.slice a19 8 c19) (be x.2.2.1),OwnP Rp.u8 5 (.slice a23 8 c23) (be x.2.2.2.1.length)]) zI (fun m hm hd=>refJoin_c (xss:=[[1],bytesOf x.1,be x.2.1,be x.2.2.1,be x.2.2.2.1.length]) ((hm.arr.right hd).rows ⟨hm.tail.arr.right hd,hm.tail.tail.arr.right hd,hm.tail.tail.tail.arr.right hd,hm.tail.tail.tail.tail.arr.right hd,hm.tail.tail.tail.tail.tail.arr.right hd,trivial⟩) (by rw [hfl];omega)) ?_;rintro _ _ ⟨a25,c25,rfl,rfl⟩;rw [hfl];refine OD.q 1 rfl<|ODx.nil<|S.pk ?_ (S.weaken (Sub.app zq zq) (key (a25,c25)))
       try dsimp only
       repeat (first|exact zpa|exact zpn|(apply zpc;focus (repeat (first|exact zh|apply zt)))|apply zps)
 refine zz 6 ?_;refine S.ownIs (T:=Rp.u8) (e:=5) (v' :=.slice s.1 (recHead x++dotsB (x.2.2.2.1.take 0)).length s.2) (xs' :=recHead x++dotsB (x.2.2.2.1.take 0)) zC zG zG ?_;refine S.slot 3 (v' :=.slice s.1 (recHead x++dotsB (x.2.2.2.1.take 0)).length s.2) rfl zG ?_;refine S.loopK2 (ι:=Nat) (κ:=Option Addr × Nat) (fun i q=>i≤x.2.2.2.1.length) (fun i q=>[(3,.slice q.1 (recHead x++dotsB (x.2.2.2.1.take i)).length q.2),(4,.int .i64 (i:Int))]) [(1,_)] (fun i q=>[OwnP Rp.u8 5 (.slice q.1 (recHead x++dotsB (x.2.2.2.1.take i)).length q.2) (recHead x++dotsB (x.2.2.2.1.take i))]) (fun i q=>x.2.2.2.1.length - i) (0) (s) zG zq zq rfl fun i q hx ih=>?_;have hm1:=meltRefl (g:=g);refine zz 4 ?_;refine O.op (.p rfl) (.fieldAddr fld74x3 rfl) ?_;refine zz 4 ?_;refine S.cd rfl (fun h30=>?_) fun h30=>?_
 ·have hi:i<x.2.2.2.1.length:=by omega
  have htk:recHead x++dotsB (x.2.2.2.1.take i)++(be x.2.2.2.1[i].1++be x.2.2.2.1[i].2.1)=recHead x++dotsB (x.2.2.2.1.take (i+1)):=by rw [List.take_succ_eq_append_getElem hi,dotsB_snoc,List.append_assoc]
  have hln:(recHead x++dotsB (x.2.2.2.1.take i)).length≤1000:=by rw [List.length_append,dotsB_length,List.length_take];omega
  generalize recHead x++dotsB (x.2.2.2.1.take i)=so at htk hln ⊢;have hfl2:[so,be x.2.2.2.1[i].1,be x.2.2.2.1[i].2.1].flatten=recHead x++dotsB (x.2.2.2.1.take (i+1)):=by rw [← htk];simp
  have hl2:[so,be x.2.2.2.1[i].1,be x.2.2.2.1[i].2.1].flatten.length≤2000:=by simp;omega
  generalize hD:x.2.2.2.1[i]=dt at htk hfl2 hl2;refine zz 3 ?_;refine S.regionD (L:=[0,1,2,3,4,5,6,8,9,10,11,12,13,7,14,15,16,17]) F.mixed zB ?_;refine zz 3 ?_;refine OD.q 1 rfl<|OD.iz (k3) (h:=fun p37 cs37 hp37 hr37=>?_);obtain ⟨rfl,hi37,hj37⟩:=DotRp.open hr37;rw [hD] at hp37;refine zz 4 ?_;refine OD.q 1 rfl<|OD.iz (k3) (h:=fun p44 cs44 hp44 hr44=>?_);obtain ⟨rfl,hi44,hj44⟩:=DotRp.open hr44;rw [hD] at hp44;refine zz 2 ?_;refine OD.call0 (.p rfl) zB rfl zB rfl rfl (refNumber_c _) ?_;rintro _ _ ⟨a40,c40,rfl,rfl⟩;refine OD.call0 (.p rfl) zB rfl zB rfl rfl (refNumber_c _) ?_;rintro _ _ ⟨a47,c47,rfl,rfl⟩;refine OD.litP (T:=Rp.val) (ys:=[_,_,_]) (.p rfl) zB underlying39 elem31 zE rfl rfl ⟨⟨rfl,rfl⟩,⟨rfl,rfl⟩,⟨rfl,rfl⟩,trivial⟩ zE (fun a48 c48=>?_);refine OD.callB (.p rfl) zB rfl zB rfl rfl (bs:=[OwnP Rp.val 31 (.slice a48 3 c48) [.slice q.1 so.length q.2,.slice a40 8 c40,.slice a47 8 c47],OwnP Rp.u8 5 (.slice q.1 so.length q.2) so,OwnP Rp.u8 5 (.slice a40 8 c40) (be dt.1),OwnP Rp.u8 5 (.slice a47 8 c47) (be dt.2.1)]) zI (fun m hm hd=>refJoin_c (xss:=[so,be dt.1,be dt.2.1]) ((hm.arr.right hd).rows ⟨hm.tail.arr.right hd,hm.tail.tail.arr.right hd,hm.tail.tail.tail.arr.right hd,trivial⟩) zD) ?_;rintro _ _ ⟨a49,c49,rfl,rfl⟩;rw [hfl2];refine zz 8 ?_;exact S.pw (ih (i+1) ((a49,c49)) zD zD)
 ·clear ih
  have hi:i=x.2.2.2.1.length:=by omega
  subst hi;rw [List.take_length];generalize hso:recHead x++dotsB x.2.2.2.1=so;have hsl:so.length≤2000:=by rw [← hso,List.length_append,dotsB_length];omega
  have hrt:[so,[goneB x.2.2.2.2.1],bytesOf x.2.2.2.2.2.1].flatten=recText x:=by rw [← hso];simp [recHead,recText]
  have hrl:(recText x).length≤100000:=by rw [recText_length];omega
  refine zz 4 ?_;refine O.nil (S.seq (S.seq ?_))
  cases g4:x.2.2.2.2.1 with
  |false =>
   rw [g4] at hrt;refine zz 1 ?_;refine O.op (.p rfl) (.fieldAddr fld74x4 rfl) ?_;refine zz 1 ?_;refine O.sF 51 rfl (by exact g4) ?_;refine zz 7 ?_;refine O.opE (.p rfl) (.litP (T:=Rp.u8) (ys:=[goneB false]) underlying31 elem5 zE rfl rfl ⟨rfl,trivial⟩ zE) ?_;rintro _ _ ⟨a54,c54,rfl,rfl⟩;refine O.op (.p rfl) (.fieldAddr fld74x5 rfl) ?_;refine zz 1 ?_;refine O.call0 (.p rfl) rfl zB rfl rfl (refBytes_c zA zH) ?_;rintro _ _ ⟨a57,c57,rfl,rfl⟩;refine O.opE (.p rfl) (.litP (T:=Rp.val) (ys:=[_,_,_]) underlying39 elem31 zE rfl rfl ⟨⟨rfl,rfl⟩,⟨rfl,rfl⟩,⟨rfl,rfl⟩,trivial⟩ zE) ?_;rintro _ _ ⟨a58,c58,rfl,rfl⟩;refine O.callB (.p rfl) rfl zB rfl rfl (bs:=[OwnP Rp.val 31 (.slice a58 3 c58) [.slice q.1 so.length q.2,.slice a54 1 c54,.slice a57 (bytesOf x.2.2.2.2.2.1).length c57],OwnP Rp.u8 5 (.slice q.1 so.length q.2) so,OwnP Rp.u8 5 (.slice a54 1 c54) [goneB false],OwnP Rp.u8 5 (.slice a57 (bytesOf x.2.2.2.2.2.1).length c57) (bytesOf x.2.2.2.2.2.1)]) zI (fun m hm hd=>refJoin_c (xss:=[so,[goneB false],bytesOf x.2.2.2.2.2.1]) ((hm.arr.right hd).rows ⟨hm.tail.arr.right hd,hm.tail.tail.arr.right hd,hm.tail.tail.tail.arr.right hd,trivial⟩) (by rw [hrt];omega)) ?_;rintro _ _ ⟨a59,c59,rfl,rfl⟩;rw [hrt];refine zz 2 ?_;exact S.rt results285 rfl hR ⟨a59,c59,rfl,rfl⟩
  |true =>
   rw [g4] at hrt;refine zz 1 ?_;refine O.op (.p rfl) (.fieldAddr fld74x4 rfl) ?_;refine zz 1 ?_;refine O.sT 51 rfl (by exact g4) ?_;refine zz 9 ?_;refine O.opE (.p rfl) (.litP (T:=Rp.u8) (ys:=[goneB true]) underlying31 elem5 zE rfl rfl ⟨rfl,trivial⟩ zE) ?_;rintro _ _ ⟨a54,c54,rfl,rfl⟩;refine O.op (.p rfl) (.fieldAddr fld74x5 rfl) ?_;refine zz 1 ?_;refine O.call0 (.p rfl) rfl zB rfl rfl (refBytes_c zA zH) ?_;rintro _ _ ⟨a57,c57,rfl,rfl⟩;refine O.opE (.p rfl) (.litP (T:=Rp.val) (ys:=[_,_,_]) underlying39 elem31 zE rfl rfl ⟨⟨rfl,rfl⟩,⟨rfl,rfl⟩,⟨rfl,rfl⟩,trivial⟩ zE) ?_;rintro _ _ ⟨a58,c58,rfl,rfl⟩;refine O.callB (.p rfl) rfl zB rfl rfl (bs:=[OwnP Rp.val 31 (.slice a58 3 c58) [.slice q.1 so.length q.2,.slice a54 1 c54,.slice a57 (bytesOf x.2.2.2.2.2.1).length c57],OwnP Rp.u8 5 (.slice q.1 so.length q.2) so,OwnP Rp.u8 5 (.slice a54 1 c54) [goneB true],OwnP Rp.u8 5 (.slice a57 (bytesOf x.2.2.2.2.2.1).length c57) (bytesOf x.2.2.2.2.2.1)]) zI (fun m hm hd=>refJoin_c (xss:=[so,[goneB true],bytesOf x.2.2.2.2.2.1]) ((hm.arr.right hd).rows ⟨hm.tail.arr.right hd,hm.tail.tail.arr.right hd,hm.tail.tail.tail.arr.right hd,trivial⟩) (by rw [hrt];omega)) ?_;rintro _ _ ⟨a59,c59,rfl,rfl⟩;rw [hrt];refine zz 2 ?_;exact S.rt results285 rfl hR ⟨a59,c59,rfl,rfl⟩
theorem r8put_c {r:Fr} {cs:List Value} {x:RecT} (h:RecRp.rel r cs x) :
  Con prog 214 #[.agg cs.toArray] r [] (Ret fun v η=>∃ a c,v=.tuple #[.slice a (recOut x).length c,.int .i64 (recErr x)]∧η=[OwnP Rp.u8 5 (.slice a (recOut x).length c) (recOut x)]):=by
 obtain ⟨xa3,xa5,xa6,xc3,xc5,xc6,rfl,k0,k1,k2,k3,k5,k6⟩:=RecRp.sh h;refine Con.o func214 fun g hg R hR=>?_;have h:=h.mono hg;have k6:=k6.mono hg;refine S.seq<|S.region rfl<|O.opE (.p rfl) (.box (cs:=[_,_,_,_,_,_,_]) rfl rfl) ?_;rintro _ _ ⟨b1,rfl,rfl⟩;refine zz 5 ?_;refine S.frzO zC fun g hs hm hb1=>?_;replace hg:=Fr.sub_trans hg hs;replace hR:=melted hR hm
 try replace h:=h.mono hs
 try replace k6:=k6.mono hs
 clear hs hm
 cases e:recOk x with
 |false =>
  have e1:recOut x=[]:=by simp [recOut,e]
  have e2:recErr x=4:=by simp [recErr,e]
  rw [e1,e2] at hR;refine S.region rfl<|O.op (.p rfl) (.loadAgg isAgg74 zB rfl hb1) ?_;refine O.v0 (.p rfl) rfl zB rfl rfl ((r8right_c h)) ?_;refine O.sF 5 rfl (by exact e) ?_;refine zz 8 ?_;refine S.addNil (T:=Rp.u8) (e:=5) ?_;refine S.ret2 results214 rfl rfl fun w hw=>Holds.end_ hR hw ?_;exact pk ⟨none,0,rfl,rfl⟩
 |true =>
  have e1:recOut x=recB x:=by simp [recOut,e]
  have e2:recErr x=0:=by simp [recErr,e]
  rw [e1,e2] at hR;have hs:=(recOk_iff.1 e).1;have hbl:=recB_le e;have htl:=recText_le hs;have hfl:[recText x,x.2.2.2.2.2.2.1].flatten=recB x:=by simp [recB]
  refine S.region rfl<|O.op (.p rfl) (.loadAgg isAgg74 zB rfl hb1) ?_;refine O.v0 (.p rfl) rfl zB rfl rfl ((r8right_c h)) ?_;refine O.sT 5 rfl (by exact e) ?_;refine zz 5 ?_;refine S.regionD (L:=[0,2,3,1,4,5,6,7]) F.mixed zB<|.quiet (.p rfl) rfl (fun _=>.loadAgg isAgg74 zB rfl hb1) ?_;refine zz 2 ?_;refine OD.call0 (.p rfl) zB rfl zB rfl rfl ((r8text_c h hs)) ?_;rintro _ _ ⟨a8,c8,rfl,rfl⟩;refine OD.litP (T:=Rp.val) (ys:=[_,_]) (.p rfl) zB underlying39 elem31 zE rfl rfl ⟨⟨rfl,rfl⟩,⟨rfl,rfl⟩,trivial⟩ zE (fun a11 c11=>?_);refine OD.callB (.p rfl) zB rfl zB rfl rfl (bs:=[OwnP Rp.val 31 (.slice a11 2 c11) [.slice a8 (recText x).length c8,.slice xa6 x.2.2.2.2.2.2.1.length xc6],OwnP Rp.u8 5 (.slice a8 (recText x).length c8) (recText x)]) zI (fun m hm hd=>refJoin_c (xss:=[recText x,x.2.2.2.2.2.2.1]) ((hm.arr.right hd).rows ⟨hm.tail.arr.right hd,k6.left,trivial⟩) (by rw [hfl];omega)) ?_;rintro _ _ ⟨a12,c12,rfl,rfl⟩;rw [hfl];refine OD.q 2 rfl<|ODx.nil<|S.ret2 results214 rfl rfl fun w hw=>Holds.end_ hR hw ?_;exact pk ⟨a12,c12,rfl,rfl⟩
end Go.Proofs.YtodhbhanmdfdeaaGreat
