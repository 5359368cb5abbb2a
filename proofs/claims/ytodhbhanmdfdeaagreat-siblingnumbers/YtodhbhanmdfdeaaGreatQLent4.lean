/- Texts of this proof. -/
import Derived.Test.YtodhbhanmdfdeaaGreatQSame1
open Go Go.Sp Go.Proofs.Tryz
set_option maxRecDepth 100000
set_option maxHeartbeats 1000000
attribute [local irreducible] obj Own OwnP
namespace Go.Proofs.YtodhbhanmdfdeaaGreat
theorem sameRoot_eq {x y:RootT} (h0:x.1=y.1) (h1:x.2.1=y.2.1) (h2:x.2.2.1=y.2.2.1) (h3:x.2.2.2.1=y.2.2.2.1) (h4:x.2.2.2.2.1=y.2.2.2.2.1):x=y:=by
 obtain ⟨a0,a1,a2,a3,a4,⟨⟩⟩:=x;obtain ⟨b0,b1,b2,b3,b4,⟨⟩⟩:=y
 simp_all
theorem sameRoot_c {r:Fr} {cs ds:List Value} {x y:RootT} (hx:RootRp.rel r cs x) (hy:RootRp.rel r ds y) :
  Con prog 160 #[.agg cs.toArray,.agg ds.toArray] r [] (Ret fun v η=>v=.bool (decide (x=y))∧η=[]):=by
 obtain ⟨xa3,xa4,xc3,xc4,rfl,xk0,xk1,xk2,xk3,xk4⟩:=RootRp.sh hx;obtain ⟨ya3,ya4,yc3,yc4,rfl,yk0,yk1,yk2,yk3,yk4⟩:=RootRp.sh hy;refine Con.o func160 fun g hg R hR=>?_;have xk3:=xk3.mono hg;have xk4:=xk4.mono hg;have yk3:=yk3.mono hg;have yk4:=yk4.mono hg;refine S.seq<|S.region rfl<|O.opE (.p rfl) (.box (cs:=[_,_,_,_,_]) rfl rfl) ?_;rintro _ _ ⟨b2,rfl,rfl⟩;refine O.opE (.p rfl) (.box (cs:=[_,_,_,_,_]) rfl rfl) ?_;rintro _ _ ⟨b3,rfl,rfl⟩;refine zz 10 ?_
 first|refine O.caseD 10 rfl (fun h10=>?_) (fun h10=>?_)|refine O.caseB 10 rfl (fun h10=>?_) (fun h10=>?_)
 ·refine zz 7 ?_
  first|refine O.caseD 17 rfl (fun h17=>?_) (fun h17=>?_)|refine O.caseB 17 rfl (fun h17=>?_) (fun h17=>?_)
  ·refine zz 7 ?_
   first|refine O.caseD 24 rfl (fun h24=>?_) (fun h24=>?_)|refine O.caseB 24 rfl (fun h24=>?_) (fun h24=>?_)
   ·refine zz 4 ?_
    refine O.v0 (.g rfl rfl) rfl zC rfl rfl (SameBytes_c zA zA) ?_;refine zz 2 ?_
    first|refine O.caseD 31 rfl (fun h31=>?_) (fun h31=>?_)|refine O.caseB 31 rfl (fun h31=>?_) (fun h31=>?_)
    ·refine zz 4 ?_
     refine O.v0 (.g rfl rfl) rfl zC rfl rfl (SameBytes_c zA zA) ?_;refine O.q 2 rfl<|O.nil<|S.ret results160 rfl fun w hw=>Holds.end_ hR hw ?_
     first|exact ⟨_,⟨congrArg _ (decide_eq_false (fun e=>by subst e;exact absurd rfl zF)).symm,rfl⟩,by repeat (first|exact zpa|exact zpn|(apply zpc;focus (repeat (first|exact zh|apply zt)))|apply zps)⟩|exact ⟨_,⟨congrArg _ (decide_eq_decide.2 ⟨fun e=>sameRoot_eq zF zF zF zF e,fun e=>by rw [e]⟩),rfl⟩,by repeat (first|exact zpa|exact zpn|(apply zpc;focus (repeat (first|exact zh|apply zt)))|apply zps)⟩
    ·refine O.q 7 rfl<|O.nil<|S.ret results160 rfl fun w hw=>Holds.end_ hR hw ?_
     first|exact ⟨_,⟨congrArg _ (decide_eq_false (fun e=>by subst e;exact absurd rfl zF)).symm,rfl⟩,by repeat (first|exact zpa|exact zpn|(apply zpc;focus (repeat (first|exact zh|apply zt)))|apply zps)⟩|exact ⟨_,⟨congrArg _ (decide_eq_decide.2 ⟨fun e=>sameRoot_eq zF zF zF zF e,fun e=>by rw [e]⟩),rfl⟩,by repeat (first|exact zpa|exact zpn|(apply zpc;focus (repeat (first|exact zh|apply zt)))|apply zps)⟩
   ·refine O.q 14 rfl<|O.nil<|S.ret results160 rfl fun w hw=>Holds.end_ hR hw ?_
    first|exact ⟨_,⟨congrArg _ (decide_eq_false (fun e=>by subst e;exact absurd rfl zF)).symm,rfl⟩,by repeat (first|exact zpa|exact zpn|(apply zpc;focus (repeat (first|exact zh|apply zt)))|apply zps)⟩|exact ⟨_,⟨congrArg _ (decide_eq_decide.2 ⟨fun e=>sameRoot_eq zF zF zF zF e,fun e=>by rw [e]⟩),rfl⟩,by repeat (first|exact zpa|exact zpn|(apply zpc;focus (repeat (first|exact zh|apply zt)))|apply zps)⟩
  ·refine O.q 21 rfl<|O.nil<|S.ret results160 rfl fun w hw=>Holds.end_ hR hw ?_
   first|exact ⟨_,⟨congrArg _ (decide_eq_false (fun e=>by subst e;exact absurd rfl zF)).symm,rfl⟩,by repeat (first|exact zpa|exact zpn|(apply zpc;focus (repeat (first|exact zh|apply zt)))|apply zps)⟩|exact ⟨_,⟨congrArg _ (decide_eq_decide.2 ⟨fun e=>sameRoot_eq zF zF zF zF e,fun e=>by rw [e]⟩),rfl⟩,by repeat (first|exact zpa|exact zpn|(apply zpc;focus (repeat (first|exact zh|apply zt)))|apply zps)⟩
 ·refine O.q 28 rfl<|O.nil<|S.ret results160 rfl fun w hw=>Holds.end_ hR hw ?_
  first|exact ⟨_,⟨congrArg _ (decide_eq_false (fun e=>by subst e;exact absurd rfl zF)).symm,rfl⟩,by repeat (first|exact zpa|exact zpn|(apply zpc;focus (repeat (first|exact zh|apply zt)))|apply zps)⟩|exact ⟨_,⟨congrArg _ (decide_eq_decide.2 ⟨fun e=>sameRoot_eq zF zF zF zF e,fun e=>by rw [e]⟩),rfl⟩,by repeat (first|exact zpa|exact zpn|(apply zpc;focus (repeat (first|exact zh|apply zt)))|apply zps)⟩
theorem sameRoots_c {r:Fr} {va vb:Value} {xs ys:List RootT} (ha:Arr RootRp r va xs) (hb:Arr RootRp r vb ys) :
  Con prog 96 #[va,vb] r [] (Ret fun v η=>v=.bool (decide (xs=ys))∧η=[]):=by
 have har:=ha;have hbr:=hb;refine Con.o func96 fun g hg R hR=>?_;have ha:=ha.mono hg;have hb:=hb.mono hg;have hbd:=ha.bound;obtain ⟨a1,c1,rfl⟩:=ha.shape;obtain ⟨a2,c2,rfl⟩:=hb.shape
 by_cases e0:xs.length=ys.length
 ·
  refine zz 12 ?_;refine O.sF 10 rfl (by exact decide_eq_false zD) ?_;refine zz 9 ?_;refine S.loopK (ι:=Nat) (fun i=>i≤xs.length∧xs.take i=ys.take i) (fun i=>[(5,.int .i64 (i:Int))]) [(0,_),(1,_)] (fun i=>[]) (fun i=>xs.length - i) (0) zG zq zq rfl fun i hx ih=>?_;have hm1:=meltRefl (g:=g);obtain ⟨hx1,hx2⟩:=hx;refine zz 8 ?_;refine S.cd rfl (fun h14=>?_) fun h14=>?_
  ·have hi:i<xs.length:=by omega
   have hi2:i<ys.length:=by omega
   by_cases e:xs[i]=ys[i]
   ·
    refine S.skip<|S.seq<|S.block<|S.seq<|S.regionD (L:=.range 10) F.mixed zC<|OD.q 2 rfl<|OD.iy har hg (h:=fun p19 cs19 hp19 hrr19=>?_);have hr19:=Rp.rel.mono hrr19 hg;obtain ⟨ta3_19,ta4_19,tc3_19,tc4_19,rfl,ho0_19,ho1_19,ho2_19,ha3_19,ha4_19⟩:=RootRp.sh hr19;refine .quiet (.p rfl) rfl (fun _=>.loadAgg isAgg52 zC rfl hp19) ?_;refine OD.q 2 rfl<|OD.iy hbr hg (h:=fun p23 cs23 hp23 hrr23=>?_);have hr23:=Rp.rel.mono hrr23 hg;obtain ⟨ta3_23,ta4_23,tc3_23,tc4_23,rfl,ho0_23,ho1_23,ho2_23,ha3_23,ha4_23⟩:=RootRp.sh hr23;refine .quiet (.p rfl) rfl (fun _=>.loadAgg isAgg52 zC rfl hp23) ?_;refine OD.v0 (.p rfl) zC rfl zC rfl rfl ((sameRoot_c hr19 hr23)) ?_;refine OD.sT 25 rfl (by exact decide_eq_true e) ?_;refine zz 10 ?_;exact S.wk (ih (i+1) (by exact ⟨by omega,take_same hi hi2 hx2 e⟩) zD)
   ·
    refine S.skip<|S.seq<|S.block<|S.seq<|S.regionD (L:=.range 10) F.mixed zC<|OD.q 2 rfl<|OD.iy har hg (h:=fun p19 cs19 hp19 hrr19=>?_);have hr19:=Rp.rel.mono hrr19 hg;obtain ⟨ta3_19,ta4_19,tc3_19,tc4_19,rfl,ho0_19,ho1_19,ho2_19,ha3_19,ha4_19⟩:=RootRp.sh hr19;refine .quiet (.p rfl) rfl (fun _=>.loadAgg isAgg52 zC rfl hp19) ?_;refine OD.q 2 rfl<|OD.iy hbr hg (h:=fun p23 cs23 hp23 hrr23=>?_);have hr23:=Rp.rel.mono hrr23 hg;obtain ⟨ta3_23,ta4_23,tc3_23,tc4_23,rfl,ho0_23,ho1_23,ho2_23,ha3_23,ha4_23⟩:=RootRp.sh hr23;refine .quiet (.p rfl) rfl (fun _=>.loadAgg isAgg52 zC rfl hp23) ?_;refine OD.v0 (.p rfl) zC rfl zC rfl rfl ((sameRoot_c hr19 hr23)) ?_;refine OD.sF 25 rfl (by exact decide_eq_false e) ?_;refine zz 7 ?_;exact S.rt results96 rfl hR ⟨congrArg _ (decide_eq_false (not_same hi hi2 e)).symm,rfl⟩
  ·have hi:i=xs.length:=by omega
   clear ih;subst hi;rw [List.take_length,e0,List.take_length] at hx2;refine zz 5 ?_;exact S.rt results96 rfl hR ⟨by simp [hx2],rfl⟩
 ·
  refine zz 12 ?_;refine O.sT 10 rfl (by exact decide_eq_true zD) ?_;refine zz 6 ?_;exact S.rt results96 rfl hR ⟨congrArg _ (decide_eq_false (fun h=>e0 (by rw [h]))).symm,rfl⟩
theorem sameEvidence_eq {x y:EvdT} (h0:x.1=y.1) (h1:x.2.1=y.2.1):x=y:=by
 obtain ⟨a0,a1,⟨⟩⟩:=x;obtain ⟨b0,b1,⟨⟩⟩:=y
 simp_all
theorem sameEvidence_c {r:Fr} {cs ds:List Value} {x y:EvdT} (hx:EvdRp.rel r cs x) (hy:EvdRp.rel r ds y) :
  Con prog 156 #[.agg cs.toArray,.agg ds.toArray] r [] (Ret fun v η=>v=.bool (decide (x=y))∧η=[]):=by
 obtain ⟨xa3,xa4,xa8,xa9,xc3,xc4,xc8,xc9,rfl,xk0,xk1,xk2,xk3,xk4,xk5,xk6,xk7,xk8,xk9⟩:=EvdRp.sh hx;obtain ⟨ya3,ya4,ya8,ya9,yc3,yc4,yc8,yc9,rfl,yk0,yk1,yk2,yk3,yk4,yk5,yk6,yk7,yk8,yk9⟩:=EvdRp.sh hy;refine Con.o func156 fun g hg R hR=>?_;have xk3:=xk3.mono hg;have xk4:=xk4.mono hg;have xk8:=xk8.mono hg;have xk9:=xk9.mono hg;have yk3:=yk3.mono hg;have yk4:=yk4.mono hg;have yk8:=yk8.mono hg;have yk9:=yk9.mono hg;refine S.seq<|S.region rfl<|O.opE (.p rfl) (.box (cs:=[_,_,_,_,_,_,_,_,_,_]) rfl rfl) ?_;rintro _ _ ⟨b2,rfl,rfl⟩;refine O.opE (.p rfl) (.box (cs:=[_,_,_,_,_,_,_,_,_,_]) rfl rfl) ?_;rintro _ _ ⟨b3,rfl,rfl⟩;refine zz 8 ?_;refine O.v0 (.p rfl) rfl zC rfl rfl ((sameRoot_c (x:=x.1) (y:=y.1) (RootRp.mk xk0 xk1 xk2 xk3 xk4) (RootRp.mk yk0 yk1 yk2 yk3 yk4))) ?_;refine zz 1 ?_
 first|refine O.caseD 10 rfl (fun h10=>?_) (fun h10=>?_)|refine O.caseB 10 rfl (fun h10=>?_) (fun h10=>?_)
 ·refine zz 4 ?_
  refine O.v0 (.g rfl rfl) rfl zC rfl rfl ((sameRoot_c (x:=x.2.1) (y:=y.2.1) (RootRp.mk xk5 xk6 xk7 xk8 xk9) (RootRp.mk yk5 yk6 yk7 yk8 yk9))) ?_;refine O.q 2 rfl<|O.nil<|S.ret results156 rfl fun w hw=>Holds.end_ hR hw ?_
  first|exact ⟨_,⟨congrArg _ (decide_eq_false (fun e=>by subst e;exact absurd rfl zF)).symm,rfl⟩,by repeat (first|exact zpa|exact zpn|(apply zpc;focus (repeat (first|exact zh|apply zt)))|apply zps)⟩|exact ⟨_,⟨congrArg _ (decide_eq_decide.2 ⟨fun e=>sameEvidence_eq zF e,fun e=>by rw [e]⟩),rfl⟩,by repeat (first|exact zpa|exact zpn|(apply zpc;focus (repeat (first|exact zh|apply zt)))|apply zps)⟩
 ·refine O.q 7 rfl<|O.nil<|S.ret results156 rfl fun w hw=>Holds.end_ hR hw ?_
  first|exact ⟨_,⟨congrArg _ (decide_eq_false (fun e=>by subst e;exact absurd rfl zF)).symm,rfl⟩,by repeat (first|exact zpa|exact zpn|(apply zpc;focus (repeat (first|exact zh|apply zt)))|apply zps)⟩|exact ⟨_,⟨congrArg _ (decide_eq_decide.2 ⟨fun e=>sameEvidence_eq zF e,fun e=>by rw [e]⟩),rfl⟩,by repeat (first|exact zpa|exact zpn|(apply zpc;focus (repeat (first|exact zh|apply zt)))|apply zps)⟩
theorem sameEvidenceRow_c {r:Fr} {va vb:Value} {xs ys:List EvdT} (ha:Arr EvdRp r va xs) (hb:Arr EvdRp r vb ys) :
  Con prog 97 #[va,vb] r [] (Ret fun v η=>v=.bool (decide (xs=ys))∧η=[]):=by
 have har:=ha;have hbr:=hb;refine Con.o func97 fun g hg R hR=>?_;have ha:=ha.mono hg;have hb:=hb.mono hg;have hbd:=ha.bound;obtain ⟨a1,c1,rfl⟩:=ha.shape;obtain ⟨a2,c2,rfl⟩:=hb.shape
 by_cases e0:xs.length=ys.length
 ·
  refine zz 12 ?_;refine O.sF 10 rfl (by exact decide_eq_false zD) ?_;refine zz 9 ?_;refine S.loopK (ι:=Nat) (fun i=>i≤xs.length∧xs.take i=ys.take i) (fun i=>[(5,.int .i64 (i:Int))]) [(0,_),(1,_)] (fun i=>[]) (fun i=>xs.length - i) (0) zG zq zq rfl fun i hx ih=>?_;have hm1:=meltRefl (g:=g);obtain ⟨hx1,hx2⟩:=hx;refine zz 8 ?_;refine S.cd rfl (fun h14=>?_) fun h14=>?_
  ·have hi:i<xs.length:=by omega
   have hi2:i<ys.length:=by omega
   by_cases e:xs[i]=ys[i]
   ·
    refine S.skip<|S.seq<|S.block<|S.seq<|S.regionD (L:=.range 10) F.mixed zC<|OD.q 2 rfl<|OD.iy har hg (h:=fun p19 cs19 hp19 hrr19=>?_);have hr19:=Rp.rel.mono hrr19 hg;obtain ⟨ea3_19,ea4_19,ea8_19,ea9_19,ec3_19,ec4_19,ec8_19,ec9_19,rfl,ho0_19,ho1_19,ho2_19,ha3_19,ha4_19,ho5_19,ho6_19,ho7_19,ha8_19,ha9_19⟩:=EvdRp.sh hr19;refine .quiet (.p rfl) rfl (fun _=>.loadAgg isAgg55 zC rfl hp19) ?_;refine OD.q 2 rfl<|OD.iy hbr hg (h:=fun p23 cs23 hp23 hrr23=>?_);have hr23:=Rp.rel.mono hrr23 hg;obtain ⟨ea3_23,ea4_23,ea8_23,ea9_23,ec3_23,ec4_23,ec8_23,ec9_23,rfl,ho0_23,ho1_23,ho2_23,ha3_23,ha4_23,ho5_23,ho6_23,ho7_23,ha8_23,ha9_23⟩:=EvdRp.sh hr23;refine .quiet (.p rfl) rfl (fun _=>.loadAgg isAgg55 zC rfl hp23) ?_;refine OD.v0 (.p rfl) zC rfl zC rfl rfl ((sameEvidence_c hr19 hr23)) ?_;refine OD.sT 25 rfl (by exact decide_eq_true e) ?_;refine zz 10 ?_;exact S.wk (ih (i+1) (by exact ⟨by omega,take_same hi hi2 hx2 e⟩) zD)
   ·
    refine S.skip<|S.seq<|S.block<|S.seq<|S.regionD (L:=.range 10) F.mixed zC<|OD.q 2 rfl<|OD.iy har hg (h:=fun p19 cs19 hp19 hrr19=>?_);have hr19:=Rp.rel.mono hrr19 hg;obtain ⟨ea3_19,ea4_19,ea8_19,ea9_19,ec3_19,ec4_19,ec8_19,ec9_19,rfl,ho0_19,ho1_19,ho2_19,ha3_19,ha4_19,ho5_19,ho6_19,ho7_19,ha8_19,ha9_19⟩:=EvdRp.sh hr19;refine .quiet (.p rfl) rfl (fun _=>.loadAgg isAgg55 zC rfl hp19) ?_;refine OD.q 2 rfl<|OD.iy hbr hg (h:=fun p23 cs23 hp23 hrr23=>?_);have hr23:=Rp.rel.mono hrr23 hg;obtain ⟨ea3_23,ea4_23,ea8_23,ea9_23,ec3_23,ec4_23,ec8_23,ec9_23,rfl,ho0_23,ho1_23,ho2_23,ha3_23,ha4_23,ho5_23,ho6_23,ho7_23,ha8_23,ha9_23⟩:=EvdRp.sh hr23;refine .quiet (.p rfl) rfl (fun _=>.loadAgg isAgg55 zC rfl hp23) ?_;refine OD.v0 (.p rfl) zC rfl zC rfl rfl ((sameEvidence_c hr19 hr23)) ?_;refine OD.sF 25 rfl (by exact decide_eq_false e) ?_;refine zz 7 ?_;exact S.rt results97 rfl hR ⟨congrArg _ (decide_eq_false (not_same hi hi2 e)).symm,rfl⟩
  ·have hi:i=xs.length:=by omega
   clear ih;subst hi;rw [List.take_length,e0,List.take_length] at hx2;refine zz 5 ?_;exact S.rt results97 rfl hR ⟨by simp [hx2],rfl⟩
 ·
  refine zz 12 ?_;refine O.sT 10 rfl (by exact decide_eq_true zD) ?_;refine zz 6 ?_;exact S.rt results97 rfl hR ⟨congrArg _ (decide_eq_false (fun h=>e0 (by rw [h]))).symm,rfl⟩
theorem sameHeld_eq {x y:HeldT} (h0:x.1=y.1) (h1:x.2.1=y.2.1) (h2:x.2.2.1=y.2.2.1) (h3:x.2.2.2.1=y.2.2.2.1):x=y:=by
 obtain ⟨a0,a1,a2,a3,⟨⟩⟩:=x;obtain ⟨b0,b1,b2,b3,⟨⟩⟩:=y
 simp_all
theorem sameHeld_c {r:Fr} {cs ds:List Value} {x y:HeldT} (hx:HeldRp.rel r cs x) (hy:HeldRp.rel r ds y) :
  Con prog 33 #[.agg cs.toArray,.agg ds.toArray] r [] (Ret fun v η=>v=.bool (decide (x=y))∧η=[]):=by
 obtain ⟨xa0,xa1,xa2,xa3,xc0,xc1,xc2,xc3,rfl,xk0,xk1,xk2,xk3⟩:=HeldRp.sh hx;obtain ⟨ya0,ya1,ya2,ya3,yc0,yc1,yc2,yc3,rfl,yk0,yk1,yk2,yk3⟩:=HeldRp.sh hy;refine Con.o func33 fun g hg R hR=>?_;have xk0:=xk0.mono hg;have xk1:=xk1.mono hg;have xk2:=xk2.mono hg;have xk3:=xk3.mono hg;have yk0:=yk0.mono hg;have yk1:=yk1.mono hg;have yk2:=yk2.mono hg;have yk3:=yk3.mono hg;refine S.seq<|S.region rfl<|O.opE (.p rfl) (.box (cs:=[_,_,_,_]) rfl rfl) ?_;rintro _ _ ⟨b2,rfl,rfl⟩;refine O.opE (.p rfl) (.box (cs:=[_,_,_,_]) rfl rfl) ?_;rintro _ _ ⟨b3,rfl,rfl⟩;refine zz 8 ?_;refine O.v0 (.p rfl) rfl zC rfl rfl (sameLeaves_c zA zA) ?_;refine zz 1 ?_
 first|refine O.caseD 10 rfl (fun h10=>?_) (fun h10=>?_)|refine O.caseB 10 rfl (fun h10=>?_) (fun h10=>?_)
 ·refine zz 4 ?_
  refine O.v0 (.g rfl rfl) rfl zC rfl rfl (sameRoots_c zA zA) ?_;refine zz 2 ?_
  first|refine O.caseD 17 rfl (fun h17=>?_) (fun h17=>?_)|refine O.caseB 17 rfl (fun h17=>?_) (fun h17=>?_)
  ·refine zz 4 ?_
   refine O.v0 (.g rfl rfl) rfl zC rfl rfl (sameEvidenceRow_c zA zA) ?_;refine zz 2 ?_
   first|refine O.caseD 24 rfl (fun h24=>?_) (fun h24=>?_)|refine O.caseB 24 rfl (fun h24=>?_) (fun h24=>?_)
   ·refine zz 4 ?_
    refine O.v0 (.g rfl rfl) rfl zC rfl rfl (sameInts_c zA zA) ?_;refine O.q 2 rfl<|O.nil<|S.ret results33 rfl fun w hw=>Holds.end_ hR hw ?_
    first|exact ⟨_,⟨congrArg _ (decide_eq_false (fun e=>by subst e;exact absurd rfl zF)).symm,rfl⟩,by repeat (first|exact zpa|exact zpn|(apply zpc;focus (repeat (first|exact zh|apply zt)))|apply zps)⟩|exact ⟨_,⟨congrArg _ (decide_eq_decide.2 ⟨fun e=>sameHeld_eq zF zF zF e,fun e=>by rw [e]⟩),rfl⟩,by repeat (first|exact zpa|exact zpn|(apply zpc;focus (repeat (first|exact zh|apply zt)))|apply zps)⟩
   ·refine O.q 7 rfl<|O.nil<|S.ret results33 rfl fun w hw=>Holds.end_ hR hw ?_
    first|exact ⟨_,⟨congrArg _ (decide_eq_false (fun e=>by subst e;exact absurd rfl zF)).symm,rfl⟩,by repeat (first|exact zpa|exact zpn|(apply zpc;focus (repeat (first|exact zh|apply zt)))|apply zps)⟩|exact ⟨_,⟨congrArg _ (decide_eq_decide.2 ⟨fun e=>sameHeld_eq zF zF zF e,fun e=>by rw [e]⟩),rfl⟩,by repeat (first|exact zpa|exact zpn|(apply zpc;focus (repeat (first|exact zh|apply zt)))|apply zps)⟩
  ·refine O.q 14 rfl<|O.nil<|S.ret results33 rfl fun w hw=>Holds.end_ hR hw ?_
   first|exact ⟨_,⟨congrArg _ (decide_eq_false (fun e=>by subst e;exact absurd rfl zF)).symm,rfl⟩,by repeat (first|exact zpa|exact zpn|(apply zpc;focus (repeat (first|exact zh|apply zt)))|apply zps)⟩|exact ⟨_,⟨congrArg _ (decide_eq_decide.2 ⟨fun e=>sameHeld_eq zF zF zF e,fun e=>by rw [e]⟩),rfl⟩,by repeat (first|exact zpa|exact zpn|(apply zpc;focus (repeat (first|exact zh|apply zt)))|apply zps)⟩
 ·refine O.q 21 rfl<|O.nil<|S.ret results33 rfl fun w hw=>Holds.end_ hR hw ?_
  first|exact ⟨_,⟨congrArg _ (decide_eq_false (fun e=>by subst e;exact absurd rfl zF)).symm,rfl⟩,by repeat (first|exact zpa|exact zpn|(apply zpc;focus (repeat (first|exact zh|apply zt)))|apply zps)⟩|exact ⟨_,⟨congrArg _ (decide_eq_decide.2 ⟨fun e=>sameHeld_eq zF zF zF e,fun e=>by rw [e]⟩),rfl⟩,by repeat (first|exact zpa|exact zpn|(apply zpc;focus (repeat (first|exact zh|apply zt)))|apply zps)⟩
theorem mark_c {r:Fr} (k i:Int) (hk:Mk k) (hi:Mk i):Con prog 143 #[.int .i64 k,.int .i64 i] r [] (Ret fun v η=>v=.int .i64 (markZ k i)∧η=[]):=by
 refine Con.o func143 fun g hg R hR=>?_;obtain ⟨hk1,hk2⟩:=hk;obtain ⟨hi1,hi2⟩:=hi;refine zz 8 ?_;refine O.op (.p rfl) (.mul rfl rfl (IntWalk.i64_in _ zD)) ?_;refine zz 4 ?_;refine S.ret results143 rfl fun w hw=>hR _ _ w ?_ hw;exact ⟨rfl,rfl⟩
theorem markByte_c {r:Fr} (k i:Int) (hk:Mk k) (hi:Mk i):Con prog 78 #[.int .i64 k,.int .i64 i] r [] (Ret fun v η=>v=byteV (markB k i)∧η=[]):=by
 refine Con.o func78 fun g hg R hR=>?_;refine zz 8 ?_;refine O.v0 (.p rfl) rfl zC rfl rfl ((mark_c _ _ hk hi)) ?_;refine O.op (.p rfl) (.cvt underlying3 underlying195 rfl)<|O.op (.p rfl) (.mulW rfl rfl)<|O.op (.p rfl) (.shr rfl rfl zD)<|O.op (.p rfl) (.cvt underlying195 underlying5 rfl)<|O.q 1 rfl<|O.nil<|S.ret results78 rfl fun w hw=>hR _ _ w ?_ hw;exact ⟨wrapB _,rfl⟩
theorem markText_c {r:Fr} (k i:Int):Con prog 235 #[.int .i64 k,.int .i64 i] r [] (Ret fun v η=>v=.string (str (markT k i))∧η=[]):=by
 refine Con.o func235 fun g hg R hR=>?_;refine S.seq<|S.region rfl<|O.q 1 rfl<|O.nil<|S.seq<|S.region rfl<|O.q 1 rfl<|O.op (.p rfl) (.cvt underlying3 underlying5 rfl)<|O.q 1 rfl<|O.op (.p rfl) (.shr rfl rfl zD)<|O.op (.p rfl) (.cvt underlying3 underlying5 rfl)<|O.q 1 rfl<|O.op (.p rfl) (.shr rfl rfl zD)<|O.op (.p rfl) (.cvt underlying3 underlying5 rfl)<|O.q 1 rfl ?_;refine O.op (.p rfl) (.cvt underlying3 underlying5 rfl)<|O.q 1 rfl<|O.op (.p rfl) (.shr rfl rfl zD)<|O.op (.p rfl) (.cvt underlying3 underlying5 rfl)<|O.q 1 rfl<|O.op (.p rfl) (.shr rfl rfl zD)<|O.op (.p rfl) (.cvt underlying3 underlying5 rfl)<|O.opE (.p rfl) (.litP (T:=Rp.u8) (ys:=markT k i) underlying31 elem5 zE rfl rfl ⟨rfl,congrArg (fun v=>[v]) (wrapB _),congrArg (fun v=>[v]) (wrapB _),congrArg (fun v=>[v]) (wrapB _),rfl,congrArg (fun v=>[v]) (wrapB _),congrArg (fun v=>[v]) (wrapB _),congrArg (fun v=>[v]) (wrapB _),trivial⟩ zE) ?_;rintro _ _ ⟨a21,c21,rfl,rfl⟩;refine O.frzA zB fun g hs hm ha21=>?_;replace hg:=Fr.sub_trans hg hs;replace hR:=melted hR hm;clear hs hm;refine O.op (.p rfl) (.toStr underlying31 underlying5 underlying9 rfl zA) ?_;refine zz 2 ?_;exact S.rt results235 rfl hR ⟨rfl,rfl⟩
theorem LentBytes_c {r:Fr} {va:Value} {xs:List UInt8} (ha:Arr Rp.u8 r va xs) (hl:xs.length≤100000000000000) :
  Con prog 24 #[va] r [] (Ret fun v η=>∃ a c,v=.slice a xs.length c∧η=[LentP 5 v xs]):=by
 refine Con.o func24 fun g hg R hR=>?_;have ha:=ha.mono hg;obtain ⟨a1,c1,rfl⟩:=ha.shape;refine zz 9 ?_;refine O.opE (.p rfl) (.makeP0 (T:=Rp.u8) (c:=xs.length+12) underlying31 elem5 rfl rfl rfl rfl zD zD) ?_;rintro _ _ ⟨a8,c8,rfl,rfl⟩;refine zz 6 ?_;refine O.opE (.p rfl) (.appendP (T:=Rp.u8) pure_u8 underlying31 elem5 zE rfl rfl zB zA zI zI) ?_;rintro _ _ ⟨a11,c11,rfl,rfl⟩;refine zz 8 ?_;simp only [List.length_nil,Nat.zero_add,List.nil_append];refine S.conv (C:=OwnP Rp.u8 5 (.slice a11 (xs.length+0) c11) (xs++marks1 0)) Sel.here (fun m x=>⟨m,Fr.sub_refl _,by simpa [marks1,mks] using x⟩) ?_;refine S.loopK3 (ι:=Nat) (κ:=Option Addr) (υ:=Nat) (fun i a c=>i≤12) (fun i a c=>[(4,.int .i64 (i:Int)),(3,.slice a (xs.length+i) c)]) [(0,_)] (fun i a c=>[OwnP Rp.u8 5 (.slice a (xs.length+i) c) (xs++marks1 i)]) (fun i a c=>12 - i) (0) (a11) (c11) zG zq zq rfl fun i a c hx ih=>?_;have hm1:=meltRefl (g:=g);refine zz 6 ?_;refine S.cd rfl (fun h13=>?_) fun h13=>?_
 ·refine zz 6 ?_
  refine O.v0 (.p rfl) rfl zC rfl rfl (markByte_c _ _ zH zH) ?_;refine O.opE (.p rfl) (.litP (T:=Rp.u8) (ys:=[_]) underlying31 elem5 zE rfl rfl ⟨rfl,trivial⟩ zE) ?_;rintro _ _ ⟨a19,c19,rfl,rfl⟩;refine O.opE (.p rfl) (.appendO (T:=Rp.u8) underlying31 elem5 zE rfl rfl zB zB zI zI) ?_;rintro _ _ ⟨a20,c20,rfl,rfl⟩;refine zz 8 ?_;simp only [List.length_append,marks1_length];rw [List.append_assoc,marks1_succ];exact S.wk (ih (i+1) (a20) (c20) zD zD)
 ·have hi:i=12:=by omega
  subst hi;refine S.factS Sel.here (fun _ x=>OwnP.room x) fun hroom=>?_;refine zz 6 ?_;refine O.slice0 (q:=xs.length) Rp.u8 (.p rfl) underlying31 size5 rfl rfl rfl zD ?_;refine O.q 1 rfl<|O.nil<|S.conv (C:=LentP 5 (.slice a xs.length c) xs) Sel.here (fun m x=>⟨m,Fr.sub_refl _,a,c,hroom.2,rfl,x⟩) ?_;refine S.ret results24 rfl fun w hw=>hR _ _ w ?_ hw;exact ⟨a,c,rfl,rfl⟩
theorem kept_step {α:Type} {zs ys:List α} {i:Nat} (hl:zs.length=ys.length) (hx:∀ (j:Nat) (hj:j<zs.length),j<i→zs[j]=ys[j]) (he:∀ (hi:i<zs.length),zs[i]=ys[i]):∀ (j:Nat) (hj:j<zs.length),j<i+1→zs[j]=ys[j]:=by
 intro j hj h
 by_cases hji:j<i
 ·exact hx j hj hji
 ·have:j=i:=by omega
  subst this;exact he hj
theorem kept_get (xs zs:List UInt8) (hz:zs.length=xs.length+12) (h:∀ (i:Nat) (hi:i<zs.length),zs[i]=(xs++marks1 12)[i]'zJ):zs=xs++marks1 12 :=
 List.ext_getElem zJ fun i h1 h2=>h i h1
theorem KeptBytes_c {r:Fr} {a:Option Addr} {c:Nat} {vl:Value} {xs zs:List UInt8} (hz:Arr Rp.u8 r (.slice a (xs.length+12) c) zs) (hl:Arr Rp.u8 r vl xs) (hb:xs.length≤100000000000000) :
  Con prog 27 #[.slice a xs.length c,vl] r [] (Ret fun v η=>v=.bool (decide (zs=xs++marks1 12))∧η=[]):=by
 refine Con.o func27 fun g hg R hR=>?_;have hz:=hz.mono hg;have hl:=hl.mono hg;obtain ⟨hzl,hzc⟩:=hz.room;rw [hzl] at hz hzc;obtain ⟨a1,c1,rfl⟩:=hl.shape;refine zz 13 ?_;refine S.cd rfl (fun h11=>?_) fun h11=>?_
 ·exact absurd rfl zF
 ·refine zz 7 ?_
  refine O.slice0 (q:=zs.length) Rp.u8 (.p rfl) underlying31 size5 rfl rfl zD zD ?_;refine zz 8 ?_;refine S.loopK (ι:=Nat) (fun i=>i≤zs.length∧∀ (j:Nat) (hj:j<zs.length),j<i→zs[j]=(xs++marks1 12)[j]'zJ) (fun i=>[(6,.int .i64 (i:Int))]) [(1,_),(5,_)] (fun i=>[]) (fun i=>zs.length - i) (0) (by exact ⟨by simp,fun j hj h=>absurd h zD⟩) zq zq rfl fun i hx ih=>?_;have hm1:=meltRefl (g:=g);obtain ⟨hx1,hx⟩:=hx;refine zz 8 ?_;refine S.cd rfl (fun h20=>?_) fun h20=>?_
  ·have hi:i<zs.length:=by omega
   refine zz 4 ?_;refine S.regionD (L:=.range 35) F.mixed zC ?_;refine zz 5 ?_
   first|refine OD.caseD 27 rfl (fun h27=>?_) (fun h27=>?_)|refine OD.caseB 27 rfl (fun h27=>?_) (fun h27=>?_)
   ·have hi2:i<xs.length:=by omega
    have hget:(xs++marks1 12)[i]'zJ=xs[i]:=List.getElem_append_left hi2;refine OD.q 2 rfl<|OD.ia (.g rfl rfl) underlying31 size5 rfl rfl rfl zA (h:=fun p30 cs30 hp30 hr30=>?_)
    cases hr30
    refine zz 1 ?_;refine OD.q 2 rfl<|OD.ia (.g rfl rfl) underlying31 size5 rfl rfl rfl zA (h:=fun p34 cs34 hp34 hr34=>?_)
    cases hr34
    refine zz 2 ?_;refine .quiet (.g rfl rfl) rfl (fun _=>(by first|exact .notD rfl|exact .not rfl)) ?_;refine zz 2 ?_
    first|refine OD.caseD 39 rfl (fun h39=>?_) (fun h39=>?_)|refine OD.caseB 39 rfl (fun h39=>?_) (fun h39=>?_)
    ·refine zz 24 ?_
     refine S.ret results27 rfl fun w hw=>hR _ _ w ?_ hw;refine ⟨?_,rfl⟩;have hne:¬ zs=xs++marks1 12:=by
      intro e
      have h1:zs[i]=xs[i]:=by rw [← hget];exact getElem_congr_coll e
      have:=u8_toNat h1
      omega
     simp [hne]
    ·refine zz 4 ?_
     refine OD.sF 43 rfl zJ ?_;refine zz 23 ?_;exact S.wk (ih (i+1) (by exact ⟨by omega,kept_step zJ hx fun _=>by rw [hget];exact u8_inj zD⟩) zD)
   ·have hi2:xs.length≤i:=by omega
    have hget:(xs++marks1 12)[i]'zJ=markB 1 ((i:Int) - (xs.length:Int)):=by
     rw [List.getElem_append_right hi2];simp [marks1,mks];congr 1;omega
    refine zz 16 ?_;refine OD.sT 43 rfl zJ ?_;refine OD.q 3 rfl<|OD.ia (.g rfl rfl) underlying31 size5 rfl rfl rfl zA (h:=fun p47 cs47 hp47 hr47=>?_)
    cases hr47
    refine zz 5 ?_;refine OD.v0 (.g rfl rfl) zC rfl zC rfl rfl (markByte_c _ _ zH zH) ?_;refine zz 1 ?_;refine .quiet (.g rfl rfl) rfl (fun _=>(by first|exact .notD rfl|exact .not rfl)) ?_;refine zz 3 ?_;refine S.cd rfl (fun h57=>?_) fun h57=>?_
    ·refine zz 4 ?_
     refine S.ret results27 rfl fun w hw=>hR _ _ w ?_ hw;refine ⟨?_,rfl⟩;have hne:¬ zs=xs++marks1 12:=by
      intro e
      have h1:zs[i]=markB 1 ((i:Int) - (xs.length:Int)):=by rw [← hget];exact getElem_congr_coll e
      have:=u8_toNat h1
      omega
     simp [hne]
    ·refine zz 7 ?_
     exact S.wk (ih (i+1) (by exact ⟨by omega,kept_step zJ hx fun _=>by rw [hget];exact u8_inj zD⟩) zD)
  ·have hi:i=zs.length:=by omega
   refine zz 5 ?_;refine S.ret results27 rfl fun w hw=>hR _ _ w ?_ hw;exact ⟨by rw [kept_get xs zs hzl.symm (fun j hj=>hx j hj zD)];simp,rfl⟩
def marks2 (n:Nat):List UInt8:=(List.range n).map fun (i:Nat)=>markB 2 (i:Int)
@[simp] theorem marks2_length (n:Nat):(marks2 n).length=n:=by simp [marks2]
def rowMarks (n:Nat):List (List UInt8):=(List.range n).map fun (i:Nat)=>markT 1 (i:Int)
@[simp] theorem rowMarks_length (n:Nat):(rowMarks n).length=n:=by simp [rowMarks]
def ArrW (v:Value) (xs:List UInt8):SProp:=fun m=>Arr Rp.u8 m v xs
abbrev tys:Tys:=⟨5,3,31,166,74,49,280,275,285,52,55,291,27⟩
theorem markDot_c {r:Fr} (k i:Int) (hk:Mk k) (hi:Mk i):Con prog 244 #[.int .i64 k,.int .i64 i] r [] (Ret fun v η=>v=.agg #[.int .i64 0,.int .i64 (markZ k i)]∧η=[]):=by
 refine Con.o func244 fun g hg R hR=>?_;refine S.seq<|S.region rfl<|O.opE (.p rfl) (.alloc (cs:=[.int .i64 0,.int .i64 0]) zeroValue166 rfl) ?_;rintro _ _ ⟨b4,rfl,rfl⟩;refine zz 5 ?_;refine O.v0 (.p rfl) rfl zC rfl rfl ((mark_c _ _ hk hi)) ?_;refine O.op (.p rfl) (.build (cs:=[_,_]) underlying166 rfl rfl rfl rfl rfl) ?_;refine zz 1 ?_;refine O.nil<|S.retCellAgg results244 isAgg166 zC rfl zB fun w hw=>Holds.end_ hR hw ?_;exact pk ⟨rfl,rfl⟩
theorem markDot_rel {h:Fr} {k i:Int} (hk:Mk k) (hi:Mk i):DotRp.rel h [.int .i64 0,.int .i64 (markZ k i)] (markDot k i):=DotRp.mk zN (markZ64 hk hi)
theorem lentDots_c {r:Fr} {va:Value} {xs:List DotT} (ha:Arr DotRp r va xs) (hl:xs.length≤100000000000) :
  Con prog 202 #[va] r [] (Ret fun v η=>∃ a c,v=.slice a xs.length c∧η=[LentQ DotRp 166 (markDot 1) v xs]):=by
 refine Con.o func202 fun g hg R hR=>?_;have ha:=ha.mono hg;obtain ⟨a1,c1,rfl⟩:=ha.shape;refine zz 9 ?_;refine O.opE (.p rfl) (.makeP0 (T:=DotRp) (c:=xs.length+12) underlying72 elem166 rfl rfl rfl rfl zD zD) ?_;rintro _ _ ⟨a8,c8,rfl,rfl⟩;refine zz 6 ?_;refine O.opE (.p rfl) (.appendP (T:=DotRp) pure_Dot underlying72 elem166 zE rfl rfl zB zA zI zI) ?_;rintro _ _ ⟨a11,c11,rfl,rfl⟩;refine zz 8 ?_;simp only [List.length_nil,Nat.zero_add,List.nil_append];refine S.conv (C:=OwnP DotRp 166 (.slice a11 (xs.length+0) c11) (xs++mks (markDot 1) 0)) Sel.here (fun m x=>⟨m,Fr.sub_refl _,by simpa [mks] using x⟩) ?_;refine S.loopK3 (ι:=Nat) (κ:=Option Addr) (υ:=Nat) (fun i a c=>i≤12) (fun i a c=>[(4,.int .i64 (i:Int)),(3,.slice a (xs.length+i) c)]) [(0,_)] (fun i a c=>[OwnP DotRp 166 (.slice a (xs.length+i) c) (xs++mks (markDot 1) i)]) (fun i a c=>12 - i) (0) (a11) (c11) zG zq zq rfl fun i a c hx ih=>?_;have hm1:=meltRefl (g:=g);refine zz 6 ?_;refine S.cd rfl (fun h13=>?_) fun h13=>?_
 ·refine zz 6 ?_
  refine O.v0 (.p rfl) rfl zC rfl rfl (markDot_c _ _ zH zH) ?_;refine O.opE (.p rfl) (.litP (T:=DotRp) (ys:=[markDot 1 (i:Int)]) underlying72 elem166 zE rfl rfl ⟨markDot_rel zH zH,trivial⟩ zE) ?_;rintro _ _ ⟨a19,c19,rfl,rfl⟩;refine O.opE (.p rfl) (.appendO (T:=DotRp) underlying72 elem166 zE rfl rfl zB zB zI zI) ?_;rintro _ _ ⟨a20,c20,rfl,rfl⟩;refine zz 8 ?_;simp only [List.length_append,mks_length];rw [List.append_assoc,mks_succ];exact S.pw (ih (i+1) (a20) (c20) zD zD)
 ·have hi:i=12:=by omega
  subst hi;refine S.factS Sel.here (fun _ x=>OwnP.room x) fun hroom=>?_;refine zz 6 ?_;refine O.slice0 (q:=xs.length) DotRp (.p rfl) underlying72 size166 rfl rfl rfl zD ?_;refine O.q 1 rfl<|O.nil<|S.conv (C:=LentQ DotRp 166 (markDot 1) (.slice a xs.length c) xs) Sel.here (fun m x=>⟨m,Fr.sub_refl _,a,c,hroom.2,rfl,x⟩) ?_;refine S.ret results202 rfl fun w hw=>hR _ _ w ?_ hw;exact ⟨a,c,rfl,rfl⟩
theorem keptDots_c {r:Fr} {va vl:Value} {xs:List DotT} (hz:LentQA DotRp (markDot 1) r va xs) (hl:Arr DotRp r vl xs) (hb:xs.length≤100000000000) :
  Con prog 218 #[va,vl] r [] (Ret fun v η=>v=.bool true∧η=[]):=by
 obtain ⟨a,c,hrm,rfl,hz⟩:=hz;refine Con.o func218 fun g hg R hR=>?_;have hz:=hz.mono hg;have hl:=hl.mono hg;obtain ⟨a1,c1,rfl⟩:=hl.shape;refine zz 13 ?_;refine S.cd rfl (fun h11=>?_) fun h11=>?_
 ·exact absurd rfl zF
 ·refine zz 7 ?_
  refine O.slice0 (q:=xs.length+12) DotRp (.p rfl) underlying72 size166 rfl rfl rfl zD ?_;refine zz 8 ?_;refine S.loopK (ι:=Nat) (fun i=>i≤xs.length+12) (fun i=>[(6,.int .i64 (i:Int))]) [(1,_),(5,_)] (fun i=>[]) (fun i=>xs.length+12 - i) (0) zG zq zq rfl fun i hx ih=>?_;have hm1:=meltRefl (g:=g);refine zz 8 ?_;refine S.cd rfl (fun h20=>?_) fun h20=>?_
  ·have hi:i<xs.length+12:=by omega
   have hlz:i<(xs++mks (markDot 1) 12).length:=by simp;omega
   refine zz 4 ?_;refine S.regionD (L:=.range 35) F.mixed zC ?_;refine zz 5 ?_
   first|refine OD.caseD 27 rfl (fun h27=>?_) (fun h27=>?_)|refine OD.caseB 27 rfl (fun h27=>?_) (fun h27=>?_)
   ·have hi2:i<xs.length:=by omega
    have hget:(xs++mks (markDot 1) 12)[i]=xs[i]:=List.getElem_append_left hi2;refine OD.q 2 rfl<|OD.iz (hz) (h:=fun p30 cs30 hp30 hr30=>?_);obtain ⟨rfl,_,_⟩:=DotRp.open hr30;rw [hget] at hp30;refine .quiet (.g rfl rfl) rfl (fun _=>.loadAgg isAgg166 zC rfl hp30) ?_;refine OD.q 2 rfl<|OD.iz (hl) (h:=fun p34 cs34 hp34 hr34=>?_);obtain ⟨rfl,_,_⟩:=DotRp.open hr34;refine .quiet (.g rfl rfl) rfl (fun _=>.loadAgg isAgg166 zC rfl hp34) ?_;refine .quiet (.g rfl rfl) rfl (fun _=>.eqlDot underlying166 underlying3 rfl rfl rfl rfl zE zE zC zC rfl rfl)<|OD.sT 36 rfl zG ?_;refine zz 7 ?_;refine OD.sF 43 rfl zJ ?_;refine zz 23 ?_;exact S.wk (ih (i+1) zD zD)
   ·have hi2:xs.length≤i:=by omega
    have hget:(xs++mks (markDot 1) 12)[i]=markDot 1 ((i:Int) - (xs.length:Int)):=by
     rw [List.getElem_append_right hi2,mks_get];congr 1;omega
    refine zz 16 ?_;refine OD.sT 43 rfl zJ ?_;refine OD.q 3 rfl<|OD.iz (hz) (h:=fun p47 cs47 hp47 hr47=>?_);obtain ⟨rfl,_,_⟩:=DotRp.open hr47;rw [hget] at hp47;refine .quiet (.g rfl rfl) rfl (fun _=>.loadAgg isAgg166 zC rfl hp47) ?_;refine zz 4 ?_;refine OD.v0 (.g rfl rfl) zC rfl zC rfl rfl (markDot_c _ _ zH zH) ?_;refine .quiet (.g rfl rfl) rfl (fun _=>.eqlDot underlying166 underlying3 rfl rfl rfl rfl zE zE zC zC rfl rfl)<|OD.sT 54 rfl (by simp [markDot]) ?_;refine zz 12 ?_;exact S.wk (ih (i+1) zD zD)
  ·refine zz 5 ?_
   exact S.rt results218 rfl hR ⟨rfl,rfl⟩
theorem keptBytes_l {r:Fr} {va vl:Value} {xs:List UInt8} (hz:LentQA Rp.u8 (markB 1) r va xs) (hl:Arr Rp.u8 r vl xs) (hb:xs.length≤1000000000000) :
  Con prog 27 #[va,vl] r [] (Ret fun v η=>v=.bool true∧η=[]):=by
 obtain ⟨a,c,hrm,rfl,hz⟩:=hz;exact (KeptBytes_c hz hl zD).post fun e η h w g hw=>by
  cases e with
  |returned v =>
   obtain ⟨rfl,rfl⟩:=h;exact ⟨_,⟨by simp,rfl⟩,hw⟩
  |panicked _=>exact h.elim
  |outgrown=>exact h.elim
theorem markRecord_c {r:Fr} (k i:Int) (hk:Mk k) (hi:Mk i):Con prog 101 #[.int .i64 k,.int .i64 i] r [] (Ret fun v η=>v=.agg #[.string (str []),.int .i64 0,.int .i64 (markZ k i),.slice none 0 0,.bool false,.slice none 0 0,.slice none 0 0]∧η=[]):=by
 refine Con.o func101 fun g hg R hR=>?_;refine S.seq<|S.region rfl<|O.opE (.p rfl) (.alloc (cs:=[.string ⟨#[]⟩,.int .i64 0,.int .i64 0,.slice none 0 0,.bool false,.slice none 0 0,.slice none 0 0]) zeroValue74 rfl) ?_;rintro _ _ ⟨b4,rfl,rfl⟩;refine zz 5 ?_;refine O.v0 (.p rfl) rfl zC rfl rfl ((mark_c _ _ hk hi)) ?_;refine O.op (.p rfl) (.build (cs:=[_,_,_,_,_,_,_]) underlying74 rfl rfl rfl rfl rfl) ?_;refine zz 1 ?_;refine O.nil<|S.retCellAgg results101 isAgg74 zC rfl zB fun w hw=>Holds.end_ hR hw ?_;exact pk ⟨rfl,rfl⟩
theorem markRecord_rel {h:Fr} {k i:Int} (hk:Mk k) (hi:Mk i):RecRp.rel h [.string (str []),.int .i64 0,.int .i64 (markZ k i),.slice none 0 0,.bool false,.slice none 0 0,.slice none 0 0] (markRec k i):=RecRp.mk zG zN (markZ64 hk hi) Arr.nil Arr.nil Arr.nil
theorem lentRecord_c {r:Fr} {cs:List Value} {x:RecT} (h:RecRp.rel r cs x) (hb:RecOk 100000000000 x) :
  Con prog 100 #[.agg cs.toArray] r [] (Ret fun v η=>∃ a3 c3 a5 c5 a6 c6,v=.agg #[.string (str x.1),.int .i64 x.2.1,.int .i64 x.2.2.1,.slice a3 x.2.2.2.1.length c3,.bool x.2.2.2.2.1,.slice a5 x.2.2.2.2.2.1.length c5,.slice a6 x.2.2.2.2.2.2.1.length c6]∧η=[(RecL tys).own [.string (str x.1),.int .i64 x.2.1,.int .i64 x.2.2.1,.slice a3 x.2.2.2.1.length c3,.bool x.2.2.2.2.1,.slice a5 x.2.2.2.2.2.1.length c5,.slice a6 x.2.2.2.2.2.2.1.length c6] x]):=by
 obtain ⟨xa3,xa5,xa6,xc3,xc5,xc6,rfl,k0,k1,k2,k3,k5,k6⟩:=RecRp.sh h;obtain ⟨ob0,ob3,ob5,ob6⟩:=hb;refine Con.o func100 fun g hg R hR=>?_;have k3:=k3.mono hg;have k5:=k5.mono hg;have k6:=k6.mono hg;refine S.seq<|S.region rfl<|O.opE (.p rfl) (.box (cs:=[_,_,_,_,_,_,_]) rfl rfl) ?_;rintro _ _ ⟨b1,rfl,rfl⟩;refine O.opE (.p rfl) (.alloc (cs:=[.string ⟨#[]⟩,.int .i64 0,.int .i64 0,.slice none 0 0,.bool false,.slice none 0 0,.slice none 0 0]) zeroValue74 rfl) ?_;rintro _ _ ⟨b2,rfl,rfl⟩;refine zz 5 ?_;refine O.call0 (.p rfl) rfl zC rfl rfl ((lentDots_c k3 zD)) ?_;rintro _ _ ⟨a3,c3,rfl,rfl⟩;refine zz 7 ?_;refine O.call0 (.p rfl) rfl zC rfl rfl ((LentBytes_c k5 zD)) ?_;rintro _ _ ⟨a5,c5,rfl,rfl⟩;refine zz 7 ?_;refine O.call0 (.p rfl) rfl zC rfl rfl ((LentBytes_c k6 zD)) ?_;rintro _ _ ⟨a6,c6,rfl,rfl⟩;refine zz 7 ?_;refine O.nil<|S.foldS (A:=(RecL tys).own [.string (str x.1),.int .i64 x.2.1,.int .i64 x.2.2.1,.slice a3 x.2.2.2.1.length c3,.bool x.2.2.2.2.1,.slice a5 x.2.2.2.2.2.1.length c5,.slice a6 x.2.2.2.2.2.2.1.length c6] x) (bs:=[LentQ DotRp tys.dot (markDot 1) (.slice a3 x.2.2.2.1.length c3) x.2.2.2.1,LentQ Rp.u8 tys.u8 (markB 1) (.slice a5 x.2.2.2.2.2.1.length c5) x.2.2.2.2.2.1,LentQ Rp.u8 tys.u8 (markB 1) (.slice a6 x.2.2.2.2.2.2.1.length c6) x.2.2.2.2.2.2.1]) zK (fun m y=>RecL.mk k0 k1 k2 y) ?_
 refine S.retCellAgg results100 isAgg74 zC rfl zB fun w hw=>Holds.end_ hR hw ?_;exact pk ⟨a3,c3,a5,c5,a6,c6,rfl,rfl⟩
theorem keptRecord_c {r:Fr} {cs ds:List Value} {x:RecT} (h:(RecL tys).rd r cs x) (hy:RecRp.rel r ds x) (hb:RecOk 100000000000 x) :
  Con prog 112 #[.agg cs.toArray,.agg ds.toArray] r [] (Ret fun v η=>v=.bool true∧η=[]):=by
 have hx:=(RecL tys).rel h;obtain ⟨v3,v5,v6,rfl,k0,k1,k2,q3,q5,q6⟩:=RecL.opn h;obtain ⟨ya3,ya5,ya6,yc3,yc5,yc6,rfl,yk0,yk1,yk2,yk3,yk5,yk6⟩:=RecRp.sh hy;obtain ⟨ob0,ob3,ob5,ob6⟩:=hb;refine Con.o func112 fun g hg R hR=>?_;have hx:=hx.mono hg;have hy:=hy.mono hg;have yk3:=yk3.mono hg;have yk5:=yk5.mono hg;have yk6:=yk6.mono hg;replace q3:=q3.mono hg;replace q5:=q5.mono hg;replace q6:=q6.mono hg;refine S.seq<|S.region rfl<|O.opE (.p rfl) (.box (cs:=[_,_,_,_,_,_,_]) rfl rfl) ?_;rintro _ _ ⟨b2,rfl,rfl⟩;refine O.opE (.p rfl) (.box (cs:=[_,_,_,_,_,_,_]) rfl rfl) ?_;rintro _ _ ⟨b3,rfl,rfl⟩;refine zz 6 ?_;refine O.v0 (.p rfl) rfl zC rfl rfl ((sameRecord_c hx hy)) ?_;refine O.sT 7 rfl zG ?_;refine zz 5 ?_;refine O.v0 (.g rfl rfl) rfl zC rfl rfl ((keptDots_c q3 yk3 zD)) ?_;refine zz 6 ?_;refine O.v0 (.g rfl rfl) rfl zC rfl rfl ((keptBytes_l q5 yk5 zD)) ?_;refine zz 6 ?_;refine O.v0 (.g rfl rfl) rfl zC rfl rfl ((keptBytes_l q6 yk6 zD)) ?_;refine zz 3 ?_;exact S.rt results112 rfl hR ⟨rfl,rfl⟩
theorem lentRecords_c {r:Fr} {va:Value} {es:List RecT} (ha:Arr RecRp r va es) (hq:∀ x∈es,RecOk 100000000000 x) (hl:es.length≤100000000000) :
  Con prog 37 #[va] r [] (Ret fun v η=>∃ a c,v=.slice a es.length c∧η=[LentL (RecL tys) tys.recd (markRec 1) (.slice a es.length c) es]):=by
 have har:=ha;refine Con.o func37 fun g hg R hR=>?_;have ha:=ha.mono hg;obtain ⟨a1,c1,rfl⟩:=ha.shape;refine zz 9 ?_;refine O.opE (.p rfl) (.makeP0 (T:=Rp.cells 7) (c:=es.length+12) underlying47 elem74 rfl rfl rfl rfl zD zD) ?_;rintro _ _ ⟨a10,c10,rfl,rfl⟩;refine zz 8 ?_;refine S.each0 (RecL tys).own ?_;refine S.loopK4 (ι:=Nat) (κ:=Option Addr) (υ:=Nat) (τ:=List (List Value)) (fun i a c css=>i≤es.length∧css.length=i) (fun i a c css=>[(4,.int .i64 (i:Int)),(3,.slice a i c)]) [(0,_)] (fun i a c css=>[EachP (RecL tys).own css (es.take i),OwnP (Rp.cells 7) 74 (.slice a i c) css]) (fun i a c css=>es.length - i) (0) (a10) (c10) ([]) zO zq zq rfl fun i a c css hx ih=>?_;have hm1:=meltRefl (g:=g);obtain ⟨hx1,hvs⟩:=hx;refine zz 8 ?_;refine S.cd rfl (fun h14=>?_) fun h14=>?_
 ·have hi:i<es.length:=by omega
  have hrow:=hq es[i] (List.getElem_mem hi);refine zz 7 ?_;refine O.iy har hg (h:=fun p19 cs19 hp19 hrr19=>?_);have hr19:=Rp.rel.mono hrr19 hg;obtain ⟨ra3_19,ra5_19,ra6_19,rc3_19,rc5_19,rc6_19,rfl,ho0_19,ho1_19,ho2_19,ha3_19,ha5_19,ha6_19⟩:=RecRp.sh hr19;refine O.op (.p rfl) (.loadAgg isAgg74 zC rfl hp19) ?_;refine O.call0 (.p rfl) rfl zC rfl rfl ((lentRecord_c hr19 hrow)) ?_;rintro _ _ ⟨a3_21,c3_21,a5_21,c5_21,a6_21,c6_21,rfl,rfl⟩;refine O.opE (.p rfl) (.alloc (cs:=[.string ⟨#[]⟩,.int .i64 0,.int .i64 0,.slice none 0 0,.bool false,.slice none 0 0,.slice none 0 0]) zeroValue74 rfl) ?_;rintro _ _ ⟨b5,rfl,rfl⟩;refine zz 5 ?_;refine O.opE (.p rfl) (.litP (T:=(Rp.cells 7)) (ys:=[_]) underlying47 elem74 zE rfl rfl ⟨⟨rfl,rfl,by first|(simp;done)|(intro v hv;simp [Value.cells] at hv;rcases hv with rfl|rfl<;>rfl)|(refine List.forall_mem_cons.2 ⟨rfl,?_⟩;repeat (first|exact (fun _ h=>absurd h List.not_mem_nil)|refine List.forall_mem_cons.2 ⟨rfl,?_⟩))⟩,trivial⟩ zE) ?_;rintro _ _ ⟨a24,c24,rfl,rfl⟩;refine O.opE (.p rfl) (.appendO (T:=(Rp.cells 7)) underlying47 elem74 zE rfl rfl zB zB zI zI) ?_;rintro _ _ ⟨a25,c25,rfl,rfl⟩;refine zz 8 ?_
  have hcs:(Value.agg #[.string (str es[i].1),.int .i64 es[i].2.1,.int .i64 es[i].2.2.1,.slice a3_21 es[i].2.2.2.1.length c3_21,.bool es[i].2.2.2.2.1,.slice a5_21 es[i].2.2.2.2.2.1.length c5_21,.slice a6_21 es[i].2.2.2.2.2.2.1.length c6_21]).cells.toList=[.string (str es[i].1),.int .i64 es[i].2.1,.int .i64 es[i].2.2.1,.slice a3_21 es[i].2.2.2.1.length c3_21,.bool es[i].2.2.2.2.1,.slice a5_21 es[i].2.2.2.2.2.1.length c5_21,.slice a6_21 es[i].2.2.2.2.2.2.1.length c6_21]:=by simp [Value.cells]
  simp only [hcs];refine S.each (A:=(RecL tys).own) (bs:=css) (b:=[.string (str es[i].1),.int .i64 es[i].2.1,.int .i64 es[i].2.2.1,.slice a3_21 es[i].2.2.2.1.length c3_21,.bool es[i].2.2.2.2.1,.slice a5_21 es[i].2.2.2.2.2.1.length c5_21,.slice a6_21 es[i].2.2.2.2.2.2.1.length c6_21]) (a:=es[i]) zB zB ?_;rw [← List.take_succ_eq_append_getElem hi,hvs];exact S.pw (ih (i+1) (a25) (c25) (css++[[.string (str es[i].1),.int .i64 es[i].2.1,.int .i64 es[i].2.2.1,.slice a3_21 es[i].2.2.2.1.length c3_21,.bool es[i].2.2.2.2.1,.slice a5_21 es[i].2.2.2.2.2.1.length c5_21,.slice a6_21 es[i].2.2.2.2.2.2.1.length c6_21]]) zP zD)
 ·have hi:i=es.length:=by omega
  subst hi;rw [List.take_length];refine zz 7 ?_;refine S.conv (B:=OwnP (Rp.cells 7) 74 (.slice a es.length c) css) (C:=OwnP (Rp.cells 7) 74 (.slice a es.length c) (css++[])) zB (fun m x=>⟨m,Fr.sub_refl _,by rw [List.append_nil];exact x⟩) ?_;refine S.loopK4 (ι:=Nat) (κ:=Option Addr) (υ:=Nat) (τ:=List (List Value)) (fun i a c dss=>i≤12∧All2 (RecRp.rel Fr.emp) dss (mks (markRec 1) i)) (fun i a c dss=>[(6,.int .i64 (i:Int)),(3,.slice a (es.length+i) c)]) [(0,_)] (fun i a c dss=>[OwnP (Rp.cells 7) 74 (.slice a (es.length+i) c) (css++dss),EachP (RecL tys).own css es]) (fun i a c dss=>12 - i) (0) (a) (c) ([]) (by exact ⟨by simp,trivial⟩) zq zq rfl fun i a c dss hx ih=>?_;have hm2:=meltRefl (g:=g);obtain ⟨hx1,hus⟩:=hx;have hul:=hus.len2;rw [mks_length] at hul;refine zz 6 ?_;refine S.cd rfl (fun h27=>?_) fun h27=>?_
  ·refine zz 6 ?_
   refine O.v0 (.p rfl) rfl zC rfl rfl (markRecord_c _ _ zH zH) ?_;refine O.opE (.p rfl) (.litP (T:=(Rp.cells 7)) (ys:=[_]) underlying47 elem74 zE rfl rfl ⟨⟨rfl,rfl,by first|(simp;done)|(intro v hv;simp [Value.cells] at hv;rcases hv with rfl|rfl<;>rfl)|(refine List.forall_mem_cons.2 ⟨rfl,?_⟩;repeat (first|exact (fun _ h=>absurd h List.not_mem_nil)|refine List.forall_mem_cons.2 ⟨rfl,?_⟩))⟩,trivial⟩ zE) ?_;rintro _ _ ⟨a33,c33,rfl,rfl⟩;refine O.opE (.p rfl) (.appendO (T:=(Rp.cells 7)) underlying47 elem74 zE rfl rfl zB zB zI zI) ?_;rintro _ _ ⟨a34,c34,rfl,rfl⟩;refine zz 8 ?_;have hcs:(Value.agg #[.string (str []),.int .i64 0,.int .i64 (markZ 1 (i:Int)),.slice none 0 0,.bool false,.slice none 0 0,.slice none 0 0]).cells.toList=[.string (str []),.int .i64 0,.int .i64 (markZ 1 (i:Int)),.slice none 0 0,.bool false,.slice none 0 0,.slice none 0 0]:=by simp [Value.cells]
   simp only [hcs];rw [List.append_assoc];simp only [List.length_append,hvs,hul];exact S.pw (ih (i+1) (a34) (c34) ((dss++[[.string (str []),.int .i64 0,.int .i64 (markZ 1 (i:Int)),.slice none 0 0,.bool false,.slice none 0 0,.slice none 0 0]])) (by exact ⟨by omega,by rw [← mks_succ];exact All2.append hus ⟨markRecord_rel zH zH,trivial⟩⟩) zD)
  ·have hi:i=12:=by omega
   subst hi;refine S.factS zB (fun _ x=>OwnP.room (T:=Rp.cells 7) (e:=74) (xs:=css++dss) (a:=a) (c:=c) (m:=es.length+12) x) fun hroom=>?_;refine zz 6 ?_;refine O.slice0 (q:=es.length) (Rp.cells 7) (.p rfl) underlying47 size74 rfl rfl rfl zD ?_;refine O.q 1 rfl<|O.nil<|S.pk (ζ:=[OwnP (Rp.cells 7) 74 (.slice a (es.length+12) c) (css++dss),EachP (RecL tys).own css es]) zS ?_;refine S.fold (A:=LentL (RecL tys) tys.recd (markRec 1) (.slice a es.length c) es) (bs:=[OwnP (Rp.cells 7) 74 (.slice a (es.length+12) c) (css++dss),EachP (RecL tys).own css es]) (fun m x=>LentL.fold (L:=RecL tys) hroom.2 hvs hus x) ?_;exact S.rt results37 rfl hR ⟨a,c,rfl,rfl⟩
theorem keptRecords_c {r:Fr} {va vl:Value} {es:List RecT} (hz:LentLA (RecL tys) (markRec 1) r va es) (hl:Arr RecRp r vl es) (hq:∀ x∈es,RecOk 100000000000 x) (hb:es.length≤100000000000) :
  Con prog 41 #[va,vl] r [] (Ret fun v η=>v=.bool true∧η=[]):=by
 obtain ⟨a,c,css,dss,rfl,hrm,hin,hv,hu⟩:=hz;have hlr:=hl;refine Con.o func41 fun g hg R hR=>?_;have hin:=hin.mono hg;have hl:=hl.mono hg;replace hv:=hv.imp fun _ _=>(RecL tys).mono hg;replace hu:=hu.imp fun _ _=>RecRp.mono hg;have hvl:=hv.len2;have hul:=hu.len2;rw [mks_length] at hul;obtain ⟨a1,c1,rfl⟩:=hl.shape;have hal:(css++dss).length=es.length+12:=by simp;omega
 refine zz 13 ?_;refine S.cd rfl (fun h11=>?_) fun h11=>?_
 ·exact absurd rfl zF
 ·refine zz 7 ?_
  refine O.slice0 (q:=es.length+12) (Rp.cells 7) (.p rfl) underlying47 size74 rfl rfl rfl zD ?_;refine zz 8 ?_;refine S.loopK (ι:=Nat) (fun i=>i≤es.length+12) (fun i=>[(6,.int .i64 (i:Int))]) [(1,_),(5,_)] (fun i=>[]) (fun i=>es.length+12 - i) (0) zG zq zq rfl fun i hx ih=>?_;have hm1:=meltRefl (g:=g);refine zz 8 ?_;refine S.cd rfl (fun h20=>?_) fun h20=>?_
  ·have hi:i<(css++dss).length:=by omega
   refine zz 4 ?_;refine S.regionD (L:=.range 35) F.mixed zC ?_;refine zz 5 ?_
   first|refine OD.caseD 27 rfl (fun h27=>?_) (fun h27=>?_)|refine OD.caseB 27 rfl (fun h27=>?_) (fun h27=>?_)
   ·have hi2:i<es.length:=by omega
    have hget:(css++dss)[i]=css[i]:=List.getElem_append_left zD;have hA:=hv.at2 i zD hi2;have hA2:=(RecL tys).rel hA;have hrow:=hq es[i] (List.getElem_mem hi2);refine OD.q 2 rfl<|OD.iz (hin) (h:=fun p30 cs30 hp30 hr30=>?_);obtain ⟨rfl,_,_⟩:=hr30;rw [hget] at hp30;generalize css[i]=cz at hp30 hA hA2;obtain ⟨za3_30,za5_30,za6_30,zc3_30,zc5_30,zc6_30,rfl,zk0_30,zk1_30,zk2_30,zk3_30,zk5_30,zk6_30⟩:=RecRp.sh hA2;refine .quiet (.g rfl rfl) rfl (fun _=>.loadAgg isAgg74 zC rfl hp30) ?_;refine OD.q 2 rfl<|OD.iy hlr hg (h:=fun p34 cs34 hp34 hrr34=>?_);have hr34:=Rp.rel.mono hrr34 hg;obtain ⟨ra3_34,ra5_34,ra6_34,rc3_34,rc5_34,rc6_34,rfl,ho0_34,ho1_34,ho2_34,ha3_34,ha5_34,ha6_34⟩:=RecRp.sh hr34;refine .quiet (.g rfl rfl) rfl (fun _=>.loadAgg isAgg74 zC rfl hp34) ?_;refine OD.v0 (.g rfl rfl) zC rfl zC rfl rfl ((keptRecord_c hA hr34 hrow)) ?_;refine zz 7 ?_;refine OD.sF 43 rfl zJ ?_;refine zz 23 ?_;exact S.wk (ih (i+1) zD zD)
   ·have hi2:es.length≤i:=by omega
    have hid:i - css.length<dss.length:=by omega
    have hget:(css++dss)[i]=dss[i - css.length]:=List.getElem_append_right zD;have hA2:=hu.at2 (i - css.length) hid zJ;rw [mks_get] at hA2;have hmk:Mk ((i:Int) - (es.length:Int)):=by constructor<;>omega
    have hci:((i - css.length:Nat):Int)=(i:Int) - (es.length:Int):=by omega
    rw [hci] at hA2;refine zz 16 ?_;refine OD.sT 43 rfl zJ ?_;refine OD.q 3 rfl<|OD.iz (hin) (h:=fun p47 cs47 hp47 hr47=>?_);obtain ⟨rfl,_,_⟩:=hr47;rw [hget] at hp47;generalize dss[i - css.length]=cz at hp47 hA2;obtain ⟨za3_47,za5_47,za6_47,zc3_47,zc5_47,zc6_47,rfl,zk0_47,zk1_47,zk2_47,zk3_47,zk5_47,zk6_47⟩:=RecRp.sh hA2;refine .quiet (.g rfl rfl) rfl (fun _=>.loadAgg isAgg74 zC rfl hp47) ?_;refine zz 4 ?_;refine OD.v0 (.g rfl rfl) zC rfl zC rfl rfl ((markRecord_c _ _ zH hmk)) ?_;refine OD.v0 (.g rfl rfl) zC rfl zC rfl rfl ((sameRecord_c hA2 (markRecord_rel zH hmk))) ?_;refine OD.sT 54 rfl zG ?_;refine zz 12 ?_;exact S.wk (ih (i+1) zD zD)
  ·refine zz 5 ?_
   exact S.rt results41 rfl hR ⟨rfl,rfl⟩
theorem markLeaf_c {r:Fr} (k i:Int) (hk:Mk k) (hi:Mk i):Con prog 138 #[.int .i64 k,.int .i64 i] r [] (Ret fun v η=>v=.agg #[.string (str (markT k i)),.slice none 0 0]∧η=[]):=by
 refine Con.o func138 fun g hg R hR=>?_;refine S.seq<|S.region rfl<|O.opE (.p rfl) (.alloc (cs:=[.string ⟨#[]⟩,.slice none 0 0]) zeroValue49 rfl) ?_;rintro _ _ ⟨b4,rfl,rfl⟩;refine zz 5 ?_;refine O.v0 (.p rfl) rfl zC rfl rfl ((markText_c _ _)) ?_;refine O.op (.p rfl) (.build (cs:=[_,_]) underlying49 rfl rfl rfl rfl rfl) ?_;refine zz 1 ?_;refine O.nil<|S.retCellAgg results138 isAgg49 zC rfl zB fun w hw=>Holds.end_ hR hw ?_;exact pk ⟨rfl,rfl⟩
theorem markLeaf_rel {h:Fr} {k i:Int} (hk:Mk k) (hi:Mk i):LeafRp.rel h [.string (str (markT k i)),.slice none 0 0] (markLeaf k i):=LeafRp.mk zG Arr.nil
theorem markRoot_c {r:Fr} (k i:Int) (hk:Mk k) (hi:Mk i):Con prog 140 #[.int .i64 k,.int .i64 i] r [] (Ret fun v η=>v=.agg #[.int .i64 0,.int .i64 0,.int .i64 (markZ k i),.slice none 0 0,.slice none 0 0]∧η=[]):=by
 refine Con.o func140 fun g hg R hR=>?_;refine S.seq<|S.region rfl<|O.opE (.p rfl) (.alloc (cs:=[.int .i64 0,.int .i64 0,.int .i64 0,.slice none 0 0,.slice none 0 0]) zeroValue52 rfl) ?_;rintro _ _ ⟨b4,rfl,rfl⟩;refine zz 5 ?_;refine O.v0 (.p rfl) rfl zC rfl rfl ((mark_c _ _ hk hi)) ?_;refine O.op (.p rfl) (.build (cs:=[_,_,_,_,_]) underlying52 rfl rfl rfl rfl rfl) ?_;refine zz 1 ?_;refine O.nil<|S.retCellAgg results140 isAgg52 zC rfl zB fun w hw=>Holds.end_ hR hw ?_;exact pk ⟨rfl,rfl⟩
theorem markRoot_rel {h:Fr} {k i:Int} (hk:Mk k) (hi:Mk i):RootRp.rel h [.int .i64 0,.int .i64 0,.int .i64 (markZ k i),.slice none 0 0,.slice none 0 0] (markRoot k i):=RootRp.mk zN zN (markZ64 hk hi) Arr.nil Arr.nil
theorem markEvidence_c {r:Fr} (k i:Int) (hk:Mk k) (hi:Mk i):Con prog 142 #[.int .i64 k,.int .i64 i] r [] (Ret fun v η=>v=.agg #[.int .i64 0,.int .i64 0,.int .i64 (markZ k i),.slice none 0 0,.slice none 0 0,.int .i64 0,.int .i64 0,.int .i64 0,.slice none 0 0,.slice none 0 0]∧η=[]):=by
 refine Con.o func142 fun g hg R hR=>?_;refine S.seq<|S.region rfl<|O.opE (.p rfl) (.alloc (cs:=[.int .i64 0,.int .i64 0,.int .i64 0,.slice none 0 0,.slice none 0 0,.int .i64 0,.int .i64 0,.int .i64 0,.slice none 0 0,.slice none 0 0]) zeroValue55 rfl) ?_;rintro _ _ ⟨b4,rfl,rfl⟩;refine zz 5 ?_;refine O.v0 (.p rfl) rfl zC rfl rfl ((mark_c _ _ hk hi)) ?_;refine O.op (.p rfl) (.build (cs:=[_,_,_,_,_]) underlying52 rfl rfl rfl rfl rfl)<|O.op (.p rfl) (.build (cs:=[_,_,_,_,_,_,_,_,_,_]) underlying55 rfl rfl rfl rfl rfl) ?_;refine zz 1 ?_;refine O.nil<|S.retCellAgg results142 isAgg55 zC rfl zB fun w hw=>Holds.end_ hR hw ?_;exact pk ⟨rfl,rfl⟩
theorem markEvidence_rel {h:Fr} {k i:Int} (hk:Mk k) (hi:Mk i):EvdRp.rel h [.int .i64 0,.int .i64 0,.int .i64 (markZ k i),.slice none 0 0,.slice none 0 0,.int .i64 0,.int .i64 0,.int .i64 0,.slice none 0 0,.slice none 0 0] (markEvd k i):=EvdRp.mk zN zN (markZ64 hk hi) Arr.nil Arr.nil zN zN zN Arr.nil Arr.nil
end Go.Proofs.YtodhbhanmdfdeaaGreat
