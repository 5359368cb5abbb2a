/- Texts of this proof. -/
import Derived.Test.YtdjoggpacmpfnaaGreatDoorQSib1
open Go Go.Sp Go.Proofs.Tryz
set_option maxRecDepth 100000
set_option maxHeartbeats 1000000
attribute [local irreducible] obj Own ak
namespace Go.Proofs.YtdjoggpacmpfnaaGreatDoor
theorem Xl {r:Fr} {va:Value} {xs:List aV} {f:FuncId} {first cap:Array Value} (ha:av gb r va xs) (hc:ed prog f=true) (q:aV→Bool)
  (con:∀ cs x,x∈xs→gb.rel r cs x→aj prog f (first++#[.agg cs.toArray]++cap) r [] (aF fun v aa=>v=.bool (q x)∧aa=[])) :
  aj prog 358 #[va,.func (.func f) first cap] r [] (aF fun v aa=>∃ k:Int,v=.int .i64 k∧(0≤k↔xs.any q=true)∧aa=[]):=by
 have har:=ha;refine aj.of (n:=19) [va,.func (.func f) first cap] rfl func358 rfl rfl rfl fun g hg R hR=>?_;have ha:=ha.mono hg;have hbd:=ha.bound;obtain ⟨a1,c1,rfl⟩:=ha.shape;refine U 12 ?_;refine S.ev (ι:=Nat) (fun i=>i≤xs.length∧(xs.take i).any q=false) (fun i=>[(8,.int .i64 (i:Int))]) [(0,_),(1,_),(7,_)] (fun i=>[]) (fun i=>xs.length - i) (0) BD aO aO rfl fun i hx ih=>?_;have aW:=bS (g:=g);obtain ⟨hx1,b8⟩:=hx;refine U 5 ?_;refine S.cd rfl (fun h9=>?_) fun h9=>?_
 ·have hi:i<xs.length:=by omega
  cases e:q xs[i] with
  |true =>
   have hy:xs.any q=true:=List.any_eq_true.2 ⟨xs[i],List.getElem_mem hi,e⟩;clear ih;refine U 13 ?_;refine O.ew har hg (h:=fun bN uE pR mo=>?_);have nF:=ag.rel.mono mo hg;obtain ⟨WW,WZ,W2,W5,W8,Xa,Xd,Xg,rfl,Wk,UO⟩:=gb.sh nF;refine O.op (.p rfl) (.aJ isAgg317 af rfl pR) ?_;refine O.v0 (.p rfl) rfl hc rfl rfl (((con _ _ (List.getElem_mem hi) mo).sub hg)) ?_;refine O.sT 16 rfl (by exact e) ?_;refine U 7 ?_;exact S.rt results358 rfl hR ⟨(i:Int),rfl,⟨fun _=>hy,fun _=>by omega⟩,rfl⟩
  |false =>
   refine U 13 ?_;refine O.ew har hg (h:=fun bN uE pR mo=>?_);have nF:=ag.rel.mono mo hg;obtain ⟨WW,WZ,W2,W5,W8,Xa,Xd,Xg,rfl,Wk,UO⟩:=gb.sh nF;refine O.op (.p rfl) (.aJ isAgg317 af rfl pR) ?_;refine O.v0 (.p rfl) rfl hc rfl rfl (((con _ _ (List.getElem_mem hi) mo).sub hg)) ?_;refine O.aB 16 rfl (by exact e)<|U 8 ?_;exact S.cF (ih (i+1) (by exact ⟨by omega,by rw [j9 hi,List.any_append,b8];simp [e]⟩) ai)
 ·clear ih
  have hi:i=xs.length:=by omega
  subst hi;rw [List.take_length] at b8;refine U 5 ?_;exact S.rt results358 rfl hR ⟨-1,rfl,⟨fun h=>absurd h aq,fun h=>by rw [b8] at h;cases h⟩,rfl⟩
theorem RU {r:Fr} {va:Value} {xs:List aV} {f:FuncId} {first cap:Array Value} (ha:av gb r va xs) (hc:ed prog f=true) (q:aV→Bool)
  (con:∀ cs x,x∈xs→gb.rel r cs x→aj prog f (first++#[.agg cs.toArray]++cap) r [] (aF fun v aa=>v=.bool (q x)∧aa=[])) (h1:(Value.func (.func f) first cap).oneCell' =true) :
  aj prog 341 #[va,.func (.func f) first cap] r [] (aF fun v aa=>v=.bool (xs.any q)∧aa=[]):=by
 refine aj.of (n:=9) [va,.func (.func f) first cap] rfl func341 rfl rfl rfl fun g hg R hR=>?_;refine U 8 ?_;refine O.aN (.p rfl) rfl af rfl rfl (((Xl ha hc q con).sub hg)) ?_;rintro uf _ ⟨pW,rfl,Ai,rfl⟩;refine U 3 ?_;exact S.rt results341 rfl hR ⟨congrArg _ (by rw [Bool.eq_iff_iff,decide_eq_true_iff];exact Ai),rfl⟩
theorem adD {r:Fr} {b:Nat} {cs ds:List Value} {x y:aV} (hx:cg r ⟨b,0,none⟩ cs) (h:gb.rel r cs x) (h' :gb.rel r ds y) :
  aj prog 342 (#[]++#[.agg ds.toArray]++#[.pointer (some ⟨b,0,none⟩)]) r [] (aF fun v aa=>v=.bool (decide (ko x y≠0) && over y x)∧aa=[]):=by
 obtain ⟨dM,je,iF,Qn,dN,jf,iG,Qo,rfl,hx1,_⟩:=gb.sh h;obtain ⟨oF,vo,vp,Qr,oG,vq,vr,Qs,rfl,hy1,_⟩:=gb.sh h';refine aj.of (n:=15) [.agg #[.string (str y.1),.int .i64 y.2.1,.int .i64 y.2.2.1,.slice oF y.2.2.2.1.length oG,.bool y.2.2.2.2.1,.slice vo y.2.2.2.2.2.1.length vq,.slice vp y.2.2.2.2.2.2.1.length vr,.slice Qr (cm y).length Qs],.pointer (some ⟨b,0,none⟩)] rfl func342 rfl rfl rfl fun g hg R hR=>?_;have hx:=hx.mono hg;have h:=h.mono hg;have h' :=h'.mono hg;have hx1:=hx1.mono hg;have hy1:=hy1.mono hg
 by_cases e:ko x y=0
 ·
  refine S.seq<|S.region rfl<|O.aD (.p rfl) (.box (cs:=[_,_,_,_,_,_,_,_]) rfl rfl) ?_;rintro _ _ ⟨b2,rfl,rfl⟩;refine U 4 ?_;refine O.op (.p rfl) (.aJ isAgg317 af rfl hx)<|U 1 ?_;refine O.v0 (.p rfl) rfl af rfl rfl (Bh h h')<|U 1 ?_;refine O.aB 7 rfl (by simp [e])<|U 9 ?_;exact S.rt results342 rfl hR ⟨by simp [e],rfl⟩
 ·
  refine S.seq<|S.region rfl<|O.aD (.p rfl) (.box (cs:=[_,_,_,_,_,_,_,_]) rfl rfl) ?_;rintro _ _ ⟨b2,rfl,rfl⟩;refine U 4 ?_;refine O.op (.p rfl) (.aJ isAgg317 af rfl hx)<|U 1 ?_;refine O.v0 (.p rfl) rfl af rfl rfl (Bh h h')<|U 1 ?_;refine O.sT 7 rfl (by simp [e])<|U 4 ?_;refine O.op (.g rfl rfl) (.aJ (cs:=[.string (str x.1),.int .i64 x.2.1,.int .i64 x.2.2.1,.slice dM x.2.2.2.1.length dN,.bool x.2.2.2.2.1,.slice je x.2.2.2.2.2.1.length jf,.slice iF x.2.2.2.2.2.2.1.length iG]) isAgg118 af rfl (hx.take 7)) ?_;refine O.v0 (.g rfl rfl) rfl af rfl rfl (aaK hy1 hx1)<|U 3 ?_;exact S.rt results342 rfl hR ⟨by simp [e],rfl⟩
theorem D4 {r:Fr} {b:Nat} {xs:List aV} {cs:List Value} {x:aV} (hrow:zg r b xs) (h:gb.rel r cs x) :
  aj prog 321 #[.pointer (some ⟨b,0,none⟩),.agg cs.toArray] r [] (aF fun v aa=>v=.bool (ue xs x)∧aa=[]):=by
 obtain ⟨dM,je,iF,Qn,dN,jf,iG,Qo,rfl,hx1,_⟩:=gb.sh h;obtain ⟨lz,nO,k9,har⟩:=hrow;refine aj.o func321 fun g hg R hR=>?_;have h:=h.mono hg;have k9:=k9.mono hg;have har:=har.mono hg;refine S.seq<|S.region rfl<|O.aD (.p rfl) (.box (cs:=[_,_,_,_,_,_,_,_]) rfl rfl) ?_;rintro _ _ ⟨b3,rfl,rfl⟩;refine U 3 ?_;refine S.cy an fun g hs hm ep=>?_;replace hg:=bf hg hs;replace hR:=a_ hR hm
 try replace h:=h.mono hs
 try replace k9:=k9.mono hs
 try replace har:=har.mono hs
 clear hs hm;refine U 6 ?_;refine O.v0 (.p rfl) rfl af rfl rfl ((RU har af (fun y=>decide (ko x y≠0) && over y x) (fun cs y hy hr=>adD ep h hr) rfl)) ?_;refine U 2 ?_;exact S.rt results321 rfl hR ⟨rfl,rfl⟩
theorem O8 {r:Fr} {va:Value} {xs:List aV} (ha:av bu r va xs) (hl:xs.length≤100000000000) :
  aj prog 282 #[va] r [] (dg (fun v aa=>ez xs∧∃ b,v=.pointer (some ⟨b,0,none⟩)∧aa=[g6 r 315 317 5 b xs]) (fun ch aa=>¬ ez xs∧ch=JV∧aa=[])):=by
 have har:=ha;refine aj.o func282 fun g hg R hR=>?_;have ha:=ha.mono hg;obtain ⟨a1,c1,rfl⟩:=ha.shape;refine U 6 ?_;refine O.op (.p rfl) (.build (cs:=[_]) underlying315 rfl rfl rfl rfl rfl)<|O.aD (.p rfl) (.box (cs:=[_]) rfl rfl) ?_;rintro _ _ ⟨gF,rfl,rfl⟩;refine U 3 ?_;refine S.conv (B:=obj gF 315 [.slice none 0 0]) (C:=g6 r 315 317 5 gF []) an (fun m x=>⟨m,Fr.bH _,g6.nil x⟩) ?_;refine U 3 ?_;refine O.nr (.p rfl) rfl af rfl rfl an ((ab_ har rfl (by simpa using hl)).sub hg) (fun ch au w hX hW=>by (obtain ⟨hb,rfl,rfl⟩:=hX;exact hR _ _ w ⟨fun q=>(by rw [List.nil_append,q.1] at hb;cases hb),rfl,rfl⟩ hW.fU)) ?_;rintro _ _ ⟨hone,rfl,rfl⟩;refine O.nil (S.seq (S.seq ?_));rw [List.nil_append] at hone;have nA:=hg;have nw:=hR
 try have uN:=ha
 refine S.oc (B:=g6 r 315 317 5 gF xs) an fun vP ff ⟨AO,qL,qO⟩ mN=>?_;replace hg:=bf hg ff;replace hR:=n6 hR mN
 try replace ha:=ha.mono ff
 have hrow:=g6.read hg qO qL;obtain ⟨lz,nO,yd,yc⟩:=id hrow;refine U 9 ?_;refine S.ev (ι:=Nat) (fun i=>i≤xs.length∧∀ j (h:j<xs.length),j<i→(∀ h0:0<j,ko xs[j-1] xs[j]<0)∧ue xs xs[j]=false) (fun i=>[(16,.int .i64 (i:Int))]) [(3,_),(14,_),(15,_)] (fun i=>[]) (fun i=>xs.length - i) (0) (by exact ⟨by simp,fun j _ h=>absurd h ai⟩) aO aO rfl fun i hx ih=>?_;have aW:=bS (g:=vP);obtain ⟨hx1,b8⟩:=hx;refine U 5 ?_;refine S.cd rfl (fun j3=>?_) fun j3=>?_
 ·have hi:i<xs.length:=by omega
  have hnext:((∀ h0:0<i,ko xs[i-1] xs[i]<0)∧ue xs xs[i]=false)→∀ j (h:j<xs.length),j<i+1→(∀ h0:0<j,ko xs[j-1] xs[j]<0)∧ue xs xs[j]=false:=by
   intro q j h hj
   by_cases e:j=i
   ·subst e;exact q
   ·exact b8 j h ai
  refine U 6 ?_;refine O.c7 (.p rfl) underlying313 vh rfl rfl rfl bq (h:=fun e5 me gx ee=>?_);obtain ⟨WX,W0,W3,W6,W9,Xb,Xe,Xh,rfl,MX,Mm⟩:=gb.sh ee;refine O.op (.p rfl) (.aJ isAgg317 af rfl gx) ?_;refine O.aD (.p rfl) (.alloc (cs:=[.string ⟨#[]⟩,.int .i64 0,.int .i64 0,.slice none 0 0,.bool false,.slice none 0 0,.slice none 0 0,.slice none 0 0]) zeroValue317 rfl) ?_;rintro _ _ ⟨iL,rfl,rfl⟩;refine U 2 ?_;refine O.nil<|S.cH (b:=iL) (cs' :=[.string (str xs[i].1),.int .i64 xs[i].2.1,.int .i64 xs[i].2.2.1,.slice WX xs[i].2.2.2.1.length W9,.bool xs[i].2.2.2.2.1,.slice W0 xs[i].2.2.2.2.2.1.length Xb,.slice W3 xs[i].2.2.2.2.2.2.1.length Xe,.slice W6 (cm xs[i]).length Xh]) an rfl ?_;refine S.cy an fun g hs hm fE=>?_;replace hg:=bf hg hs;replace hR:=a_ hR hm
  try replace ha:=ha.mono hs
  try replace yd:=yd.mono hs
  try replace yc:=yc.mono hs
  try replace hrow:=hrow.mono hs
  try replace gx:=gx.mono hs
  try replace Mm:=Mm.mono hs
  try replace ee:=ee.mono hs
  try replace MX:=MX.mono hs
  replace aW:=eT aW hm;clear hs hm
  by_cases h0:i=0
  ·cases s6:ue xs xs[i] with
   |true =>
    have hno:¬ ez xs:=fun q=>by have:=(q.2 i hi).2;rw [s6] at this;cases this
    clear ih;refine S.aY (L:=.range 22) F.mixed af ?_;refine U 2 ?_;refine ah.sT 22 rfl (by exact zdt ai) ?_;refine ah.q 15 rfl<|.quiet (.g rfl rfl) rfl (fun _=>.aJ isAgg317 af rfl fE) ?_;refine ah.v0 (.g rfl rfl) af rfl af rfl rfl (D4 hrow ee) ?_;refine ah.sT 39 rfl (by exact s6) ?_;refine U 2 ?_;refine ah.cV (.p rfl) af rfl af rfl rfl (ud _) (fun ch au w hX hW=>by (obtain ⟨hb,rfl,rfl⟩:=hX;exact hR _ _ w ⟨hno,rfl,rfl⟩ hW.fU)) ?_;rintro _ _ ⟨oY,rfl,rfl⟩;exact absurd oY aH
   |false =>
    refine S.aY (L:=.range 22) F.mixed af ?_;refine U 2 ?_;refine ah.sT 22 rfl (by exact zdt ai) ?_;refine ah.q 15 rfl<|.quiet (.g rfl rfl) rfl (fun _=>.aJ isAgg317 af rfl fE) ?_;refine ah.v0 (.g rfl rfl) af rfl af rfl rfl (D4 hrow ee) ?_;refine ah.aB 39 rfl (by exact s6)<|U 2 ?_;refine ah.cV (.p rfl) af rfl af rfl rfl (ud _) (fun ch au w hX hW=>by (exact absurd hX.1 aH)) ?_;rintro _ _ ⟨oY,rfl,rfl⟩;refine U 6 ?_;exact S.jo aW (S.cF (ih (i+1) (by exact ⟨by omega,hnext ⟨fun h1=>absurd h1 ai,s6⟩⟩) ai))
  ·have hi1:i - 1<xs.length:=by omega
   by_cases hc:ko xs[i-1] xs[i]<0
   ·cases s6:ue xs xs[i] with
    |true =>
     have hno:¬ ez xs:=fun q=>by have:=(q.2 i hi).2;rw [s6] at this;cases this
     clear ih;refine S.aY (L:=.range 22) F.mixed af ?_;refine U 2 ?_;refine ah.aB 22 rfl (by exact aA ai) ?_;refine U 7 ?_;refine ah.c7 (.g rfl rfl) underlying313 vh rfl rfl (show _=(((i - 1):Nat):Int) by omega) bq (h:=fun tW s4 jI j5=>?_);obtain ⟨M6,M7,M8,M9,M_,Na,Nb,Nc,rfl,MY,Mn⟩:=gb.sh j5;refine .quiet (.g rfl rfl) rfl (fun _=>.aJ isAgg317 af rfl jI) ?_;refine .quiet (.g rfl rfl) rfl (fun _=>.aJ isAgg317 af rfl fE) ?_;refine ah.v0 (.g rfl rfl) af rfl af rfl rfl (Bh j5 ee) ?_;refine U 1 ?_;refine ah.sT 34 rfl (by exact zdt hc) ?_;refine ah.q 3 rfl<|.quiet (.g rfl rfl) rfl (fun _=>.aJ isAgg317 af rfl fE) ?_;refine ah.v0 (.g rfl rfl) af rfl af rfl rfl (D4 hrow ee) ?_;refine ah.sT 39 rfl (by exact s6) ?_;refine U 2 ?_;refine ah.cV (.p rfl) af rfl af rfl rfl (ud _) (fun ch au w hX hW=>by (obtain ⟨hb,rfl,rfl⟩:=hX;exact hR _ _ w ⟨hno,rfl,rfl⟩ hW.fU)) ?_;rintro _ _ ⟨oY,rfl,rfl⟩;exact absurd oY aH
    |false =>
     refine S.aY (L:=.range 22) F.mixed af ?_;refine U 2 ?_;refine ah.aB 22 rfl (by exact aA ai)<|U 7 ?_;refine ah.c7 (.g rfl rfl) underlying313 vh rfl rfl (show _=(((i - 1):Nat):Int) by omega) bq (h:=fun tW s4 jI j5=>?_);obtain ⟨M6,M7,M8,M9,M_,Na,Nb,Nc,rfl,MY,Mn⟩:=gb.sh j5;refine .quiet (.g rfl rfl) rfl (fun _=>.aJ isAgg317 af rfl jI) ?_;refine .quiet (.g rfl rfl) rfl (fun _=>.aJ isAgg317 af rfl fE) ?_;refine ah.v0 (.g rfl rfl) af rfl af rfl rfl (Bh j5 ee)<|U 1 ?_;refine ah.sT 34 rfl (by exact zdt hc) ?_;refine ah.q 3 rfl<|.quiet (.g rfl rfl) rfl (fun _=>.aJ isAgg317 af rfl fE) ?_;refine ah.v0 (.g rfl rfl) af rfl af rfl rfl (D4 hrow ee) ?_;refine ah.aB 39 rfl (by exact s6)<|U 2 ?_;refine ah.cV (.p rfl) af rfl af rfl rfl (ud _) (fun ch au w hX hW=>by (exact absurd hX.1 aH)) ?_;rintro _ _ ⟨oY,rfl,rfl⟩;refine U 6 ?_;exact S.jo aW (S.cF (ih (i+1) (by exact ⟨by omega,hnext ⟨fun _=>hc,s6⟩⟩) ai))
   ·have hno:¬ ez xs:=fun q=>hc ((q.2 i hi).1 ai)
    clear ih;refine S.aY (L:=.range 22) F.mixed af ?_;refine U 2 ?_;refine ah.aB 22 rfl (by exact aA ai) ?_;refine U 7 ?_;refine ah.c7 (.g rfl rfl) underlying313 vh rfl rfl (show _=(((i - 1):Nat):Int) by omega) bq (h:=fun tW s4 jI j5=>?_);obtain ⟨M6,M7,M8,M9,M_,Na,Nb,Nc,rfl,MY,Mn⟩:=gb.sh j5;refine .quiet (.g rfl rfl) rfl (fun _=>.aJ isAgg317 af rfl jI) ?_;refine .quiet (.g rfl rfl) rfl (fun _=>.aJ isAgg317 af rfl fE) ?_;refine ah.v0 (.g rfl rfl) af rfl af rfl rfl (Bh j5 ee) ?_;refine U 1 ?_;refine ah.aB 34 rfl (by exact aA hc) ?_;refine ah.q 7 rfl<|ah.cV (.p rfl) af rfl af rfl rfl (ud _) (fun ch au w hX hW=>by (obtain ⟨hb,rfl,rfl⟩:=hX;exact hR _ _ w ⟨hno,rfl,rfl⟩ hW.fU)) ?_;rintro _ _ ⟨oY,rfl,rfl⟩;exact absurd oY aH
 ·clear ih
  have hi:i=xs.length:=by omega
  subst hi;refine S.exit rfl<|S.seq<|S.back mN ?_;replace hg:=nA;replace hR:=nw
  try replace ha:=uN
  clear nA nw;refine U 4 ?_;exact S.rt results282 rfl hR ⟨⟨hone,fun j h=>b8 j h h⟩,gF,rfl,rfl⟩
theorem acJ {r:Fr} {b:Nat} {va:Value} {xs:List aV} (hb:cg r ⟨b,0,none⟩ [va]) (ha:av bu r va xs) (hl:xs.length≤1000000000) :
  aj prog 281 (#[]++#[]++#[.pointer (some ⟨b,0,none⟩)]) r [] (dg (fun v aa=>ez xs∧∃ a c,v=.slice a (dc xs).length c∧aa=[ak ag.u8 5 (.slice a (dc xs).length c) (dc xs)]) (fun ch aa=>∃ z,ch=fJ 39 z∧(¬ ez xs∧z=4)∧aa=[])):=by
 have har:=ha;refine aj.of (n:=31) [.pointer (some ⟨b,0,none⟩)] rfl func281 rfl rfl rfl fun g hg R hR=>?_;have hb:=hb.mono hg;have ha:=ha.mono hg;obtain ⟨a1,c1,rfl⟩:=ha.shape;refine U 7 ?_;refine O.cV (.p rfl) rfl af rfl rfl (((O8 har ai).sub hg)) (fun ch au w hX hW=>by (obtain ⟨hb,rfl,rfl⟩:=hX;exact hR _ _ w ⟨4,rfl,⟨hb,rfl⟩,rfl⟩ hW.fU)) ?_;rintro _ _ ⟨hright,gF,rfl,rfl⟩;refine U 3 ?_;refine S.fW (A:=g6 r 315 317 5 gF xs) an fun g hs hm ⟨_,x',s'⟩=>?_;have hrow:=g6.read (bf hg hs) s' x';clear x' s';replace hg:=bf hg hs;replace hR:=a_ hR hm
 try replace ha:=ha.mono hs
 try replace hb:=hb.mono hs
 clear hs hm;obtain ⟨lz,nO,yd,yc⟩:=id hrow;refine U 6 ?_;refine O.aN (.p rfl) rfl af rfl rfl (ir _) ?_;rintro _ _ ⟨dF,cj,rfl,rfl⟩;refine O.q 1 rfl<|O.nil (S.seq (S.seq ?_));have hone:=hright.1;have hbd:=q7 hone;refine U 9 ?_;refine S.conv (C:=ak ag.u8 5 (.slice dF (8+(dS (xs.take 0)).length) cj) (be xs.length++dS (xs.take 0))) bA.here (fun m x=>⟨m,Fr.bH _,by simpa [dS] using x⟩) ?_;refine S.i_ (ι:=Nat) (dy:=Option Addr × Nat) (fun i p=>i≤xs.length) (fun i p=>[(19,.int .i64 (i:Int)),(3,.slice p.1 (8+(dS (xs.take i)).length) p.2)]) [(17,_),(18,_)] (fun i p=>[ak ag.u8 5 (.slice p.1 (8+(dS (xs.take i)).length) p.2) (be xs.length++dS (xs.take i))]) (fun i p=>xs.length - i) (0) ((dF,cj)) ai aO aO rfl fun i p hx ih=>?_;have aW:=bS (g:=g);refine U 5 ?_;refine S.cd rfl (fun gI=>?_) fun gI=>?_
 ·have hi:i<xs.length:=by omega
  have cK:=q3 (wM hone xs[i] (List.getElem_mem hi));have mM:=DT (xs.take i) (wM (Dp i hone));rw [mA,Nat.min_eq_left hx] at mM;have hN:[be xs.length++dS (xs.take i),bytesOf (cm xs[i])].flatten=be xs.length++dS (xs.take (i+1)):=by rw [j9 hi,JQ];simp
  have tE:(be (xs.length:Int)++dS (xs.take (i+1))).length=8+(dS (xs.take (i+1))).length:=by simp
  have ep:(be (xs.length:Int)++dS (xs.take (i+1))).length≤140737488355328:=by
   have:=DT (xs.take (i+1)) (wM (Dp (i+1) hone));rw [mA] at this
   simp;omega
  generalize gm:dS (xs.take i)=jv at hN mM ⊢;refine U 5 ?_;refine O.c7 (.p rfl) underlying313 vh rfl rfl rfl bq (h:=fun bT Ck tt pS=>?_);obtain ⟨ahg,ahh,ahi,ahj,ahk,ahl,ahm,ahn,rfl,ahf,agl⟩:=gb.sh pS;refine O.op (.p rfl) (.aJ isAgg317 af rfl tt) ?_;refine O.aD (.p rfl) (.alloc (cs:=[.string ⟨#[]⟩,.int .i64 0,.int .i64 0,.slice none 0 0,.bool false,.slice none 0 0,.slice none 0 0,.slice none 0 0]) zeroValue317 rfl) ?_;rintro _ _ ⟨iL,rfl,rfl⟩;refine U 6 ?_;refine O.aN (.p rfl) rfl af rfl rfl (nS bq bl) ?_;rintro _ _ ⟨cX,bI,rfl,rfl⟩;generalize agn:bytesOf (cm xs[i])=bb at hN ⊢;refine O.aD (.p rfl) (.bw (T:=ag.val) (ys:=[_,_]) underlying28 dH aq rfl rfl ⟨⟨rfl,rfl⟩,⟨rfl,rfl⟩,trivial⟩ aq) ?_;rintro _ _ ⟨dX,cq,rfl,rfl⟩;refine O.dh (.p rfl) rfl af rfl rfl (bs:=[ak ag.val 22 (.slice dX 2 cq) [.slice p.1 (8+jv.length) p.2,.slice cX bb.length bI],ak ag.u8 5 (.slice p.1 (8+jv.length) p.2) (be xs.length++jv),ak ag.u8 5 (.slice cX bb.length bI) bb]) ct (fun m hm hd=>mz (xss:=[be xs.length++jv,bb]) ((hm.arr.right hd).rows ⟨hm.tail.arr.right hd,hm.tail.tail.arr.right hd,trivial⟩) (by rw [hN];exact ep)) ?_;rintro _ _ ⟨xD,fl,rfl,rfl⟩;refine U 7 ?_;rw [hN,tE];exact S.pw (ih (i+1) ((xD,fl)) ai ai)
 ·clear ih
  have hi:i=xs.length:=by omega
  subst hi;rw [List.take_length];have MM:8+(dS xs).length=(dc xs).length:=by simp [dc]
  rw [MM];refine U 6 ?_;exact S.rt results281 rfl hR ⟨hright,p.1,p.2,rfl,rfl⟩
noncomputable def kU (l:List aV):List UInt8:=if ez l then dc l else []
noncomputable def q8 (l:List aV):Int:=if ez l then 0 else 4
theorem ab8 {r:Fr} {first cap:Array Value} {xs:List aV} (con:aj prog 281 (first++#[]++cap) r [] (dg (fun v aa=>ez xs∧∃ a c,v=.slice a (dc xs).length c∧aa=[ak ag.u8 5 (.slice a (dc xs).length c) (dc xs)]) (fun ch aa=>∃ z,ch=fJ 39 z∧(¬ ez xs∧z=4)∧aa=[]))) (h1:(Value.func (.func 281) first cap).oneCell' =true:=by rfl) :
  aj prog 280 #[.func (.func 281) first cap] r [] (aF fun v aa=>∃ a c,v=.tuple #[.slice a (kU xs).length c,.int .i64 (q8 xs)]∧aa=[ak ag.u8 5 (.slice a (kU xs).length c) (kU xs)]) :=
 (adp af h1 (fun _ _ h=>by obtain ⟨_,_,_,rfl,_⟩:=h;rfl) con).post fun e aa h w g hw=>by
  cases e with
  |returned v =>
   rcases h with ⟨u,⟨hs,a,c,rfl,rfl⟩,rfl⟩|⟨z,⟨hs,rfl⟩,rfl,rfl⟩
   ·exact ⟨_,⟨a,c,by simp [kU,q8,hs],rfl⟩,by simpa [kU,hs] using hw⟩
   ·exact ⟨_,⟨none,0,by simp [kU,q8,hs],rfl⟩,by simp only [kU,hs,if_false];exact hw.imp fun m x=>⟨Fr.emp,m,Fr.eA _,Fr.dY _,Fr.bH _,yA _,x⟩⟩
  |panicked _=>exact h.elim
  |outgrown=>exact h.elim
theorem Be {r:Fr} {va:Value} {xs:List aV} (ha:av bu r va xs) (hl:xs.length≤1000000000) :
  aj prog 240 #[va] r [] (aF fun v aa=>∃ a c,v=.tuple #[.slice a (kU xs).length c,.int .i64 (q8 xs)]∧aa=[ak ag.u8 5 (.slice a (kU xs).length c) (kU xs)]):=by
 refine aj.o func240 fun g hg R hR=>?_;have ha:=ha.mono hg;obtain ⟨a1,c1,rfl⟩:=ha.shape;refine S.seq<|S.region rfl<|O.aD (.p rfl) (.box (cs:=[_]) rfl rfl) ?_;rintro _ _ ⟨b1,rfl,rfl⟩;refine U 4 ?_;refine S.cy an fun g hs hm cK=>?_;replace hg:=bf hg hs;replace hR:=a_ hR hm
 try replace ha:=ha.mono hs
 clear hs hm;refine U 2 ?_;refine O.aN (.p rfl) rfl af rfl rfl ((ab8 (acJ cK ha hl))) ?_;rintro _ _ ⟨a5,cD,rfl,rfl⟩;refine O.q 4 rfl<|O.nil<|S.kA results240 rfl rfl fun w hw=>ax.end_ hR hw ?_;exact pk ⟨a5,cD,rfl,rfl⟩
theorem adu {g:bp} {be bY:Nat} {x:Value} {z:Int} {dP d_:TypeId} {w:World} {R:Ending→World→Prop} {aa:List az} (hw:ax w g (obj bY dP [x]::obj be d_ [.int .i64 z]::aa)) (hR:∀ w,ax w g (obj bY dP [x]::obj be d_ [.int .i64 z]::aa)→R (.returned (.tuple #[x,.int .i64 z])) w) :
  CallsD prog 369 #[.pointer (some ⟨be,0,none⟩),.pointer (some ⟨bY,0,none⟩)] .returning w (qj prog g bY be 311 39 R):=by
 refine (n9 (R:=fun e w=>(∃ v,e=.returned v)∧ax w g (obj bY dP [x]::obj be d_ [.int .i64 z]::aa)) [.pointer (some ⟨be,0,none⟩),.pointer (some ⟨bY,0,none⟩)] rfl func369 rfl rfl rfl rfl hw ?_).mono ?_
 rotate_left
 ·rintro e u' w' ⟨rfl,⟨v,rfl⟩,h⟩
  exact ⟨⟨v,rfl⟩,rfl,dP,d_,_,_,_,_,aa,h,gi.flat FN,gi.flat qA,hR w' h⟩
 refine S.seq<|S.region rfl<|O.q 1 rfl<|O.op (.p rfl) (.wG underlying20 rfl)<|O.nil<|S.pK rfl<|S.skip<|S.gl results369 fun w hw=>?_;exact ⟨⟨_,rfl⟩,hw⟩
theorem adt {g:bp} {be bY:Nat} {x:Value} {z z' :Int} {dP d_:TypeId} {w:World} {R:Ending→World→Prop} {aa:List az} (hw:ax w g (obj bY dP [x]::obj be d_ [.int .i64 z']::aa))
  (hR:∀ w,ax w g (obj bY dP [.pointer none]::obj be d_ [.int .i64 z]::aa)→R (.returned (.tuple #[.pointer none,.int .i64 z])) w) :
  CallsD prog 369 #[.pointer (some ⟨be,0,none⟩),.pointer (some ⟨bY,0,none⟩)] (.panicking (fJ 39 z)) w (qj prog g bY be 311 39 R):=by
 refine (n9 (R:=fun e w=>(∃ v,e=.returned v)∧ax w g (obj bY dP [.pointer none]::obj be d_ [.int .i64 z]::aa)) [.pointer (some ⟨be,0,none⟩),.pointer (some ⟨bY,0,none⟩)] rfl func369 rfl rfl rfl rfl hw ?_).mono ?_
 rotate_left
 ·rintro e u' w' ⟨rfl,⟨v,rfl⟩,h⟩
  exact ⟨⟨v,rfl⟩,rfl,dP,d_,_,_,_,_,aa,h,gi.flat FN,gi.flat qA,hR w' h⟩
 refine U 3 ?_;refine O.op (.p rfl) (.wH underlying20 rfl)<|U 10 ?_;refine O.op (.p rfl) (.vE underlying39 rfl)<|U 20 ?_;refine O.nil<|S.gl results369 fun w hw=>?_;exact ⟨⟨_,rfl⟩,hw.jr aC⟩
theorem ads {r:Fr} {f:Nat} {first cap:Array Value} {K:Value→List az→Prop} {X:Int→Prop} (hc:ed prog f=true) (vW:(Value.func (.func f) first cap).oneCell' =true) (oW:∀ u ζ,K u ζ→u.oneCell' =true)
  (con:aj prog f (first++#[]++cap) r [] (dg K (fun ch aa=>∃ z,ch=fJ 39 z∧X z∧aa=[]))) :
  aj prog 353 #[.func (.func f) first cap] r [] (aF fun v aa=>(∃ u,K u aa∧v=.tuple #[u,.int .i64 0])∨(∃ z,X z∧aa=[]∧v=.tuple #[.pointer none,.int .i64 z])):=by
 refine aj.of (n:=7) [.func (.func f) first cap] rfl func353 rfl rfl rfl fun g hg R hR=>?_;refine S.seq<|S.region rfl<|O.aD (.p rfl) (.alloc (cs:=[.pointer none]) zeroValue311 rfl) ?_;rintro _ _ ⟨b2,rfl,rfl⟩;refine O.aD (.p rfl) (.alloc (cs:=[.int .i64 0]) zeroValue39 rfl) ?_;rintro _ _ ⟨b3,rfl,rfl⟩;refine U 4 ?_;refine O.defer rfl rfl rfl rfl<|U 4 ?_;refine O.zE (.p rfl) rfl hc rfl rfl (con.sub hg) (fun a ch au w hF hX hW=>by (obtain ⟨z,rfl,hx,rfl⟩:=hX;exact rZ results353 hF rfl rfl aH af (adt (hW.jr aC) fun w hw=>ax.end_ hR hw ⟨_,.inr ⟨z,hx,rfl,rfl⟩,aC⟩))) ?_;rintro v6 _ om;have hone:=oW _ _ om;refine O.perm (List.perm_append_comm) ?_;simp only [List.cons_append,List.nil_append];refine U 2 ?_;refine O.nil<|S.r6 fun a w hf hd hw=>?_;exact rZ results353 hf rfl rfl aH af (adu (hw.jr aC) fun w hw=>ax.end_ hR hw ⟨_,.inl ⟨_,om,rfl⟩,aC⟩)
theorem acK {r:Fr} {p:Nat} {va:Value} {xs:List aV} (hp:cg r ⟨p,0,none⟩ [va]) (ha:av bu r va xs) (hl:xs.length≤100000000000) :
  aj prog 354 (#[]++#[]++#[.pointer (some ⟨p,0,none⟩)]) r [] (dg (fun v aa=>ez xs∧∃ b,v=.pointer (some ⟨b,0,none⟩)∧aa=[g6 r 315 317 5 b xs]) (fun ch aa=>∃ z,ch=fJ 39 z∧(¬ ez xs∧z=4)∧aa=[])):=by
 refine aj.of (n:=4) [.pointer (some ⟨p,0,none⟩)] rfl func354 rfl rfl rfl fun g hg R hR=>?_;have hp:=hp.mono hg;obtain ⟨a1,c1,rfl⟩:=ha.shape;refine U 7 ?_;refine O.cV (.p rfl) rfl af rfl rfl (((O8 ha hl).sub hg)) (fun ch au w hX hW=>by (obtain ⟨hb,rfl,rfl⟩:=hX;exact hR _ _ w ⟨4,rfl,⟨hb,rfl⟩,rfl⟩ hW.fU)) ?_;rintro _ _ ⟨hright,b3,rfl,rfl⟩;refine U 2 ?_;exact S.rt results354 rfl hR ⟨hright,b3,rfl,rfl⟩
theorem DS {r:Fr} {va:Value} {xs:List aV} (ha:av bu r va xs) (hl:xs.length≤100000000000) :
  aj prog 335 #[va] r [] (aF fun v aa=>v=.bool (decide (ez xs))∧aa=[]):=by
 refine aj.o func335 fun g hg R hR=>?_;have ha:=ha.mono hg;obtain ⟨a1,c1,rfl⟩:=ha.shape;refine S.seq<|S.region rfl<|O.aD (.p rfl) (.box (cs:=[_]) rfl rfl) ?_;rintro _ _ ⟨b1,rfl,rfl⟩;refine U 3 ?_;refine S.cy an fun g hs hm cK=>?_;replace hg:=bf hg hs;replace hR:=a_ hR hm
 try replace ha:=ha.mono hs
 clear hs hm;have con:=ads af (first:=#[]) (cap:=#[.pointer (some ⟨b1,0,none⟩)]) rfl (fun _ _ h=>by obtain ⟨_,_,rfl,_⟩:=h;rfl) (acK cK ha hl)
 by_cases e:ez xs
 ·
  refine U 2 ?_;refine O.aN (.p rfl) rfl af rfl rfl ((con.mono (aF.imp (K' :=fun v aa=>∃ b,v=.tuple #[.pointer (some ⟨b,0,none⟩),.int .i64 0]∧aa=[g6 g.h 315 317 5 b xs]) fun v aa h=>by rcases h with ⟨_,⟨_,b,rfl,h3⟩,rfl⟩|⟨_,⟨h2,_⟩,_⟩;exact ⟨b,rfl,h3⟩;exact absurd e h2))) ?_;rintro _ _ ⟨gF,rfl,rfl⟩;refine U 12 ?_;exact S.rt results335 rfl hR ⟨by simp [e],rfl⟩
 ·
  refine U 2 ?_;refine O.v0 (.p rfl) rfl af rfl rfl ((con.mono (aF.imp (K' :=fun v aa=>v=.tuple #[.pointer none,.int .i64 4]∧aa=[]) fun v aa h=>by rcases h with ⟨_,⟨h2,_⟩,_⟩|⟨_,⟨_,rfl⟩,rfl,rfl⟩;exact absurd h2 e;exact ⟨rfl,rfl⟩))) ?_;refine U 12 ?_;exact S.rt results335 rfl hR ⟨by simp [e],rfl⟩
theorem OF {r:Fr} {cs:List Value} {x:dD} (h:bx.rel r cs x):aj prog 297 #[.agg cs.toArray] r [] (aF fun v aa=>v=.bool (r7 x)∧aa=[]):=by
 obtain ⟨dM,jz,dN,jA,rfl,k0,k1,k2,aI,fo⟩:=bx.sh h;refine aj.o func297 fun g hg R hR=>?_;refine S.seq<|S.region rfl<|O.aD (.p rfl) (.box (cs:=[_,_,_,_,_]) rfl rfl) ?_;rintro _ _ ⟨b1,rfl,rfl⟩;refine U 9 ?_
 refine O.cs 7 rfl (fun h7=>?_) fun h7=>?_
 ·refine U 6 ?_
  refine O.cs 13 rfl (fun mh=>?_) fun mh=>?_
  ·refine U 6 ?_
   refine O.cs 19 rfl (fun dz=>?_) fun dz=>?_
   ·refine U 6 ?_
    refine O.cs 25 rfl (fun lG=>?_) fun lG=>?_
    ·refine U 6 ?_
     refine O.cs 31 rfl (fun oU=>?_) fun oU=>?_
     ·refine U 6 ?_
      refine O.cs 37 rfl (fun T6=>?_) fun T6=>?_
      ·refine U 8 ?_
       refine S.ret results297 rfl fun w hw=>ax.end_ hR hw ?_
       first|exact ⟨_,⟨congrArg _ (aA ai).symm,rfl⟩,aC⟩|exact ⟨_,⟨congrArg _ (decide_eq_decide.2 ai),rfl⟩,aC⟩
      ·refine O.q 7 rfl<|O.nil<|S.ret results297 rfl fun w hw=>ax.end_ hR hw ?_
       first|exact ⟨_,⟨congrArg _ (aA ai).symm,rfl⟩,aC⟩|exact ⟨_,⟨congrArg _ (decide_eq_decide.2 ai),rfl⟩,aC⟩
     ·refine O.q 13 rfl<|O.nil<|S.ret results297 rfl fun w hw=>ax.end_ hR hw ?_
      first|exact ⟨_,⟨congrArg _ (aA ai).symm,rfl⟩,aC⟩|exact ⟨_,⟨congrArg _ (decide_eq_decide.2 ai),rfl⟩,aC⟩
    ·refine O.q 19 rfl<|O.nil<|S.ret results297 rfl fun w hw=>ax.end_ hR hw ?_
     first|exact ⟨_,⟨congrArg _ (aA ai).symm,rfl⟩,aC⟩|exact ⟨_,⟨congrArg _ (decide_eq_decide.2 ai),rfl⟩,aC⟩
   ·refine O.q 25 rfl<|O.nil<|S.ret results297 rfl fun w hw=>ax.end_ hR hw ?_
    first|exact ⟨_,⟨congrArg _ (aA ai).symm,rfl⟩,aC⟩|exact ⟨_,⟨congrArg _ (decide_eq_decide.2 ai),rfl⟩,aC⟩
  ·refine O.q 31 rfl<|O.nil<|S.ret results297 rfl fun w hw=>ax.end_ hR hw ?_
   first|exact ⟨_,⟨congrArg _ (aA ai).symm,rfl⟩,aC⟩|exact ⟨_,⟨congrArg _ (decide_eq_decide.2 ai),rfl⟩,aC⟩
 ·refine O.q 37 rfl<|O.nil<|S.ret results297 rfl fun w hw=>ax.end_ hR hw ?_
  first|exact ⟨_,⟨congrArg _ (aA ai).symm,rfl⟩,aC⟩|exact ⟨_,⟨congrArg _ (decide_eq_decide.2 ai),rfl⟩,aC⟩
theorem Je {r:Fr} {cs:List Value} {x:dD} (h:bx.rel r cs x):aj prog 272 #[.agg cs.toArray] r [] (aF fun v aa=>v=.bool (dR x)∧aa=[]):=by
 obtain ⟨dM,jz,dN,jA,rfl,k0,k1,k2,aI,fo⟩:=bx.sh h;refine aj.o func272 fun g hg R hR=>?_;have h:=h.mono hg
 cases e:r7 x with
 |false =>
  refine S.seq<|S.region rfl<|O.aD (.p rfl) (.box (cs:=[_,_,_,_,_]) rfl rfl) ?_;rintro _ _ ⟨b1,rfl,rfl⟩;refine U 5 ?_;refine O.v0 (.p rfl) rfl af rfl rfl (OF h) ?_;refine O.aB 4 rfl (by exact e)<|U 9 ?_;exact S.rt results272 rfl hR ⟨by simp [dR,e],rfl⟩
 |true =>
  refine S.seq<|S.region rfl<|O.aD (.p rfl) (.box (cs:=[_,_,_,_,_]) rfl rfl) ?_;rintro _ _ ⟨b1,rfl,rfl⟩;refine U 5 ?_;refine O.v0 (.p rfl) rfl af rfl rfl (OF h) ?_;refine O.sT 4 rfl (by exact e)<|U 9 ?_;exact S.rt results272 rfl hR ⟨by simp [dR,e];omega,rfl⟩
theorem acZ {r:Fr} {cs:List Value} {x:dD} (h:bx.rel r cs x):aj prog 302 #[.agg cs.toArray] r [] (aF fun v aa=>v=.bool (dR x)∧aa=[]):=by
 obtain ⟨dM,jz,dN,jA,rfl,k0,k1,k2,aI,fo⟩:=bx.sh h;refine aj.o func302 fun g hg R hR=>?_;have h:=h.mono hg;refine S.seq<|S.region rfl<|O.aD (.p rfl) (.box (cs:=[_,_,_,_,_]) rfl rfl) ?_;rintro _ _ ⟨b1,rfl,rfl⟩;refine U 5 ?_;refine O.op (.p rfl) (.build (cs:=[_,_,_,_,_]) underlying309 rfl rfl rfl rfl rfl)<|O.v0 (.p rfl) rfl af rfl rfl (Je h) ?_;refine U 2 ?_;exact S.rt results302 rfl hR ⟨rfl,rfl⟩
theorem P5 {r:Fr} (b:Bool) (z:Int):aj prog 271 #[.bool b,.int .i64 z] r [] (dg (fun v aa=>b=true∧v=.tuple #[]∧aa=[]) (fun ch aa=>b=false∧ch=fJ 39 z∧aa=[])):=by
 refine aj.o func271 fun g hg R hR=>?_;refine U 3 ?_;refine O.op (.p rfl) ((by first|exact .pY rfl|exact .not rfl))<|U 1 ?_;refine S.cd rfl (fun h5=>?_) fun h5=>?_
 ·refine U 2 ?_
  refine O.op (.p rfl) (.Di underlying39 rfl)<|O.panic rfl rfl (fun w hw=>?_);exact hR _ [] w ⟨by simpa using h5,rfl,rfl⟩ hw
 ·refine S.skip<|S.gl results271 fun w hw=>hR _ _ w ?_ hw
  exact ⟨by simpa using h5,rfl,rfl⟩
theorem IW {r:Fr} {va:Value} {l:List Int} (ha:av ag.i64 r va l) (hl:l.length≤1000000000):aj prog 298 #[va] r [] (aF fun v aa=>∃ a c,v=.slice a (l.map be).flatten.length c∧aa=[ak ag.u8 5 (.slice a (l.map be).flatten.length c) (l.map be).flatten]):=by
 refine aj.o func298 fun g hg R hR=>?_;have ha:=ha.mono hg;obtain ⟨a1,c1,rfl⟩:=ha.shape;have hlen:∀ m:List Int,(m.map be).flatten.length=8*m.length:=by
  intro m
  induction m with
  |nil=>rfl
  |cons a m ih=>rw [List.map_cons,nV,cI,ih,ga,ae4];omega
 refine S.l_ (T:=ag.u8) (e:=5) ?_;refine U 16 ?_;refine S.i_ (ι:=Nat) (dy:=Option Addr × Nat) (fun i p=>i≤l.length) (fun i p=>[(8,.int .i64 (i:Int)),(3,.slice p.1 ((l.take i).map be).flatten.length p.2)]) [(6,_),(7,_)] (fun i p=>[ak ag.u8 5 (.slice p.1 ((l.take i).map be).flatten.length p.2) ((l.take i).map be).flatten]) (fun i p=>l.length - i) (0) ((none,0)) aH aO aO rfl fun i p hx ih=>?_;have aW:=bS (g:=g);refine U 5 ?_;refine S.cd rfl (fun h9=>?_) fun h9=>?_
 ·have hi:i<l.length:=by omega
  have hN:((l.take i).map be).flatten++be l[i]=((l.take (i+1)).map be).flatten:=by rw [j9 hi,List.map_append,List.flatten_append];simp
  have hb:=hlen (l.take i);rw [mA,Nat.min_eq_left hx] at hb;generalize ((l.take i).map be).flatten=jv at hN hb ⊢;refine U 5 ?_;refine O.c7 (.p rfl) underlying60 PV rfl rfl rfl bq (h:=fun bO Ci nC nE=>?_);obtain ⟨rfl,WU⟩:=nE;refine U 6 ?_;refine O.aN (.p rfl) rfl af rfl rfl (ir _) ?_;rintro _ _ ⟨cS,bE,rfl,rfl⟩;refine O.gH an fun g hs hm CK=>?_;replace hg:=bf hg hs;replace hR:=a_ hR hm
  try replace nC:=nC.mono hs
  replace aW:=eT aW hm;clear hs hm;refine O.aD (.p rfl) (.mb (T:=ag.u8) ox underlying22 cP aq rfl rfl an bq bl bl) ?_;rintro _ _ ⟨cT,bF,rfl,rfl⟩;refine U 7 ?_;rw [← cI,hN];exact S.jo aW (S.pw (ih (i+1) ((cT,bF)) ai ai))
 ·clear ih
  have hi:i=l.length:=by omega
  subst hi;rw [List.take_length];refine U 6 ?_;exact S.rt results298 rfl hR ⟨p.1,p.2,rfl,rfl⟩
theorem aad {r:Fr} {cs:List Value} {x:dD} (h:bx.rel r cs x) (hs:r7 x=true):aj prog 273 #[.agg cs.toArray] r [] (aF fun v aa=>∃ a c,v=.slice a (iV x).length c∧aa=[ak ag.u8 5 (.slice a (iV x).length c) (iV x)]):=by
 have hl:=DN hs;have G1:([x.1,x.2.1,x.2.2.1].map be).flatten=be x.1++(be x.2.1++be x.2.2.1):=by simp
 have hfl:[[2],be x.1++(be x.2.1++be x.2.2.1),x.2.2.2.1].flatten=iV x:=by simp [iV]
 obtain ⟨dM,jz,dN,jA,rfl,k0,k1,k2,aI,fo⟩:=bx.sh h;refine aj.o func273 fun g hg R hR=>?_;have h:=h.mono hg;have aI:=aI.mono hg;refine S.seq<|S.region rfl<|O.aD (.p rfl) (.box (cs:=[_,_,_,_,_]) rfl rfl) ?_;rintro _ _ ⟨b1,rfl,rfl⟩;refine U 3 ?_;refine S.cy an fun g hs hm qH=>?_;replace hg:=bf hg hs;replace hR:=a_ hR hm
 try replace h:=h.mono hs
 try replace aI:=aI.mono hs
 clear hs hm;refine S.yJ (L:=[1,2,3,4,5,6,7,8,9,12,13,14,0,10,11,15,16,17]) (fun (s:Option Addr × Nat)=>[(2,.slice s.1 (iV x).length s.2)]) [] (fun (s:Option Addr × Nat)=>[ak ag.u8 5 (.slice s.1 (iV x).length s.2) (iV x)]) (.nil) F.mixed af (fun kk key=>?_) (fun s=>?_)
 ·refine U 12 ?_
  refine ah.kZ 0 10 [10,11,15,16,17] [0,11,15,16,17] af rfl rfl ?_ ?_
  ·refine e3.bw (T:=ag.u8) (ys:=[2]) (.p rfl) af underlying22 cP aq rfl rfl ⟨rfl,trivial⟩ aq (fun a3 c3=>?_)
   refine ah.bw (T:=ag.i64) (ys:=[_,_,_]) (.p rfl) af underlying60 FF aq rfl rfl ⟨⟨rfl,by first|assumption|(constructor<;>omega)⟩,⟨rfl,by first|assumption|(constructor<;>omega)⟩,⟨rfl,by first|assumption|(constructor<;>omega)⟩,trivial⟩ aq (fun dF cj=>?_);refine ah.dh (.p rfl) af rfl af rfl rfl (bs:=[ak ag.i64 3 (.slice dF 3 cj) [x.1,x.2.1,x.2.2.1]]) ct (fun m hm hd=>IW (hm.arr.right hd) aH) ?_;rintro _ _ ⟨cS,bE,rfl,rfl⟩;rw [G1];refine ah.bw (T:=ag.val) (ys:=[_,_,_]) (.p rfl) af underlying28 dH aq rfl rfl ⟨⟨rfl,rfl⟩,⟨rfl,rfl⟩,⟨rfl,rfl⟩,trivial⟩ aq (fun eE cN=>?_);refine ah.dh (.p rfl) af rfl af rfl rfl (bs:=[ak ag.val 22 (.slice eE 3 cN) [.slice a3 1 c3,.slice cS (be x.1++(be x.2.1++be x.2.2.1)).length bE,.slice dM x.2.2.2.1.length dN],ak ag.u8 5 (.slice a3 1 c3) [2],ak ag.u8 5 (.slice cS (be x.1++(be x.2.1++be x.2.2.1)).length bE) (be x.1++(be x.2.1++be x.2.2.1))]) ct (fun m hm hd=>mz (xss:=[[2],be x.1++(be x.2.1++be x.2.2.1),x.2.2.2.1]) ((hm.arr.right hd).rows ⟨hm.tail.arr.right hd,hm.tail.tail.arr.right hd,aI.left,trivial⟩) (by rw [hfl];omega)) ?_;rintro _ _ ⟨eF,cO,rfl,rfl⟩;rw [hfl];refine ah.q 1 rfl<|bt.nil<|S.pk ?_ (S.weaken (Sub.app aO (.nil)) (key (eF,cO)))
   try dsimp only
   repeat (first|exact gX|exact gZ|(apply gY;focus (repeat (first|exact fA|apply zt)))|apply g5)
  ·refine e3.bw (T:=ag.i64) (ys:=[_,_,_]) (.p rfl) af underlying60 FF aq rfl rfl ⟨⟨rfl,by first|assumption|(constructor<;>omega)⟩,⟨rfl,by first|assumption|(constructor<;>omega)⟩,⟨rfl,by first|assumption|(constructor<;>omega)⟩,trivial⟩ aq (fun dF cj=>?_)
   refine ah.kZ 0 11 [11,15,16,17] [0,15,16,17] af rfl rfl ?_ ?_
   ·refine e3.bw (T:=ag.u8) (ys:=[2]) (.p rfl) af underlying22 cP aq rfl rfl ⟨rfl,trivial⟩ aq (fun a3 c3=>?_)
    refine ah.dh (.p rfl) af rfl af rfl rfl (bs:=[ak ag.i64 3 (.slice dF 3 cj) [x.1,x.2.1,x.2.2.1]]) ct (fun m hm hd=>IW (hm.arr.right hd) aH) ?_;rintro _ _ ⟨cS,bE,rfl,rfl⟩;rw [G1];refine ah.bw (T:=ag.val) (ys:=[_,_,_]) (.p rfl) af underlying28 dH aq rfl rfl ⟨⟨rfl,rfl⟩,⟨rfl,rfl⟩,⟨rfl,rfl⟩,trivial⟩ aq (fun eE cN=>?_);refine ah.dh (.p rfl) af rfl af rfl rfl (bs:=[ak ag.val 22 (.slice eE 3 cN) [.slice a3 1 c3,.slice cS (be x.1++(be x.2.1++be x.2.2.1)).length bE,.slice dM x.2.2.2.1.length dN],ak ag.u8 5 (.slice a3 1 c3) [2],ak ag.u8 5 (.slice cS (be x.1++(be x.2.1++be x.2.2.1)).length bE) (be x.1++(be x.2.1++be x.2.2.1))]) ct (fun m hm hd=>mz (xss:=[[2],be x.1++(be x.2.1++be x.2.2.1),x.2.2.2.1]) ((hm.arr.right hd).rows ⟨hm.tail.arr.right hd,hm.tail.tail.arr.right hd,aI.left,trivial⟩) (by rw [hfl];omega)) ?_;rintro _ _ ⟨eF,cO,rfl,rfl⟩;rw [hfl];refine ah.q 1 rfl<|bt.nil<|S.pk ?_ (S.weaken (Sub.app aO (.nil)) (key (eF,cO)))
    try dsimp only
    repeat (first|exact gX|exact gZ|(apply gY;focus (repeat (first|exact fA|apply zt)))|apply g5)
   ·refine e3.dh (.p rfl) af rfl af rfl rfl (bs:=[ak ag.i64 3 (.slice dF 3 cj) [x.1,x.2.1,x.2.2.1]]) ct (fun m hm hd=>IW (hm.arr.right hd) aH) ?_
    rintro _ _ ⟨cS,bE,rfl,rfl⟩;rw [G1];refine ah.bw (T:=ag.u8) (ys:=[2]) (.p rfl) af underlying22 cP aq rfl rfl ⟨rfl,trivial⟩ aq (fun a3 c3=>?_);refine ah.bw (T:=ag.val) (ys:=[_,_,_]) (.p rfl) af underlying28 dH aq rfl rfl ⟨⟨rfl,rfl⟩,⟨rfl,rfl⟩,⟨rfl,rfl⟩,trivial⟩ aq (fun eE cN=>?_);refine ah.dh (.p rfl) af rfl af rfl rfl (bs:=[ak ag.val 22 (.slice eE 3 cN) [.slice a3 1 c3,.slice cS (be x.1++(be x.2.1++be x.2.2.1)).length bE,.slice dM x.2.2.2.1.length dN],ak ag.u8 5 (.slice a3 1 c3) [2],ak ag.u8 5 (.slice cS (be x.1++(be x.2.1++be x.2.2.1)).length bE) (be x.1++(be x.2.1++be x.2.2.1))]) ct (fun m hm hd=>mz (xss:=[[2],be x.1++(be x.2.1++be x.2.2.1),x.2.2.2.1]) ((hm.arr.right hd).rows ⟨hm.tail.arr.right hd,hm.tail.tail.arr.right hd,aI.left,trivial⟩) (by rw [hfl];omega)) ?_;rintro _ _ ⟨eF,cO,rfl,rfl⟩;rw [hfl];refine ah.q 1 rfl<|bt.nil<|S.pk ?_ (S.weaken (Sub.app aO (.nil)) (key (eF,cO)))
    try dsimp only
    repeat (first|exact gX|exact gZ|(apply gY;focus (repeat (first|exact fA|apply zt)))|apply g5)
 exact S.rt results273 rfl hR ⟨s.1,s.2,rfl,rfl⟩
theorem ac9 {r:Fr} {b:Nat} {cs:List Value} {x:dD} (hb:cg r ⟨b,0,none⟩ cs) (h:bx.rel r cs x) :
  aj prog 270 (#[]++#[]++#[.pointer (some ⟨b,0,none⟩)]) r [] (dg (fun v aa=>dR x=true∧∃ a c,v=.slice a (bM x).length c∧aa=[ak ag.u8 5 (.slice a (bM x).length c) (bM x)]) (fun ch aa=>∃ z,ch=fJ 39 z∧(dR x=false∧z=4)∧aa=[])):=by
 obtain ⟨dM,jz,dN,jA,rfl,k0,k1,k2,aI,fo⟩:=bx.sh h;refine aj.of (n:=15) [.pointer (some ⟨b,0,none⟩)] rfl func270 rfl rfl rfl fun g hg R hR=>?_;have hb:=hb.mono hg;have h:=h.mono hg;have fo:=fo.mono hg
 cases e:dR x with
 |false =>
  refine U 6 ?_;refine O.op (.p rfl) (.aJ isAgg27 af rfl hb) ?_;refine O.op (.p rfl) (.build (cs:=[_,_,_,_,_]) underlying309 rfl rfl rfl rfl rfl)<|O.aD (.p rfl) (.alloc (cs:=[.int .i64 0,.int .i64 0,.int .i64 0,.slice none 0 0,.slice none 0 0]) zeroValue309 rfl) ?_;rintro _ _ ⟨b2,rfl,rfl⟩;refine U 5 ?_;refine O.v0 (.p rfl) rfl af rfl rfl (Je h) ?_;refine O.aB 6 rfl (by exact e) ?_;refine O.cV (.p rfl) rfl af rfl rfl (P5 _ _) (fun ch au w hX hW=>by (obtain ⟨hb,rfl,rfl⟩:=hX;exact hR _ _ w ⟨4,rfl,⟨e,rfl⟩,rfl⟩ hW.fU)) ?_;rintro _ _ ⟨tf,rfl,rfl⟩;exact absurd tf aH
 |true =>
  have hl:=lZ e;have hfl:[iV x,x.2.2.2.2.1].flatten=bM x:=by simp [bM]
  refine U 6 ?_;refine O.op (.p rfl) (.aJ isAgg27 af rfl hb) ?_;refine O.op (.p rfl) (.build (cs:=[_,_,_,_,_]) underlying309 rfl rfl rfl rfl rfl)<|O.aD (.p rfl) (.alloc (cs:=[.int .i64 0,.int .i64 0,.int .i64 0,.slice none 0 0,.slice none 0 0]) zeroValue309 rfl) ?_;rintro _ _ ⟨b2,rfl,rfl⟩;refine U 5 ?_;refine O.v0 (.p rfl) rfl af rfl rfl (Je h) ?_;refine O.sT 6 rfl (by exact e) ?_;refine O.cV (.p rfl) rfl af rfl rfl (P5 _ _) (fun ch au w hX hW=>by (exact absurd hX.1 aH)) ?_;rintro _ _ ⟨tf,rfl,rfl⟩;refine O.nil<|S.seq<|S.cy an fun g hs hm mM=>?_;replace hg:=bf hg hs;replace hR:=a_ hR hm
  try replace hb:=hb.mono hs
  try replace h:=h.mono hs
  try replace fo:=fo.mono hs
  clear hs hm;refine S.aY (L:=[0,2,3,4,1,5,6,7]) F.mixed af ?_;refine .quiet (.p rfl) rfl (fun _=>.aJ isAgg309 af rfl mM) ?_;refine U 3 ?_;refine ah.aN (.p rfl) af rfl af rfl rfl ((aad h (vc.1 e).1)) ?_;rintro _ _ ⟨a9,bc,rfl,rfl⟩;refine ah.bw (T:=ag.val) (ys:=[_,_]) (.p rfl) af underlying28 dH aq rfl rfl ⟨⟨rfl,rfl⟩,⟨rfl,rfl⟩,trivial⟩ aq (fun dF cj=>?_);refine ah.dh (.p rfl) af rfl af rfl rfl (bs:=[ak ag.val 22 (.slice dF 2 cj) [.slice a9 (iV x).length bc,.slice jz x.2.2.2.2.1.length jA],ak ag.u8 5 (.slice a9 (iV x).length bc) (iV x)]) ct (fun m hm hd=>mz (xss:=[iV x,x.2.2.2.2.1]) ((hm.arr.right hd).rows ⟨hm.tail.arr.right hd,fo.left,trivial⟩) (by rw [hfl];omega)) ?_;rintro _ _ ⟨cS,bE,rfl,rfl⟩;rw [hfl];refine U 2 ?_;exact S.rt results270 rfl hR ⟨e,cS,bE,rfl,rfl⟩
theorem ac0 {r:Fr} {first cap:Array Value} {x:dD} (con:aj prog 270 (first++#[]++cap) r [] (dg (fun v aa=>dR x=true∧∃ a c,v=.slice a (bM x).length c∧aa=[ak ag.u8 5 (.slice a (bM x).length c) (bM x)]) (fun ch aa=>∃ z,ch=fJ 39 z∧(dR x=false∧z=4)∧aa=[]))) (h1:(Value.func (.func 270) first cap).oneCell' =true:=by rfl) :
  aj prog 269 #[.func (.func 270) first cap] r [] (aF fun v aa=>∃ a c,v=.tuple #[.slice a (fZ x).length c,.int .i64 (mw x)]∧aa=[ak ag.u8 5 (.slice a (fZ x).length c) (fZ x)]) :=
 (adm af h1 (fun _ _ h=>by obtain ⟨_,_,_,rfl,_⟩:=h;rfl) con).post fun e aa h w g hw=>by
  cases e with
  |returned v =>
   rcases h with ⟨u,⟨hs,a,c,rfl,rfl⟩,rfl⟩|⟨z,⟨hs,rfl⟩,rfl,rfl⟩
   ·exact ⟨_,⟨a,c,by simp [fZ,mw,hs],rfl⟩,by simpa [fZ,hs] using hw⟩
   ·exact ⟨_,⟨none,0,by simp [fZ,mw,hs],rfl⟩,by simp only [fZ,hs];exact hw.imp fun m x=>⟨Fr.emp,m,Fr.eA _,Fr.dY _,Fr.bH _,yA _,x⟩⟩
  |panicked _=>exact h.elim
  |outgrown=>exact h.elim
theorem yQ {r:Fr} {cs:List Value} {x:dD} (h:bx.rel r cs x) :
  aj prog 233 #[.agg cs.toArray] r [] (aF fun v aa=>∃ a c,v=.tuple #[.slice a (fZ x).length c,.int .i64 (mw x)]∧aa=[ak ag.u8 5 (.slice a (fZ x).length c) (fZ x)]):=by
 obtain ⟨dM,jz,dN,jA,rfl,k0,k1,k2,aI,fo⟩:=bx.sh h;refine aj.o func233 fun g hg R hR=>?_;have h:=h.mono hg;refine S.seq<|S.region rfl<|O.aD (.p rfl) (.box (cs:=[_,_,_,_,_]) rfl rfl) ?_;rintro _ _ ⟨b1,rfl,rfl⟩;refine U 4 ?_;refine S.cy an fun g hs hm cK=>?_;replace hg:=bf hg hs;replace hR:=a_ hR hm
 try replace h:=h.mono hs
 clear hs hm;refine U 2 ?_;refine O.aN (.p rfl) rfl af rfl rfl ((ac0 (ac9 cK h))) ?_;rintro _ _ ⟨a5,cD,rfl,rfl⟩;refine O.q 4 rfl<|O.nil<|S.kA results233 rfl rfl fun w hw=>ax.end_ hR hw ?_;exact pk ⟨a5,cD,rfl,rfl⟩
theorem Xm {r:Fr} {va:Value} {xs:List dD} {f:FuncId} {first cap:Array Value} (ha:av bx r va xs) (hc:ed prog f=true) (q:dD→Bool)
  (con:∀ cs x,x∈xs→bx.rel r cs x→aj prog f (first++#[.agg cs.toArray]++cap) r [] (aF fun v aa=>v=.bool (q x)∧aa=[])) :
  aj prog 372 #[va,.func (.func f) first cap] r [] (aF fun v aa=>∃ k:Int,v=.int .i64 k∧(0≤k↔xs.any q=true)∧aa=[]):=by
 have har:=ha;refine aj.of (n:=19) [va,.func (.func f) first cap] rfl func372 rfl rfl rfl fun g hg R hR=>?_;have ha:=ha.mono hg;have hbd:=ha.bound;obtain ⟨a1,c1,rfl⟩:=ha.shape;refine U 12 ?_;refine S.ev (ι:=Nat) (fun i=>i≤xs.length∧(xs.take i).any q=false) (fun i=>[(8,.int .i64 (i:Int))]) [(0,_),(1,_),(7,_)] (fun i=>[]) (fun i=>xs.length - i) (0) BD aO aO rfl fun i hx ih=>?_;have aW:=bS (g:=g);obtain ⟨hx1,b8⟩:=hx;refine U 5 ?_;refine S.cd rfl (fun h9=>?_) fun h9=>?_
 ·have hi:i<xs.length:=by omega
  cases e:q xs[i] with
  |true =>
   have hy:xs.any q=true:=List.any_eq_true.2 ⟨xs[i],List.getElem_mem hi,e⟩;clear ih;refine U 13 ?_;refine O.ew har hg (h:=fun bN uE pR mo=>?_);have nF:=ag.rel.mono mo hg;obtain ⟨ac1,ac2,ac4,ac5,rfl,Vs,Vx,VD,Uv,UC⟩:=bx.sh nF;refine O.op (.p rfl) (.aJ isAgg27 af rfl pR) ?_;refine O.v0 (.p rfl) rfl hc rfl rfl (((con _ _ (List.getElem_mem hi) mo).sub hg)) ?_;refine O.sT 16 rfl (by exact e) ?_;refine U 7 ?_;exact S.rt results372 rfl hR ⟨(i:Int),rfl,⟨fun _=>hy,fun _=>by omega⟩,rfl⟩
  |false =>
   refine U 13 ?_;refine O.ew har hg (h:=fun bN uE pR mo=>?_);have nF:=ag.rel.mono mo hg;obtain ⟨ac1,ac2,ac4,ac5,rfl,Vs,Vx,VD,Uv,UC⟩:=bx.sh nF;refine O.op (.p rfl) (.aJ isAgg27 af rfl pR) ?_;refine O.v0 (.p rfl) rfl hc rfl rfl (((con _ _ (List.getElem_mem hi) mo).sub hg)) ?_;refine O.aB 16 rfl (by exact e)<|U 8 ?_;exact S.cF (ih (i+1) (by exact ⟨by omega,by rw [j9 hi,List.any_append,b8];simp [e]⟩) ai)
 ·clear ih
  have hi:i=xs.length:=by omega
  subst hi;rw [List.take_length] at b8;refine U 5 ?_;exact S.rt results372 rfl hR ⟨-1,rfl,⟨fun h=>absurd h aq,fun h=>by rw [b8] at h;cases h⟩,rfl⟩
theorem RV {r:Fr} {va:Value} {xs:List dD} {f:FuncId} {first cap:Array Value} (ha:av bx r va xs) (hc:ed prog f=true) (q:dD→Bool)
  (con:∀ cs x,x∈xs→bx.rel r cs x→aj prog f (first++#[.agg cs.toArray]++cap) r [] (aF fun v aa=>v=.bool (q x)∧aa=[])) (h1:(Value.func (.func f) first cap).oneCell' =true) :
  aj prog 362 #[va,.func (.func f) first cap] r [] (aF fun v aa=>v=.bool (xs.any q)∧aa=[]):=by
 refine aj.of (n:=9) [va,.func (.func f) first cap] rfl func362 rfl rfl rfl fun g hg R hR=>?_;refine U 8 ?_;refine O.aN (.p rfl) rfl af rfl rfl (((Xm ha hc q con).sub hg)) ?_;rintro uf _ ⟨pW,rfl,Ai,rfl⟩;refine U 3 ?_;exact S.rt results362 rfl hR ⟨congrArg _ (by rw [Bool.eq_iff_iff,decide_eq_true_iff];exact Ai),rfl⟩
theorem Q1 {r:Fr} {b:Nat} {cs:List Value} {x:dD} (hb:cg r ⟨b,0,none⟩ [.func (.func 302) #[] #[]]) (h:bx.rel r cs x) :
  aj prog 363 (#[]++#[.agg cs.toArray]++#[.pointer (some ⟨b,0,none⟩)]) r [] (aF fun v aa=>v=.bool (!dR x)∧aa=[]):=by
 obtain ⟨dM,jz,dN,jA,rfl,k0,k1,k2,aI,fo⟩:=bx.sh h;refine aj.of (n:=8) [.agg #[.int .i64 x.1,.int .i64 x.2.1,.int .i64 x.2.2.1,.slice dM x.2.2.2.1.length dN,.slice jz x.2.2.2.2.1.length jA],.pointer (some ⟨b,0,none⟩)] rfl func363 rfl rfl rfl fun g hg R hR=>?_;have h:=h.mono hg;have hb:=hb.mono hg;refine S.seq<|S.region rfl<|O.aD (.p rfl) (.box (cs:=[_,_,_,_,_]) rfl rfl) ?_;rintro _ _ ⟨b2,rfl,rfl⟩;refine U 6 ?_;refine O.v0 (.p rfl) rfl af rfl rfl (acZ h) ?_;refine U 3 ?_;exact S.rt results363 rfl hR ⟨rfl,rfl⟩
theorem LD {r:Fr} {va:Value} {l:List dD} (ha:av bx r va l) :
  aj prog 348 #[.func (.func 302) #[] #[],va] r [] (aF fun v aa=>v=.bool (l.all dR)∧aa=[]):=by
 refine aj.o func348 fun g hg R hR=>?_;have ha:=ha.mono hg;obtain ⟨a1,c1,rfl⟩:=ha.shape;refine S.seq<|S.region rfl<|O.aD (.p rfl) (.box (cs:=[_]) rfl rfl) ?_;rintro _ _ ⟨b2,rfl,rfl⟩;refine U 3 ?_;refine S.cy an fun g hs hm mM=>?_;replace hg:=bf hg hs;replace hR:=a_ hR hm
 try replace ha:=ha.mono hs
 clear hs hm;refine U 3 ?_;refine O.v0 (.p rfl) rfl af rfl rfl ((RV ha af (fun x=>!dR x) (fun cs x _ h=>Q1 mM h) rfl)) ?_;refine U 3 ?_;exact S.rt results348 rfl hR ⟨by rw [List.all_eq_not_any_not],rfl⟩
theorem Re {r:Fr} {va gr:Value} {xs ys:List UInt8} (ha:av ag.u8 r va xs) (hb:av ag.u8 r gr ys):aj prog 349 #[va,gr] r [] (aF fun v aa=>v=.int .i64 (Lib.compareBytes xs ys)∧aa=[]):=by
 refine aj.o func349 fun g hg R hR=>?_;have ha:=ha.mono hg;have hb:=hb.mono hg;obtain ⟨a1,c1,rfl⟩:=ha.shape;obtain ⟨a2,c2,rfl⟩:=hb.shape;refine U 8 ?_;refine O.op (.p rfl) (.RO func364 af rfl af af rfl rfl rfl ha hb)<|U 2 ?_;exact S.rt results349 rfl hR ⟨rfl,rfl⟩
theorem Z3 {r:Fr} {cs:List Value} {e:gh} (h:eK.rel r cs e):aj prog 327 #[.agg cs.toArray] r [] (aF fun v aa=>v=.agg cs.toArray∧aa=[]):=by
 obtain ⟨dM,jz,sF,sG,dN,jA,sH,sI,rfl,_⟩:=eK.sh h;refine aj.o func327 fun g hg R hR=>?_;refine S.seq<|S.region rfl<|O.aD (.p rfl) (.box (cs:=[_,_,_,_,_,_,_,_,_,_]) rfl rfl) ?_;rintro _ _ ⟨b1,rfl,rfl⟩;refine O.aD (.p rfl) (.alloc (cs:=[.int .i64 0,.int .i64 0,.int .i64 0,.slice none 0 0,.slice none 0 0,.int .i64 0,.int .i64 0,.int .i64 0,.slice none 0 0,.slice none 0 0]) zeroValue347 rfl) ?_;rintro _ _ ⟨b2,rfl,rfl⟩;refine U 7 ?_;refine O.op (.p rfl) (.build (cs:=[_,_,_,_,_,_,_,_,_,_]) underlying347 rfl rfl rfl rfl rfl) ?_;refine U 1 ?_;refine O.nil<|S.mW results327 isAgg347 af rfl an fun w hw=>ax.end_ hR hw ?_;exact pk ⟨rfl,rfl⟩
theorem eK.two {h:Fr} {e:gh} {a3 a4 a8 a9:Option Addr} {c3 bR bk bc:Nat} (r:eK.rel h [.int .i64 e.1.1,.int .i64 e.1.2.1,.int .i64 e.1.2.2.1,.slice a3 e.1.2.2.2.1.length c3,.slice a4 e.1.2.2.2.2.1.length bR,.int .i64 e.2.1.1,.int .i64 e.2.1.2.1,.int .i64 e.2.1.2.2.1,.slice a8 e.2.1.2.2.2.1.length bk,.slice a9 e.2.1.2.2.2.2.1.length bc] e) :
  bx.rel h [.int .i64 e.1.1,.int .i64 e.1.2.1,.int .i64 e.1.2.2.1,.slice a3 e.1.2.2.2.1.length c3,.slice a4 e.1.2.2.2.2.1.length bR] e.1∧bx.rel h [.int .i64 e.2.1.1,.int .i64 e.2.1.2.1,.int .i64 e.2.1.2.2.1,.slice a8 e.2.1.2.2.2.1.length bk,.slice a9 e.2.1.2.2.2.2.1.length bc] e.2.1:=by
 obtain ⟨v3,v4,ey,eD,hc,h0,h1,h2,h3,h4,h5,h6,h7,h8,h9⟩:=eK.open r
 injection hc with _ hc;injection hc with _ hc;injection hc with _ hc;injection hc with cZ hc;injection hc with fV hc
 injection hc with _ hc;injection hc with _ hc;injection hc with _ hc;injection hc with lF hc;injection hc with kI hc
 subst cZ fV lF kI;exact ⟨bx.mk h0 h1 h2 h3 h4,bx.mk h5 h6 h7 h8 h9⟩
theorem SN {r:Fr} {cs:List Value} {e:gh} (h:eK.rel r cs e):aj prog 328 #[.agg cs.toArray] r [] (aF fun v aa=>v=.int .i64 (kJ e.1 e.2.1)∧aa=[]):=by
 obtain ⟨dM,jz,sF,sG,dN,jA,sH,sI,rfl,_,_,_,aI,_,_,_,_,iQ,_⟩:=eK.sh h;obtain ⟨h1,h2⟩:=eK.two h;refine aj.o func328 fun g hg R hR=>?_;have h1:=h1.mono hg;have h2:=h2.mono hg;have aI:=aI.mono hg;have iQ:=iQ.mono hg;refine S.seq<|S.region rfl<|O.aD (.p rfl) (.box (cs:=[_,_,_,_,_,_,_,_,_,_]) rfl rfl) ?_;rintro _ _ ⟨b1,rfl,rfl⟩;refine U 6 ?_;refine O.aD (.p rfl) (.alloc (cs:=[.int .i64 0,.int .i64 0,.int .i64 0,.slice none 0 0,.slice none 0 0]) zeroValue27 rfl) ?_;rintro _ _ ⟨b3,rfl,rfl⟩;refine U 1 ?_;refine O.nil<|S.seq<|S.seq<|S.cH (b:=b3) (cs' :=[.int .i64 e.2.1.1,.int .i64 e.2.1.2.1,.int .i64 e.2.1.2.2.1,.slice sF e.2.1.2.2.2.1.length sH,.slice sG e.2.1.2.2.2.2.1.length sI]) an rfl ?_
 cases zN:[e.1,e.2.1].all dR with
 |false =>
  have e0:kJ e.1 e.2.1=0:=if_neg fun q=>by
   simp only [List.all_cons,q.1,q.2.1,List.all_nil] at zN
   cases zN
  refine U 4 ?_;refine O.aD (.p rfl) (.bw (T:=(ag.cells 5)) (ys:=[_,_]) underlying237 uI aq rfl rfl ⟨⟨rfl,rfl,by first|(simp;done)|(intro v hv;simp [Value.cells] at hv;rcases hv with rfl|rfl<;>rfl)|(refine List.forall_mem_cons.2 ⟨rfl,?_⟩;repeat (first|exact (fun _ h=>absurd h List.not_mem_nil)|refine List.forall_mem_cons.2 ⟨rfl,?_⟩))⟩,⟨rfl,rfl,by first|(simp;done)|(intro v hv;simp [Value.cells] at hv;rcases hv with rfl|rfl<;>rfl)|(refine List.forall_mem_cons.2 ⟨rfl,?_⟩;repeat (first|exact (fun _ h=>absurd h List.not_mem_nil)|refine List.forall_mem_cons.2 ⟨rfl,?_⟩))⟩,trivial⟩ aq) ?_;rintro _ _ ⟨a9,bc,rfl,rfl⟩;refine O.gH an fun g hs hm GB=>?_;replace hg:=bf hg hs;replace hR:=a_ hR hm
  try replace h1:=h1.mono hs
  try replace h2:=h2.mono hs
  try replace aI:=aI.mono hs
  try replace iQ:=iQ.mono hs
  clear hs hm;refine O.v0 (.p rfl) rfl af rfl rfl ((LD (l:=[e.1,e.2.1]) (av.pZ GB ⟨h1,h2,trivial⟩ rfl))) ?_;refine O.aB 10 rfl (by exact zN) ?_;refine U 31 ?_;exact S.rt results328 rfl hR ⟨by rw [e0],rfl⟩
 |true =>
  have e1:dR e.1=true∧dR e.2.1=true:=by simpa using zN
  refine U 4 ?_;refine O.aD (.p rfl) (.bw (T:=(ag.cells 5)) (ys:=[_,_]) underlying237 uI aq rfl rfl ⟨⟨rfl,rfl,by first|(simp;done)|(intro v hv;simp [Value.cells] at hv;rcases hv with rfl|rfl<;>rfl)|(refine List.forall_mem_cons.2 ⟨rfl,?_⟩;repeat (first|exact (fun _ h=>absurd h List.not_mem_nil)|refine List.forall_mem_cons.2 ⟨rfl,?_⟩))⟩,⟨rfl,rfl,by first|(simp;done)|(intro v hv;simp [Value.cells] at hv;rcases hv with rfl|rfl<;>rfl)|(refine List.forall_mem_cons.2 ⟨rfl,?_⟩;repeat (first|exact (fun _ h=>absurd h List.not_mem_nil)|refine List.forall_mem_cons.2 ⟨rfl,?_⟩))⟩,trivial⟩ aq) ?_;rintro _ _ ⟨a9,bc,rfl,rfl⟩;refine O.gH an fun g hs hm GB=>?_;replace hg:=bf hg hs;replace hR:=a_ hR hm
  try replace h1:=h1.mono hs
  try replace h2:=h2.mono hs
  try replace aI:=aI.mono hs
  try replace iQ:=iQ.mono hs
  clear hs hm;refine O.v0 (.p rfl) rfl af rfl rfl ((LD (l:=[e.1,e.2.1]) (av.pZ GB ⟨h1,h2,trivial⟩ rfl))) ?_;refine O.sT 10 rfl (by exact zN) ?_;refine U 10 ?_
  refine O.cs 20 rfl (fun gI=>?_) fun gI=>?_
  ·refine U 21 ?_
   refine S.ret results328 rfl fun w hw=>ax.end_ hR hw ?_
   first|exact ⟨_,⟨by simp only [kJ];rw [if_neg (fun q=>absurd q.2.2.1 ay)],rfl⟩,aC⟩|exact ⟨_,⟨by simp only [kJ];rw [if_neg (fun q=>absurd q.2.2.2.1 ay)],rfl⟩,aC⟩|exact ⟨_,⟨by simp only [kJ];rw [if_neg (fun q=>absurd q.2.2.2.2 ay)],rfl⟩,aC⟩|exact ⟨_,⟨by simp only [kJ];rw [if_pos ⟨e1.1,e1.2,Classical.not_not.1 ay,Classical.not_not.1 ay,Classical.not_not.1 ay⟩],rfl⟩,aC⟩
  ·refine U 8 ?_
   refine O.cs 28 rfl (fun k8=>?_) fun k8=>?_
   ·refine U 13 ?_
    refine S.ret results328 rfl fun w hw=>ax.end_ hR hw ?_
    first|exact ⟨_,⟨by simp only [kJ];rw [if_neg (fun q=>absurd q.2.2.1 ay)],rfl⟩,aC⟩|exact ⟨_,⟨by simp only [kJ];rw [if_neg (fun q=>absurd q.2.2.2.1 ay)],rfl⟩,aC⟩|exact ⟨_,⟨by simp only [kJ];rw [if_neg (fun q=>absurd q.2.2.2.2 ay)],rfl⟩,aC⟩|exact ⟨_,⟨by simp only [kJ];rw [if_pos ⟨e1.1,e1.2,Classical.not_not.1 ay,Classical.not_not.1 ay,Classical.not_not.1 ay⟩],rfl⟩,aC⟩
   ·refine U 8 ?_
    refine S.cd rfl (fun zY=>?_) fun zY=>?_
    ·refine U 4 ?_
     refine S.ret results328 rfl fun w hw=>ax.end_ hR hw ?_
     first|exact ⟨_,⟨by simp only [kJ];rw [if_neg (fun q=>absurd q.2.2.1 ay)],rfl⟩,aC⟩|exact ⟨_,⟨by simp only [kJ];rw [if_neg (fun q=>absurd q.2.2.2.1 ay)],rfl⟩,aC⟩|exact ⟨_,⟨by simp only [kJ];rw [if_neg (fun q=>absurd q.2.2.2.2 ay)],rfl⟩,aC⟩|exact ⟨_,⟨by simp only [kJ];rw [if_pos ⟨e1.1,e1.2,Classical.not_not.1 ay,Classical.not_not.1 ay,Classical.not_not.1 ay⟩],rfl⟩,aC⟩
    ·refine U 8 ?_
     refine O.v0 (.p rfl) rfl af rfl rfl (Re bq bq) ?_;refine O.q 1 rfl<|O.nil<|S.ret results328 rfl fun w hw=>ax.end_ hR hw ?_
     first|exact ⟨_,⟨by simp only [kJ];rw [if_neg (fun q=>absurd q.2.2.1 ay)],rfl⟩,aC⟩|exact ⟨_,⟨by simp only [kJ];rw [if_neg (fun q=>absurd q.2.2.2.1 ay)],rfl⟩,aC⟩|exact ⟨_,⟨by simp only [kJ];rw [if_neg (fun q=>absurd q.2.2.2.2 ay)],rfl⟩,aC⟩|exact ⟨_,⟨by simp only [kJ];rw [if_pos ⟨e1.1,e1.2,Classical.not_not.1 ay,Classical.not_not.1 ay,Classical.not_not.1 ay⟩],rfl⟩,aC⟩
theorem LB {r:Fr} {cs:List Value} {e:gh} (h:eK.rel r cs e):aj prog 291 #[.agg cs.toArray] r [] (aF fun v aa=>v=.bool (k6 e)∧aa=[]):=by
 obtain ⟨dM,jz,sF,sG,dN,jA,sH,sI,rfl,_⟩:=eK.sh h;refine aj.o func291 fun g hg R hR=>?_;have h:=h.mono hg;refine S.seq<|S.region rfl<|O.aD (.p rfl) (.box (cs:=[_,_,_,_,_,_,_,_,_,_]) rfl rfl) ?_;rintro _ _ ⟨b1,rfl,rfl⟩;refine U 5 ?_;refine O.v0 (.p rfl) rfl af rfl rfl (Z3 h) ?_;refine O.v0 (.p rfl) rfl af rfl rfl (SN h) ?_;refine U 3 ?_;exact S.rt results291 rfl hR ⟨rfl,rfl⟩
theorem LA {r:Fr} {cs:List Value} {e:gh} (h:eK.rel r cs e) :
  aj prog 247 #[.agg cs.toArray] r [] (aF fun v aa=>∃ a c,v=.tuple #[.slice a (kK e).length c,.int .i64 (n_ e)]∧aa=[ak ag.u8 5 (.slice a (kK e).length c) (kK e)]):=by
 obtain ⟨dM,jz,sF,sG,dN,jA,sH,sI,rfl,_⟩:=eK.sh h;obtain ⟨h1,h2⟩:=eK.two h;refine aj.o func247 fun g hg R hR=>?_;have h:=h.mono hg;have h1:=h1.mono hg;have h2:=h2.mono hg
 cases rM:k6 e with
 |false =>
  have e1:kK e=[]:=by simp [kK,rM]
  have e2:n_ e=4:=by simp [n_,rM]
  rw [e1,e2] at hR;refine S.seq<|S.region rfl<|O.aD (.p rfl) (.box (cs:=[_,_,_,_,_,_,_,_,_,_]) rfl rfl) ?_;rintro _ _ ⟨b1,rfl,rfl⟩;refine U 7 ?_;refine O.v0 (.p rfl) rfl af rfl rfl (LB h) ?_;refine O.aB 9 rfl (by exact rM) ?_;refine U 8 ?_;refine S.l_ (T:=ag.u8) (e:=5) ?_;refine S.kA results247 rfl rfl fun w hw=>ax.end_ hR hw ?_;exact pk ⟨none,0,rfl,rfl⟩
 |true =>
  have e1:kK e=j0 e:=by simp [kK,rM]
  have e2:n_ e=0:=by simp [n_,rM]
  have ho:=xY.1 rM;have o1:fZ e.1=bM e.1:=by simp [fZ,ho.1]
  have o2:fZ e.2.1=bM e.2.1:=by simp [fZ,ho.2.1]
  have l1:=lZ ho.1;have l2:=lZ ho.2.1;have hl:=xX rM;have hfl:[bytesOf (bM e.1),bytesOf (bM e.2.1)].flatten=j0 e:=by simp [j0]
  rw [e1,e2] at hR;refine S.seq<|S.region rfl<|O.aD (.p rfl) (.box (cs:=[_,_,_,_,_,_,_,_,_,_]) rfl rfl) ?_;rintro _ _ ⟨b1,rfl,rfl⟩;refine U 7 ?_;refine O.v0 (.p rfl) rfl af rfl rfl (LB h) ?_;refine O.sT 9 rfl (by exact rM) ?_;refine U 8 ?_;refine O.aN (.p rfl) rfl af rfl rfl (yQ h1) ?_;rintro _ _ ⟨cS,bE,rfl,rfl⟩;rw [o1];refine U 10 ?_;refine O.aN (.p rfl) rfl af rfl rfl (yQ h2) ?_;rintro _ _ ⟨qo,eM,rfl,rfl⟩;rw [o2];refine U 7 ?_;refine S.gH an fun g hs hm hone=>?_;replace hg:=bf hg hs;replace hR:=a_ hR hm
  try replace h:=h.mono hs
  try replace h1:=h1.mono hs
  try replace h2:=h2.mono hs
  clear hs hm;refine S.gH an fun g hs hm M3=>?_;replace hg:=bf hg hs;replace hR:=a_ hR hm
  try replace h:=h.mono hs
  try replace h1:=h1.mono hs
  try replace h2:=h2.mono hs
  try replace hone:=hone.mono hs
  clear hs hm;refine U 2 ?_;refine O.aN (.p rfl) rfl af rfl rfl (nS bq bl) ?_;rintro _ _ ⟨gO,dw,rfl,rfl⟩;refine O.q 1 rfl<|O.aN (.p rfl) rfl af rfl rfl (nS bq bl) ?_;rintro _ _ ⟨cX,bI,rfl,rfl⟩;refine O.aD (.p rfl) (.bw (T:=ag.val) (ys:=[_,_]) underlying28 dH aq rfl rfl ⟨⟨rfl,rfl⟩,⟨rfl,rfl⟩,trivial⟩ aq) ?_;rintro _ _ ⟨dX,cq,rfl,rfl⟩;refine O.dh (.p rfl) rfl af rfl rfl (bs:=[ak ag.val 22 (.slice dX 2 cq) [.slice gO (bytesOf (bM e.1)).length dw,.slice cX (bytesOf (bM e.2.1)).length bI],ak ag.u8 5 (.slice gO (bytesOf (bM e.1)).length dw) (bytesOf (bM e.1)),ak ag.u8 5 (.slice cX (bytesOf (bM e.2.1)).length bI) (bytesOf (bM e.2.1))]) ct (fun m hm hd=>mz (xss:=[bytesOf (bM e.1),bytesOf (bM e.2.1)]) ((hm.arr.right hd).rows ⟨hm.tail.arr.right hd,hm.tail.tail.arr.right hd,trivial⟩) (by rw [hfl];omega)) ?_;rintro _ _ ⟨xD,fl,rfl,rfl⟩;rw [hfl];refine O.q 2 rfl<|O.nil<|S.kA results247 rfl rfl fun w hw=>ax.end_ hR hw ?_;exact pk ⟨xD,fl,rfl,rfl⟩
end Go.Proofs.YtdjoggpacmpfnaaGreatDoor
