/- Texts of this proof. -/
import Derived.Test.YtojafegjlahajaaGreatDoorQSib1
open Go Go.Sp Go.Proofs.Tryz
set_option maxRecDepth 100000
set_option maxHeartbeats 1000000
attribute [local irreducible] obj Own av
namespace Go.Proofs.YtojafegjlahajaaGreatDoor
theorem Sg {r:Fr} {va:Value} {xs:List aP} {f:FuncId} {first cap:Array Value} (ha:aj bO r va xs) (hc:dG prog f=true) (q:aP→Bool)
  (con:∀ cs x,x∈xs→bO.rel r cs x→ay prog f (first++#[.agg cs.toArray]++cap) r [] (aL fun v U=>v=.bool (q x)∧U=[])) :
  ay prog 331 #[va,.func (.func f) first cap] r [] (aL fun v U=>∃ k:Int,v=.int .i64 k∧(0≤k↔xs.any q=true)∧U=[]):=by
 have har:=ha;refine ay.of (n:=19) [va,.func (.func f) first cap] rfl func331 rfl rfl rfl fun g hg R hR=>?_;have ha:=ha.mono hg;have hbd:=ha.bound;obtain ⟨a1,c1,rfl⟩:=ha.shape;refine S.seq<|S.region rfl<|O.q 1 rfl<|O.nil<|S.seq<|S.seq<|S.region rfl<|O.q 1 rfl<|O.op (.p rfl) (.len rfl underlying216 rfl)<|O.q 1 rfl<|O.nil<|S.block<|S.eM (ι:=Nat) (fun i=>i≤xs.length∧(xs.take i).any q=false) (fun i=>[(8,.int .i64 (i:Int))]) [(0,_),(1,_),(7,_)] (fun i=>[]) (fun i=>xs.length - i) (0) (by exact ⟨by simp,by simp⟩) (.cons rfl (.nil)) (.cons rfl (.cons rfl (.cons rfl (.nil)))) rfl fun i hx ih=>?_;have bh:=cH (g:=g);obtain ⟨hx1,hx2⟩:=hx;refine S.seq<|S.region rfl<|O.op (.p rfl) (.lss rfl rfl)<|O.nil (S.seq ?_)
 first|refine S.cm rfl (fun h9=>?_) (fun h9=>?_)|refine S.b_ rfl (fun h9=>?_) (fun h9=>?_)
 ·have hi:i<xs.length:=by omega
  cases e:q xs[i] with
  |true =>
   have hy:xs.any q=true:=List.any_eq_true.2 ⟨xs[i],List.getElem_mem hi,e⟩;clear ih;refine S.skip<|S.seq<|S.block<|S.seq<|S.region rfl<|O.q 2 rfl<|O.nil<|S.seq<|S.region rfl<|O.q 3 rfl<|O.ib (.p rfl) underlying216 gC rfl rfl rfl har hg (h:=fun sw s9 kX mc=>?_);have kY:=ag.rel.mono mc hg;obtain ⟨RG,RK,RO,RT,RY,R3,R7,Sa,rfl,Q1,Pr⟩:=bO.sh kY;refine O.op (.p rfl) (.bE isAgg220 aa rfl kX) ?_;refine O.aC (.p rfl) rfl hc rfl rfl (((con _ _ (List.getElem_mem hi) mc).sub hg)) ?_;rintro _ _ ⟨rfl,rfl⟩
   try simp only [an,aq,au]
   refine O.sT 16 rfl (by exact e) ?_;refine O.nil<|S.bx rfl<|S.seq<|S.region rfl<|O.q 2 rfl<|O.nil ?_;exact S.rt results331 rfl hR ⟨(i:Int),rfl,⟨fun _=>hy,fun _=>by omega⟩,rfl⟩
  |false =>
   refine S.skip<|S.seq<|S.block<|S.seq<|S.region rfl<|O.q 2 rfl<|O.nil<|S.seq<|S.region rfl<|O.q 3 rfl<|O.ib (.p rfl) underlying216 gC rfl rfl rfl har hg (h:=fun sw s9 kX mc=>?_);have kY:=ag.rel.mono mc hg;obtain ⟨RG,RK,RO,RT,RY,R3,R7,Sa,rfl,Q1,Pr⟩:=bO.sh kY;refine O.op (.p rfl) (.bE isAgg220 aa rfl kX) ?_;refine O.aC (.p rfl) rfl hc rfl rfl (((con _ _ (List.getElem_mem hi) mc).sub hg)) ?_;rintro _ _ ⟨rfl,rfl⟩
   try simp only [an,aq,au]
   refine O.aM 16 rfl (by exact e) ?_;refine O.nil<|S.aQ rfl<|S.skip<|S.inBlock<|S.region rfl<|O.op (.p rfl) (.add rfl rfl (IntWalk.i64_in _ ah))<|O.q 1 rfl<|O.nil ?_;exact S.dD (ih (i+1) (by exact ⟨by omega,by rw [List.take_succ_eq_append_getElem hi,List.any_append,hx2];simp [e]⟩) ah)
 ·clear ih
  have hi:i=xs.length:=by omega
  subst hi;rw [List.take_length] at hx2;refine S.exit rfl<|S.seq<|S.region rfl<|O.q 1 rfl<|O.nil ?_;exact S.rt results331 rfl hR ⟨-1,rfl,⟨fun h=>absurd h aB,fun h=>by rw [hx2] at h;cases h⟩,rfl⟩
theorem ND {r:Fr} {va:Value} {xs:List aP} {f:FuncId} {first cap:Array Value} (ha:aj bO r va xs) (hc:dG prog f=true) (q:aP→Bool)
  (con:∀ cs x,x∈xs→bO.rel r cs x→ay prog f (first++#[.agg cs.toArray]++cap) r [] (aL fun v U=>v=.bool (q x)∧U=[])) (h1:(Value.func (.func f) first cap).oneCell' =true) :
  ay prog 295 #[va,.func (.func f) first cap] r [] (aL fun v U=>v=.bool (xs.any q)∧U=[]):=by
 refine ay.of (n:=9) [va,.func (.func f) first cap] rfl func295 rfl rfl rfl fun g hg R hR=>?_;refine S.seq<|S.region rfl<|O.q 1 rfl<|O.nil<|S.seq<|S.region rfl<|O.q 2 rfl<|O.aC (.p rfl) rfl aa rfl rfl (((Sg ha hc q con).sub hg)) ?_;rintro mB _ ⟨S9,rfl,DS,rfl⟩
 try simp only [an,aq,au]
 refine O.op (.p rfl) (.geq rfl rfl)<|O.q 1 rfl<|O.nil ?_;exact S.rt results295 rfl hR ⟨congrArg _ (by rw [Bool.eq_iff_iff,decide_eq_true_iff];exact DS),rfl⟩
theorem X7 {r:Fr} {b:Nat} {cs ds:List Value} {x y:aP} (hx:At r ⟨b,0,none⟩ cs) (h:bO.rel r cs x) (h' :bO.rel r ds y) :
  ay prog 296 (#[]++#[.agg ds.toArray]++#[.pointer (some ⟨b,0,none⟩)]) r [] (aL fun v U=>v=.bool (decide (dU x y≠0) && over y x)∧U=[]):=by
 obtain ⟨iH,pV,oJ,Bv,iI,pW,oK,Bx,rfl,hx1,_⟩:=bO.sh h;obtain ⟨uH,uI,uJ,BA,uK,uL,uM,BB,rfl,hy1,_⟩:=bO.sh h';refine ay.of (n:=15) [.agg #[.string (str y.1),.int .i64 y.2.1,.int .i64 y.2.2.1,.slice uH y.2.2.2.1.length uK,.bool y.2.2.2.2.1,.slice uI y.2.2.2.2.2.1.length uL,.slice uJ y.2.2.2.2.2.2.1.length uM,.slice BA (cn y).length BB],.pointer (some ⟨b,0,none⟩)] rfl func296 rfl rfl rfl fun g hg R hR=>?_;have hx:=hx.mono hg;have h:=h.mono hg;have h' :=h'.mono hg;have hx1:=hx1.mono hg;have hy1:=hy1.mono hg
 by_cases e:dU x y=0
 ·
  refine S.seq<|S.region rfl<|O.aN (.p rfl) (.box (cs:=[_,_,_,_,_,_,_,_]) rfl rfl) ?_;rintro _ _ ⟨b2,rfl,rfl⟩;refine O.q 1 rfl<|O.nil<|S.seq<|S.region rfl<|O.op (.p rfl) (.bE isAgg220 aa rfl hx) ?_;refine O.op (.p rfl) (.gZ (news:=[_,_,_,_,_,_,_,_]) isAgg220) ?_;refine O.aC (.p rfl) rfl aa rfl rfl (uz h h') ?_;rintro _ _ ⟨rfl,rfl⟩
  try simp only [an,aq,au]
  refine O.op (.p rfl) (.neq rfl rfl)<|O.aM 7 rfl (by simp [e]) ?_;refine O.q 8 rfl<|O.nil ?_;exact S.rt results296 rfl hR ⟨by simp [e],rfl⟩
 ·
  refine S.seq<|S.region rfl<|O.aN (.p rfl) (.box (cs:=[_,_,_,_,_,_,_,_]) rfl rfl) ?_;rintro _ _ ⟨b2,rfl,rfl⟩;refine O.q 1 rfl<|O.nil<|S.seq<|S.region rfl<|O.op (.p rfl) (.bE isAgg220 aa rfl hx) ?_;refine O.op (.p rfl) (.gZ (news:=[_,_,_,_,_,_,_,_]) isAgg220) ?_;refine O.aC (.p rfl) rfl aa rfl rfl (uz h h') ?_;rintro _ _ ⟨rfl,rfl⟩
  try simp only [an,aq,au]
  refine O.op (.p rfl) (.neq rfl rfl)<|O.sT 7 rfl (by simp [e]) ?_;refine O.q 1 rfl<|O.op (.g rfl rfl) (.aH rP rfl)<|O.op (.g rfl rfl) (.gZ (news:=[_,_,_,_,_,_,_]) isAgg102) ?_;refine O.op (.g rfl rfl) (.fieldAddr rP rfl)<|O.op (.g rfl rfl) (.bE (cs:=[.string (str x.1),.int .i64 x.2.1,.int .i64 x.2.2.1,.slice iH x.2.2.2.1.length iI,.bool x.2.2.2.2.1,.slice pV x.2.2.2.2.2.1.length pW,.slice oJ x.2.2.2.2.2.2.1.length oK]) isAgg102 aa rfl (hx.take 7)) ?_;refine O.aC (.g rfl rfl) rfl aa rfl rfl (Vg hy1 hx1) ?_;rintro _ _ ⟨rfl,rfl⟩
  try simp only [an,aq,au]
  refine O.q 2 rfl<|O.nil ?_;exact S.rt results296 rfl hR ⟨by simp [e],rfl⟩
theorem v7 {r:Fr} {b:Nat} {xs:List aP} {cs:List Value} {x:aP} (hrow:rB r b xs) (h:bO.rel r cs x) :
  ay prog 228 #[.pointer (some ⟨b,0,none⟩),.agg cs.toArray] r [] (aL fun v U=>v=.bool (hM xs x)∧U=[]):=by
 obtain ⟨iH,pV,oJ,Bv,iI,pW,oK,Bx,rfl,hx1,_⟩:=bO.sh h;obtain ⟨qf,sA,dg,har⟩:=hrow;refine ay.of (n:=11) _ rfl func228 rfl rfl rfl fun g hg R hR=>?_;have h:=h.mono hg;have dg:=dg.mono hg;have har:=har.mono hg;refine S.seq<|S.region rfl<|O.aN (.p rfl) (.box (cs:=[_,_,_,_,_,_,_,_]) rfl rfl) ?_;rintro _ _ ⟨b3,rfl,rfl⟩;refine O.q 1 rfl<|O.nil<|S.seq<|S.de ai fun g hs hm e7=>?_;replace hg:=Fr.aI hg hs;replace hR:=bu hR hm
 try replace h:=h.mono hs
 try replace dg:=dg.mono hs
 try replace har:=har.mono hs
 clear hs hm;refine S.region rfl<|O.q 1 rfl<|O.op (.p rfl) (.nilCheck rfl)<|O.op (.p rfl) (.fieldAddr jj rfl)<|O.op (.p rfl) (.loadAt ji rfl dg rfl) ?_;refine O.op (.p rfl) (.jb rfl rfl)<|O.aC (.p rfl) rfl aa rfl rfl ((ND har aa (fun y=>decide (dU x y≠0) && over y x) (fun cs y hy hr=>X7 e7 h hr) rfl)) ?_;rintro _ _ ⟨rfl,rfl⟩
 try simp only [an,aq,au]
 refine O.q 1 rfl<|O.nil ?_;exact S.rt results228 rfl hR ⟨rfl,rfl⟩
theorem K7 {r:Fr} {va:Value} {xs:List aP} (ha:aj cv r va xs) (hl:xs.length≤100000000000) :
  ay prog 146 #[va] r [] (eN (fun v U=>fJ xs∧∃ b,v=.pointer (some ⟨b,0,none⟩)∧U=[ff r 218 220 5 b xs]) (fun ch U=>¬ fJ xs∧ch=F0∧U=[])):=by
 have har:=ha;refine ay.of (n:=45) _ rfl func146 rfl rfl rfl fun g hg R hR=>?_;have ha:=ha.mono hg;obtain ⟨a1,c1,rfl⟩:=ha.shape;refine S.seq<|S.region rfl<|O.q 1 rfl<|O.nil<|S.seq<|S.region rfl<|O.op (.p rfl) (.build (cs:=[_]) underlying218 rfl rfl rfl rfl rfl)<|O.aN (.p rfl) (.box (cs:=[_]) rfl rfl) ?_;rintro _ _ ⟨oQ,rfl,rfl⟩;refine O.q 1 rfl<|O.nil<|S.seq<|S.conv (B:=obj oQ 218 [.slice none 0 0]) (C:=ff r 218 220 5 oQ []) ai (fun m x=>⟨m,Fr.bY _,ff.nil x⟩) ?_;refine S.region rfl<|O.q 2 rfl<|O.qz (.p rfl) rfl aa rfl rfl ai ((Lj har rfl (by simpa using hl)).sub hg) (fun ch ax w hX hW=>by (obtain ⟨hb,rfl,rfl⟩:=hX;exact hR _ _ w ⟨fun q=>(by rw [List.nil_append,q.1] at hb;cases hb),rfl,rfl⟩ hW.qD)) ?_;rintro _ _ ⟨hone,rfl,rfl⟩
 try simp only [an,aq,au]
 refine O.nil (S.seq (S.seq ?_));rw [List.nil_append] at hone;have gy:=hg;have gw:=hR
 try have vu:=ha
 refine S.iw (B:=ff r 218 220 5 oQ xs) ai fun o8 dP ⟨q7,jL,jM⟩ gm=>?_;replace hg:=Fr.aI hg dP;replace hR:=ig hR gm
 try replace ha:=ha.mono dP
 have hrow:=ff.read hg jM jL;obtain ⟨qf,sA,i_,pn⟩:=id hrow;refine S.region rfl<|O.q 1 rfl<|O.op (.p rfl) (.nilCheck rfl)<|O.op (.p rfl) (.fieldAddr jj rfl)<|O.op (.p rfl) (.loadAt ji rfl i_ rfl) ?_;refine O.op (.p rfl) (.len rfl underlying216 rfl)<|O.q 1 rfl<|O.nil<|S.block<|S.eM (ι:=Nat) (fun i=>i≤xs.length∧∀ j (h:j<xs.length),j<i→(∀ h0:0<j,dU xs[j-1] xs[j]<0)∧hM xs xs[j]=false) (fun i=>[(16,.int .i64 (i:Int))]) [(3,_),(14,_),(15,_)] (fun i=>[]) (fun i=>xs.length - i) (0) (by exact ⟨by simp,fun j _ h=>absurd h ah⟩) (.cons rfl (.nil)) (.cons rfl (.cons rfl (.cons rfl (.nil)))) rfl fun i hx ih=>?_;have bh:=cH (g:=o8);obtain ⟨hx1,hx2⟩:=hx;refine S.seq<|S.region rfl<|O.op (.p rfl) (.lss rfl rfl)<|O.nil (S.seq ?_)
 first|refine S.cm rfl (fun iV=>?_) (fun iV=>?_)|refine S.b_ rfl (fun iV=>?_) (fun iV=>?_)
 ·have hi:i<xs.length:=by omega
  have hnext:((∀ h0:0<i,dU xs[i-1] xs[i]<0)∧hM xs xs[i]=false)→∀ j (h:j<xs.length),j<i+1→(∀ h0:0<j,dU xs[j-1] xs[j]<0)∧hM xs xs[j]=false:=by
   intro q j h hj
   by_cases e:j=i
   ·subst e;exact q
   ·exact hx2 j h ah
  refine S.skip<|S.seq<|S.block<|S.seq<|S.region rfl<|O.q 1 rfl<|O.bR (.p rfl) underlying216 gC rfl rfl rfl (by first|assumption|exact aj.mono hg zE|exact aj.left zE|exact aj.left (aj.mono hg zE)) (h:=fun sx s_ j8 gp=>?_);obtain ⟨RI,RM,RQ,RV,R1,R5,R9,Sc,rfl,Jg,IE⟩:=bO.sh gp;refine O.op (.p rfl) (.bE isAgg220 aa rfl j8) ?_;refine O.aN (.p rfl) (.alloc (cs:=[.string ⟨#[]⟩,.int .i64 0,.int .i64 0,.slice none 0 0,.bool false,.slice none 0 0,.slice none 0 0,.slice none 0 0]) zeroValue220 rfl) ?_;rintro _ _ ⟨iN,rfl,rfl⟩;refine O.q 1 rfl<|O.bB rfl (.c9 aa rfl rfl rfl rfl ai aX) ?_;refine O.nil<|S.dx (b:=iN) (cs' :=[.string (str xs[i].1),.int .i64 xs[i].2.1,.int .i64 xs[i].2.2.1,.slice RI xs[i].2.2.2.1.length R1,.bool xs[i].2.2.2.2.1,.slice RM xs[i].2.2.2.2.2.1.length R5,.slice RQ xs[i].2.2.2.2.2.2.1.length R9,.slice RV (cn xs[i]).length Sc]) ai rfl ?_;refine S.de ai fun g hs hm eb=>?_;replace hg:=Fr.aI hg hs;replace hR:=bu hR hm
  try replace ha:=ha.mono hs
  try replace i_:=i_.mono hs
  try replace pn:=pn.mono hs
  try replace hrow:=hrow.mono hs
  try replace j8:=j8.mono hs
  try replace IE:=IE.mono hs
  try replace gp:=gp.mono hs
  try replace Jg:=Jg.mono hs
  replace bh:=dQ bh hm;clear hs hm
  by_cases h0:i=0
  ·cases qE:hM xs xs[i] with
   |true =>
    have hno:¬ fJ xs:=fun q=>by have:=(q.2 i hi).2;rw [qE] at this;cases this
    clear ih;refine S.bC (L:=[0,1,2,3,4,5,6,7,8,9,10,11,12,13,14,15,16,17,18,19,20,21]) bz aa ?_;refine af.q 1 rfl<|.quiet (.p rfl) rfl (fun _=>.eql rfl rfl)<|af.sT 22 rfl (by exact decide_eq_true ah) ?_;refine af.q 15 rfl<|.quiet (.g rfl rfl) rfl (fun _=>.bE isAgg220 aa rfl eb) ?_;refine af.aC (.g rfl rfl) aa rfl aa rfl rfl (v7 hrow gp) ?_;rintro _ _ ⟨rfl,rfl⟩
    try simp only [an,aq,au]
    refine af.sT 39 rfl (by exact qE) ?_;refine .quiet (.g rfl rfl) rfl (fun _=>.not rfl)<|af.q 1 rfl<|af.kQ (.p rfl) aa rfl aa rfl rfl (qj _) (fun ch ax w hX hW=>by (obtain ⟨hb,rfl,rfl⟩:=hX;exact hR _ _ w ⟨hno,rfl,rfl⟩ hW.qD)) ?_;rintro _ _ ⟨nL,rfl,rfl⟩
    try simp only [an,aq,au]
    exact absurd nL bL
   |false =>
    refine S.bC (L:=[0,1,2,3,4,5,6,7,8,9,10,11,12,13,14,15,16,17,18,19,20,21]) bz aa ?_;refine af.q 1 rfl<|.quiet (.p rfl) rfl (fun _=>.eql rfl rfl)<|af.sT 22 rfl (by exact decide_eq_true ah) ?_;refine af.q 15 rfl<|.quiet (.g rfl rfl) rfl (fun _=>.bE isAgg220 aa rfl eb) ?_;refine af.aC (.g rfl rfl) aa rfl aa rfl rfl (v7 hrow gp) ?_;rintro _ _ ⟨rfl,rfl⟩
    try simp only [an,aq,au]
    refine af.aM 39 rfl (by exact qE) ?_;refine .quiet (.g rfl rfl) rfl (fun _=>.not rfl)<|af.q 1 rfl<|af.kQ (.p rfl) aa rfl aa rfl rfl (qj _) (fun ch ax w hX hW=>by (exact absurd hX.1 bL)) ?_;rintro _ _ ⟨nL,rfl,rfl⟩
    try simp only [an,aq,au]
    refine aJ.nil<|S.inBlock<|S.region rfl<|O.op (.p rfl) (.add rfl rfl (IntWalk.i64_in _ ah))<|O.q 1 rfl<|O.nil ?_;exact S.iA bh (S.dD (ih (i+1) (by exact ⟨by omega,hnext ⟨fun h1=>absurd h1 ah,qE⟩⟩) ah))
  ·have hi1:i - 1<xs.length:=by omega
   by_cases hc:dU xs[i-1] xs[i]<0
   ·cases qE:hM xs xs[i] with
    |true =>
     have hno:¬ fJ xs:=fun q=>by have:=(q.2 i hi).2;rw [qE] at this;cases this
     clear ih;refine S.bC (L:=[0,1,2,3,4,5,6,7,8,9,10,11,12,13,14,15,16,17,18,19,20,21]) bz aa ?_;refine af.q 1 rfl<|.quiet (.p rfl) rfl (fun _=>.eql rfl rfl)<|af.aM 22 rfl (by exact decide_eq_false ah) ?_;refine af.q 2 rfl<|.quiet (.g rfl rfl) rfl (fun _=>.nilCheck rfl)<|.quiet (.g rfl rfl) rfl (fun _=>.fieldAddr jj rfl)<|.quiet (.g rfl rfl) rfl (fun _=>.loadAt ji rfl i_ rfl) ?_;refine af.q 1 rfl<|.quiet (.g rfl rfl) rfl (fun _=>.sub rfl rfl (IntWalk.i64_in _ ah))<|af.bR (.g rfl rfl) underlying216 gC rfl rfl (show _=(((i - 1):Nat):Int) by omega) (by first|assumption|exact aj.mono hg zE|exact aj.left zE|exact aj.left (aj.mono hg zE)) (h:=fun KE HM xC r0=>?_);obtain ⟨Jr,Js,Jt,Ju,Jv,Jw,Jx,Jy,rfl,Jh,IF⟩:=bO.sh r0;refine .quiet (.g rfl rfl) rfl (fun _=>.bE isAgg220 aa rfl xC) ?_;refine .quiet (.g rfl rfl) rfl (fun _=>.bE isAgg220 aa rfl eb) ?_;refine af.aC (.g rfl rfl) aa rfl aa rfl rfl (uz r0 gp) ?_;rintro _ _ ⟨rfl,rfl⟩
     try simp only [an,aq,au]
     refine .quiet (.g rfl rfl) rfl (fun _=>.lss rfl rfl)<|af.sT 34 rfl (by exact decide_eq_true hc) ?_;refine af.q 3 rfl<|.quiet (.g rfl rfl) rfl (fun _=>.bE isAgg220 aa rfl eb) ?_;refine af.aC (.g rfl rfl) aa rfl aa rfl rfl (v7 hrow gp) ?_;rintro _ _ ⟨rfl,rfl⟩
     try simp only [an,aq,au]
     refine af.sT 39 rfl (by exact qE) ?_;refine .quiet (.g rfl rfl) rfl (fun _=>.not rfl)<|af.q 1 rfl<|af.kQ (.p rfl) aa rfl aa rfl rfl (qj _) (fun ch ax w hX hW=>by (obtain ⟨hb,rfl,rfl⟩:=hX;exact hR _ _ w ⟨hno,rfl,rfl⟩ hW.qD)) ?_;rintro _ _ ⟨nL,rfl,rfl⟩
     try simp only [an,aq,au]
     exact absurd nL bL
    |false =>
     refine S.bC (L:=[0,1,2,3,4,5,6,7,8,9,10,11,12,13,14,15,16,17,18,19,20,21]) bz aa ?_;refine af.q 1 rfl<|.quiet (.p rfl) rfl (fun _=>.eql rfl rfl)<|af.aM 22 rfl (by exact decide_eq_false ah) ?_;refine af.q 2 rfl<|.quiet (.g rfl rfl) rfl (fun _=>.nilCheck rfl)<|.quiet (.g rfl rfl) rfl (fun _=>.fieldAddr jj rfl)<|.quiet (.g rfl rfl) rfl (fun _=>.loadAt ji rfl i_ rfl) ?_;refine af.q 1 rfl<|.quiet (.g rfl rfl) rfl (fun _=>.sub rfl rfl (IntWalk.i64_in _ ah))<|af.bR (.g rfl rfl) underlying216 gC rfl rfl (show _=(((i - 1):Nat):Int) by omega) (by first|assumption|exact aj.mono hg zE|exact aj.left zE|exact aj.left (aj.mono hg zE)) (h:=fun KE HM xC r0=>?_);obtain ⟨Jr,Js,Jt,Ju,Jv,Jw,Jx,Jy,rfl,Jh,IF⟩:=bO.sh r0;refine .quiet (.g rfl rfl) rfl (fun _=>.bE isAgg220 aa rfl xC) ?_;refine .quiet (.g rfl rfl) rfl (fun _=>.bE isAgg220 aa rfl eb) ?_;refine af.aC (.g rfl rfl) aa rfl aa rfl rfl (uz r0 gp) ?_;rintro _ _ ⟨rfl,rfl⟩
     try simp only [an,aq,au]
     refine .quiet (.g rfl rfl) rfl (fun _=>.lss rfl rfl)<|af.sT 34 rfl (by exact decide_eq_true hc) ?_;refine af.q 3 rfl<|.quiet (.g rfl rfl) rfl (fun _=>.bE isAgg220 aa rfl eb) ?_;refine af.aC (.g rfl rfl) aa rfl aa rfl rfl (v7 hrow gp) ?_;rintro _ _ ⟨rfl,rfl⟩
     try simp only [an,aq,au]
     refine af.aM 39 rfl (by exact qE) ?_;refine .quiet (.g rfl rfl) rfl (fun _=>.not rfl)<|af.q 1 rfl<|af.kQ (.p rfl) aa rfl aa rfl rfl (qj _) (fun ch ax w hX hW=>by (exact absurd hX.1 bL)) ?_;rintro _ _ ⟨nL,rfl,rfl⟩
     try simp only [an,aq,au]
     refine aJ.nil<|S.inBlock<|S.region rfl<|O.op (.p rfl) (.add rfl rfl (IntWalk.i64_in _ ah))<|O.q 1 rfl<|O.nil ?_;exact S.iA bh (S.dD (ih (i+1) (by exact ⟨by omega,hnext ⟨fun _=>hc,qE⟩⟩) ah))
   ·have hno:¬ fJ xs:=fun q=>hc ((q.2 i hi).1 ah)
    clear ih;refine S.bC (L:=[0,1,2,3,4,5,6,7,8,9,10,11,12,13,14,15,16,17,18,19,20,21]) bz aa ?_;refine af.q 1 rfl<|.quiet (.p rfl) rfl (fun _=>.eql rfl rfl)<|af.aM 22 rfl (by exact decide_eq_false ah) ?_;refine af.q 2 rfl<|.quiet (.g rfl rfl) rfl (fun _=>.nilCheck rfl)<|.quiet (.g rfl rfl) rfl (fun _=>.fieldAddr jj rfl)<|.quiet (.g rfl rfl) rfl (fun _=>.loadAt ji rfl i_ rfl) ?_;refine af.q 1 rfl<|.quiet (.g rfl rfl) rfl (fun _=>.sub rfl rfl (IntWalk.i64_in _ ah))<|af.bR (.g rfl rfl) underlying216 gC rfl rfl (show _=(((i - 1):Nat):Int) by omega) (by first|assumption|exact aj.mono hg zE|exact aj.left zE|exact aj.left (aj.mono hg zE)) (h:=fun KE HM xC r0=>?_);obtain ⟨Jr,Js,Jt,Ju,Jv,Jw,Jx,Jy,rfl,Jh,IF⟩:=bO.sh r0;refine .quiet (.g rfl rfl) rfl (fun _=>.bE isAgg220 aa rfl xC) ?_;refine .quiet (.g rfl rfl) rfl (fun _=>.bE isAgg220 aa rfl eb) ?_;refine af.aC (.g rfl rfl) aa rfl aa rfl rfl (uz r0 gp) ?_;rintro _ _ ⟨rfl,rfl⟩
    try simp only [an,aq,au]
    refine .quiet (.g rfl rfl) rfl (fun _=>.lss rfl rfl)<|af.aM 34 rfl (by exact decide_eq_false hc) ?_;refine af.q 7 rfl<|af.kQ (.p rfl) aa rfl aa rfl rfl (qj _) (fun ch ax w hX hW=>by (obtain ⟨hb,rfl,rfl⟩:=hX;exact hR _ _ w ⟨hno,rfl,rfl⟩ hW.qD)) ?_;rintro _ _ ⟨nL,rfl,rfl⟩
    try simp only [an,aq,au]
    exact absurd nL bL
 ·clear ih
  have hi:i=xs.length:=by omega
  subst hi;refine S.exit rfl<|S.seq<|S.back gm ?_;replace hg:=gy;replace hR:=gw
  try replace ha:=vu
  clear gy gw;refine S.region rfl<|O.q 2 rfl<|O.nil ?_;exact S.rt results146 rfl hR ⟨⟨hone,fun j h=>hx2 j h h⟩,oQ,rfl,rfl⟩
theorem XJ {g:bn} {be bZ:Nat} {x:Value} {z:Int} {eF eZ:TypeId} {w:World} {R:Ending→World→Prop} {U:List az} (hw:Holds w g (obj bZ eF [x]::obj be eZ [.int .i64 z]::U)) (hR:∀ w,Holds w g (obj bZ eF [x]::obj be eZ [.int .i64 z]::U)→R (.returned (.tuple #[x,.int .i64 z])) w) :
  CallsD prog 224 #[.pointer (some ⟨be,0,none⟩),.pointer (some ⟨bZ,0,none⟩)] .returning w (sV prog g bZ be 24 44 R):=by
 refine (oc (R:=fun e w=>(∃ v,e=.returned v)∧Holds w g (obj bZ eF [x]::obj be eZ [.int .i64 z]::U)) [.pointer (some ⟨be,0,none⟩),.pointer (some ⟨bZ,0,none⟩)] rfl func224 rfl rfl rfl rfl hw ?_).mono ?_
 rotate_left
 ·rintro e u' w' ⟨rfl,⟨v,rfl⟩,h⟩
  exact ⟨⟨v,rfl⟩,rfl,eF,eZ,_,_,_,_,U,h,fP.flat bl,fP.flat oe,hR w' h⟩
 refine S.seq<|S.region rfl<|O.q 1 rfl<|O.op (.p rfl) (.vL underlying20 rfl)<|O.nil<|S.aQ rfl<|S.skip<|S.ez results224 fun w hw=>?_;exact ⟨⟨_,rfl⟩,hw⟩
theorem XI {g:bn} {be bZ:Nat} {x:Value} {z z' :Int} {eF eZ:TypeId} {w:World} {R:Ending→World→Prop} {U:List az} (hw:Holds w g (obj bZ eF [x]::obj be eZ [.int .i64 z']::U))
  (hR:∀ w,Holds w g (obj bZ eF [.slice none 0 0]::obj be eZ [.int .i64 z]::U)→R (.returned (.tuple #[.slice none 0 0,.int .i64 z])) w) :
  CallsD prog 224 #[.pointer (some ⟨be,0,none⟩),.pointer (some ⟨bZ,0,none⟩)] (.panicking (o4 44 z)) w (sV prog g bZ be 24 44 R):=by
 refine (oc (R:=fun e w=>(∃ v,e=.returned v)∧Holds w g (obj bZ eF [.slice none 0 0]::obj be eZ [.int .i64 z]::U)) [.pointer (some ⟨be,0,none⟩),.pointer (some ⟨bZ,0,none⟩)] rfl func224 rfl rfl rfl rfl hw ?_).mono ?_
 rotate_left
 ·rintro e u' w' ⟨rfl,⟨v,rfl⟩,h⟩
  exact ⟨⟨v,rfl⟩,rfl,eF,eZ,_,_,_,_,U,h,fP.flat bl,fP.flat oe,hR w' h⟩
 refine S.seq<|S.region rfl<|O.q 1 rfl<|O.op (.p rfl) (.vM underlying20 rfl)<|O.nil<|S.bx rfl<|S.seq<|S.region rfl<|O.q 1 rfl<|O.nil<|S.seq<|S.seq<|S.region rfl<|O.q 1 rfl<|O.op (.p rfl) (.u0 underlying44 rfl)<|O.q 3 rfl<|O.bB rfl (.bp oe rfl rfl bt ai aX) ?_;refine O.q 1 rfl<|O.nil<|S.seq<|S.region rfl<|O.q 1 rfl<|O.op (.p rfl) (.not rfl)<|O.nil<|S.aQ rfl<|S.skip<|S.seq<|S.region rfl<|O.q 1 rfl<|O.nil<|S.region rfl<|O.q 1 rfl<|O.bB rfl (.bp bl rfl rfl bt ai aX) ?_;refine O.nil<|S.ez results224 fun w hw=>?_;exact ⟨⟨_,rfl⟩,hw.jP jf⟩
theorem XH {r:Fr} {f:Nat} {first cap:Array Value} {K:Value→List az→Prop} {X:Int→Prop} (hc:dG prog f=true) (p7:(Value.func (.func f) first cap).oneCell' =true) (o9:∀ u ζ,K u ζ→u.oneCell' =true)
  (con:ay prog f (first++#[]++cap) r [] (eN K (fun ch U=>∃ z,ch=o4 44 z∧X z∧U=[]))) :
  ay prog 144 #[.func (.func f) first cap] r [] (aL fun v U=>(∃ u,K u U∧v=.tuple #[u,.int .i64 0])∨(∃ z,X z∧U=[]∧v=.tuple #[.slice none 0 0,.int .i64 z])):=by
 refine ay.of (n:=7) [.func (.func f) first cap] rfl func144 rfl rfl rfl fun g hg R hR=>?_;refine S.seq<|S.region rfl<|O.aN (.p rfl) (.alloc (cs:=[.slice none 0 0]) zeroValue24 rfl) ?_;rintro _ _ ⟨b2,rfl,rfl⟩;refine O.aN (.p rfl) (.alloc (cs:=[.int .i64 0]) zeroValue44 rfl) ?_;rintro _ _ ⟨b3,rfl,rfl⟩;refine O.nil<|S.seq<|S.region rfl<|O.op (.p rfl) (.jb rfl rfl)<|O.defer rfl rfl rfl rfl ?_;refine O.nil<|S.seq<|S.region rfl<|O.q 1 rfl<|O.Cm (.p rfl) rfl hc rfl rfl (con.sub hg) (fun a ch ax w hF hX hW=>by (obtain ⟨z,rfl,hx,rfl⟩:=hX;exact vI results144 hF rfl rfl bL aa (XI (hW.jP jf) fun w hw=>Holds.end_ hR hw ⟨_,.inr ⟨z,hx,rfl,rfl⟩,by repeat (first|exact aS|exact aU|(apply aT;focus (repeat (first|exact aR|apply zt)))|apply aV)⟩))) ?_;rintro v6 _ rW
 try simp only [an,aq,au]
 have hone:=o9 _ _ rW;refine O.perm (List.perm_append_comm) ?_;simp only [List.cons_append,List.nil_append];refine O.bB rfl (.bp bl rfl rfl bt ai aX) ?_;refine O.bB rfl (.bp oe rfl rfl bt ai aX) ?_;refine O.nil<|S.q_ fun a w hf hd hw=>?_;exact vI results144 hf rfl rfl bL aa (XJ (hw.jP jf) fun w hw=>Holds.end_ hR hw ⟨_,.inl ⟨_,rW,rfl⟩,by repeat (first|exact aS|exact aU|(apply aT;focus (repeat (first|exact aR|apply zt)))|apply aV)⟩)
theorem Xc {r:Fr} {b:Nat} {va:Value} {xs:List aP} (hb:At r ⟨b,0,none⟩ [va]) (ha:aj cv r va xs) (hl:xs.length≤1000000000) :
  ay prog 145 (#[]++#[]++#[.pointer (some ⟨b,0,none⟩)]) r [] (eN (fun v U=>fJ xs∧∃ a c,v=.slice a (kN xs).length c∧U=[av ag.u8 5 (.slice a (kN xs).length c) (kN xs)]) (fun ch U=>∃ z,ch=o4 44 z∧(¬ fJ xs∧z=4)∧U=[])):=by
 have har:=ha;refine ay.of (n:=31) [.pointer (some ⟨b,0,none⟩)] rfl func145 rfl rfl rfl fun g hg R hR=>?_;have hb:=hb.mono hg;have ha:=ha.mono hg;obtain ⟨a1,c1,rfl⟩:=ha.shape;refine S.seq<|S.region rfl<|O.q 1 rfl<|O.nil<|S.seq<|S.region rfl<|O.op (.p rfl) (.loadAt dO rfl hb rfl) ?_;refine O.kQ (.p rfl) rfl aa rfl rfl (((K7 har ah).sub hg)) (fun ch ax w hX hW=>by (obtain ⟨hb,rfl,rfl⟩:=hX;exact hR _ _ w ⟨4,rfl,⟨hb,rfl⟩,rfl⟩ hW.qD)) ?_;rintro _ _ ⟨hright,oQ,rfl,rfl⟩
 try simp only [an,aq,au]
 refine O.q 1 rfl<|O.nil<|S.seq<|S.ep (A:=ff r 218 220 5 oQ xs) ai fun g hs hm ⟨_,x',s'⟩=>?_;have hrow:=ff.read (Fr.aI hg hs) s' x';clear x' s';replace hg:=Fr.aI hg hs;replace hR:=bu hR hm
 try replace ha:=ha.mono hs
 try replace hb:=hb.mono hs
 clear hs hm;obtain ⟨qf,sA,i_,pn⟩:=id hrow;refine S.region rfl<|O.q 1 rfl<|O.op (.p rfl) (.nilCheck rfl)<|O.op (.p rfl) (.fieldAddr jj rfl)<|O.op (.p rfl) (.loadAt ji rfl i_ rfl) ?_;refine O.op (.p rfl) (.len rfl underlying216 rfl)<|O.aC (.p rfl) rfl aa rfl rfl (ki _) ?_;rintro _ _ ⟨iM,iQ,rfl,rfl⟩
 try simp only [an,aq,au]
 refine O.q 1 rfl<|O.nil (S.seq (S.seq ?_));have hone:=hright.1;have hbd:=Le hone;refine S.region rfl<|O.q 1 rfl<|O.op (.p rfl) (.nilCheck rfl)<|O.op (.p rfl) (.fieldAddr jj rfl)<|O.op (.p rfl) (.loadAt ji rfl i_ rfl) ?_;refine O.op (.p rfl) (.len rfl underlying216 rfl)<|O.q 1 rfl<|O.nil<|S.block<|S.conv (C:=av ag.u8 5 (.slice iM (8+(jQ (xs.take 0)).length) iQ) (be xs.length++jQ (xs.take 0))) bg.here (fun m x=>⟨m,Fr.bY _,by simpa [jQ] using x⟩) ?_;refine S.jO (ι:=Nat) (dJ:=Option Addr × Nat) (fun i p=>i≤xs.length) (fun i p=>[(19,.int .i64 (i:Int)),(3,.slice p.1 (8+(jQ (xs.take i)).length) p.2)]) [(17,_),(18,_)] (fun i p=>[av ag.u8 5 (.slice p.1 (8+(jQ (xs.take i)).length) p.2) (be xs.length++jQ (xs.take i))]) (fun i p=>xs.length - i) (0) ((iM,iQ)) ah (.cons rfl (.cons rfl (.nil))) (.cons rfl (.cons rfl (.nil))) rfl fun i p hx ih=>?_;have bh:=cH (g:=g);refine S.seq<|S.region rfl<|O.op (.p rfl) (.lss rfl rfl)<|O.nil (S.seq ?_)
 first|refine S.cm rfl (fun og=>?_) (fun og=>?_)|refine S.b_ rfl (fun og=>?_) (fun og=>?_)
 ·have hi:i<xs.length:=by omega
  have kV:=A0 (q9 hone xs[i] (List.getElem_mem hi));have ix:=FX (xs.take i) (q9 (Fp i hone));rw [List.length_take,Nat.min_eq_left hx] at ix;have htk:[be xs.length++jQ (xs.take i),bytesOf (cn xs[i])].flatten=be xs.length++jQ (xs.take (i+1)):=by rw [List.take_succ_eq_append_getElem hi,Wz];simp
  have jx:(be (xs.length:Int)++jQ (xs.take (i+1))).length=8+(jQ (xs.take (i+1))).length:=by simp
  have e7:(be (xs.length:Int)++jQ (xs.take (i+1))).length≤140737488355328:=by
   have:=FX (xs.take (i+1)) (q9 (Fp (i+1) hone));rw [List.length_take] at this
   simp;omega
  generalize cN:jQ (xs.take i)=so at htk ix ⊢;refine S.skip<|S.seq<|S.block<|S.seq<|S.region rfl<|O.bR (.p rfl) underlying216 gC rfl rfl rfl (by first|assumption|exact aj.mono hg zE|exact aj.left zE|exact aj.left (aj.mono hg zE)) (h:=fun AP zk qS pq=>?_);obtain ⟨aal,aam,aan,aao,aap,aaq,aar,aas,rfl,Z_,Zz⟩:=bO.sh pq;refine O.op (.p rfl) (.bE isAgg220 aa rfl qS) ?_;refine O.aN (.p rfl) (.alloc (cs:=[.string ⟨#[]⟩,.int .i64 0,.int .i64 0,.slice none 0 0,.bool false,.slice none 0 0,.slice none 0 0,.slice none 0 0]) zeroValue220 rfl) ?_;rintro _ _ ⟨iN,rfl,rfl⟩;refine O.bB rfl (.c9 aa rfl rfl rfl rfl ai aX) ?_;refine O.nil<|S.region rfl<|O.q 1 rfl<|O.op (.p rfl) (.aH zD rfl)<|O.op (.p rfl) (.lo bl) ?_;refine O.aC (.p rfl) rfl aa rfl rfl (v_ (by first|assumption|exact aj.mono hg zE|exact aj.left zE|exact aj.left (aj.mono hg zE)) bD) ?_;rintro _ _ ⟨a26,gh,rfl,rfl⟩
  try simp only [an,aq,au]
  generalize ZD:bytesOf (cn xs[i])=bb at htk ⊢;refine O.aN (.p rfl) (.cA (T:=ag.val) (ys:=[_,_]) underlying109 iu aB rfl rfl ⟨⟨rfl,rfl⟩,⟨rfl,rfl⟩,trivial⟩ aB) ?_;rintro _ _ ⟨a27,s7,rfl,rfl⟩;refine O.c4 (.p rfl) rfl aa rfl rfl (bs:=[av ag.val 24 (.slice a27 2 s7) [.slice p.1 (8+so.length) p.2,.slice a26 bb.length gh],av ag.u8 5 (.slice p.1 (8+so.length) p.2) (be xs.length++so),av ag.u8 5 (.slice a26 bb.length gh) bb]) aW (fun m hm hd=>Bs (xss:=[be xs.length++so,bb]) ((hm.arr.right hd).rows ⟨hm.tail.arr.right hd,hm.tail.tail.arr.right hd,trivial⟩) (by rw [htk];exact e7)) ?_;rintro _ _ ⟨a28,s8,rfl,rfl⟩
  try simp only [an,aq,au]
  refine O.q 1 rfl<|O.nil<|S.inBlock<|S.region rfl<|O.op (.p rfl) (.add rfl rfl (IntWalk.i64_in _ ah))<|O.q 1 rfl<|O.nil ?_;rw [htk,jx];exact S.pw (ih (i+1) ((a28,s8)) ah ah)
 ·clear ih
  have hi:i=xs.length:=by omega
  subst hi;rw [List.take_length];have I7:8+(jQ xs).length=(kN xs).length:=by simp [kN]
  rw [I7];refine S.exit rfl<|S.seq<|S.region rfl<|O.q 2 rfl<|O.nil ?_;exact S.rt results145 rfl hR ⟨hright,p.1,p.2,rfl,rfl⟩
noncomputable def mX (l:List aP):List UInt8:=if fJ l then kN l else []
noncomputable def sF (l:List aP):Int:=if fJ l then 0 else 4
theorem WA {r:Fr} {first cap:Array Value} {xs:List aP} (con:ay prog 145 (first++#[]++cap) r [] (eN (fun v U=>fJ xs∧∃ a c,v=.slice a (kN xs).length c∧U=[av ag.u8 5 (.slice a (kN xs).length c) (kN xs)]) (fun ch U=>∃ z,ch=o4 44 z∧(¬ fJ xs∧z=4)∧U=[]))) (h1:(Value.func (.func 145) first cap).oneCell' =true:=by rfl) :
  ay prog 144 #[.func (.func 145) first cap] r [] (aL fun v U=>∃ a c,v=.tuple #[.slice a (mX xs).length c,.int .i64 (sF xs)]∧U=[av ag.u8 5 (.slice a (mX xs).length c) (mX xs)]) :=
 (XH aa h1 (fun _ _ h=>by obtain ⟨_,_,_,rfl,_⟩:=h;rfl) con).post fun e U h w g hw=>by
  cases e with
  |returned v =>
   rcases h with ⟨u,⟨hs,a,c,rfl,rfl⟩,rfl⟩|⟨z,⟨hs,rfl⟩,rfl,rfl⟩
   ·exact ⟨_,⟨a,c,by simp [mX,sF,hs],rfl⟩,by simpa [mX,hs] using hw⟩
   ·exact ⟨_,⟨none,0,by simp [mX,sF,hs],rfl⟩,by simp only [mX,hs,if_false];exact hw.imp fun m x=>⟨Fr.emp,m,Fr.ea _,Fr.c6 _,Fr.bY _,AL _,x⟩⟩
  |panicked _=>exact h.elim
  |outgrown=>exact h.elim
theorem Lh {r:Fr} {va:Value} {xs:List aP} (ha:aj cv r va xs) (hl:xs.length≤1000000000) :
  ay prog 77 #[va] r [] (aL fun v U=>∃ a c,v=.tuple #[.slice a (mX xs).length c,.int .i64 (sF xs)]∧U=[av ag.u8 5 (.slice a (mX xs).length c) (mX xs)]):=by
 refine ay.of (n:=8) _ rfl func77 rfl rfl rfl fun g hg R hR=>?_;have ha:=ha.mono hg;obtain ⟨a1,c1,rfl⟩:=ha.shape;refine S.seq<|S.region rfl<|O.aN (.p rfl) (.box (cs:=[_]) rfl rfl) ?_;rintro _ _ ⟨b1,rfl,rfl⟩;refine O.q 2 rfl<|O.nil<|S.seq<|S.de ai fun g hs hm kV=>?_;replace hg:=Fr.aI hg hs;replace hR:=bu hR hm
 try replace ha:=ha.mono hs
 clear hs hm;refine S.region rfl<|O.op (.p rfl) (.jb rfl rfl)<|O.aC (.p rfl) rfl aa rfl rfl ((WA (Xc kV ha hl))) ?_;rintro _ _ ⟨a5,dS,rfl,rfl⟩
 try simp only [an,aq,au]
 refine O.q 4 rfl<|O.nil<|S.mW results77 rfl rfl fun w hw=>Holds.end_ hR hw ?_;exact pk ⟨a5,dS,rfl,rfl⟩
theorem KI {r:Fr} {cs:List Value} {x:jX} (h:jh.rel r cs x):ay prog 284 #[.agg cs.toArray] r [] (aL fun v U=>v=.bool (yt x)∧U=[]):=by
 obtain ⟨iH,sP,iI,sQ,rfl,k0,k1,k2,bk,sg⟩:=jh.sh h;refine ay.of (n:=44) _ rfl func284 rfl rfl rfl fun g hg R hR=>?_;refine S.seq<|S.region rfl<|O.aN (.p rfl) (.box (cs:=[_,_,_,_,_]) rfl rfl) ?_;rintro _ _ ⟨b1,rfl,rfl⟩;refine O.q 1 rfl<|O.nil<|S.seq<|S.region rfl<|O.op (.p rfl) (.aH rQ rfl)<|O.op (.p rfl) (.aH wY rfl)<|O.op (.p rfl) (.lo cz) ?_;refine O.op (.p rfl) (.geq rfl rfl)<|O.q 1 rfl ?_
 first|refine O.dK 7 rfl (fun h7=>?_) (fun h7=>?_)|refine O.dA 7 rfl (fun h7=>?_) (fun h7=>?_)
 ·refine O.op (.g rfl rfl) (.aH rQ rfl)<|O.op (.g rfl rfl) (.aH wY rfl)<|O.op (.g rfl rfl) (.lo cz) ?_
  refine O.op (.g rfl rfl) (.leq rfl rfl)<|O.q 2 rfl ?_
  first|refine O.dK 13 rfl (fun iU=>?_) (fun iU=>?_)|refine O.dA 13 rfl (fun iU=>?_) (fun iU=>?_)
  ·refine O.op (.g rfl rfl) (.aH rQ rfl)<|O.op (.g rfl rfl) (.aH vk rfl)<|O.op (.g rfl rfl) (.lo cz) ?_
   refine O.op (.g rfl rfl) (.geq rfl rfl)<|O.q 2 rfl ?_
   first|refine O.dK 19 rfl (fun tr=>?_) (fun tr=>?_)|refine O.dA 19 rfl (fun tr=>?_) (fun tr=>?_)
   ·refine O.op (.g rfl rfl) (.aH rQ rfl)<|O.op (.g rfl rfl) (.aH vk rfl)<|O.op (.g rfl rfl) (.lo cz) ?_
    refine O.op (.g rfl rfl) (.lss rfl rfl)<|O.q 2 rfl ?_
    first|refine O.dK 25 rfl (fun rS=>?_) (fun rS=>?_)|refine O.dA 25 rfl (fun rS=>?_) (fun rS=>?_)
    ·refine O.op (.g rfl rfl) (.aH rQ rfl)<|O.op (.g rfl rfl) (.aH Ig rfl)<|O.op (.g rfl rfl) (.lo cz) ?_
     refine O.op (.g rfl rfl) (.geq rfl rfl)<|O.q 2 rfl ?_
     first|refine O.dK 31 rfl (fun gR=>?_) (fun gR=>?_)|refine O.dA 31 rfl (fun gR=>?_) (fun gR=>?_)
     ·refine O.op (.g rfl rfl) (.aH rQ rfl)<|O.op (.g rfl rfl) (.aH Ig rfl)<|O.op (.g rfl rfl) (.lo cz) ?_
      refine O.op (.g rfl rfl) (.leq rfl rfl)<|O.q 2 rfl ?_
      first|refine O.dK 37 rfl (fun Da=>?_) (fun Da=>?_)|refine O.dA 37 rfl (fun Da=>?_) (fun Da=>?_)
      ·refine O.op (.g rfl rfl) (.aH rQ rfl)<|O.op (.g rfl rfl) (.aH CZ rfl)<|O.op (.g rfl rfl) (.lo bl) ?_
       refine O.op (.g rfl rfl) (.len rfl underlying24 rfl)<|O.op (.g rfl rfl) (.eql rfl rfl)<|O.q 2 rfl<|O.nil<|S.ret results284 rfl fun w hw=>Holds.end_ hR hw ?_
       first|exact ⟨_,⟨congrArg _ (decide_eq_false ah).symm,rfl⟩,by repeat (first|exact aS|exact aU|(apply aT;focus (repeat (first|exact aR|apply zt)))|apply aV)⟩|exact ⟨_,⟨congrArg _ (decide_eq_decide.2 ah),rfl⟩,by repeat (first|exact aS|exact aU|(apply aT;focus (repeat (first|exact aR|apply zt)))|apply aV)⟩
      ·refine O.q 7 rfl<|O.nil<|S.ret results284 rfl fun w hw=>Holds.end_ hR hw ?_
       first|exact ⟨_,⟨congrArg _ (decide_eq_false ah).symm,rfl⟩,by repeat (first|exact aS|exact aU|(apply aT;focus (repeat (first|exact aR|apply zt)))|apply aV)⟩|exact ⟨_,⟨congrArg _ (decide_eq_decide.2 ah),rfl⟩,by repeat (first|exact aS|exact aU|(apply aT;focus (repeat (first|exact aR|apply zt)))|apply aV)⟩
     ·refine O.q 13 rfl<|O.nil<|S.ret results284 rfl fun w hw=>Holds.end_ hR hw ?_
      first|exact ⟨_,⟨congrArg _ (decide_eq_false ah).symm,rfl⟩,by repeat (first|exact aS|exact aU|(apply aT;focus (repeat (first|exact aR|apply zt)))|apply aV)⟩|exact ⟨_,⟨congrArg _ (decide_eq_decide.2 ah),rfl⟩,by repeat (first|exact aS|exact aU|(apply aT;focus (repeat (first|exact aR|apply zt)))|apply aV)⟩
    ·refine O.q 19 rfl<|O.nil<|S.ret results284 rfl fun w hw=>Holds.end_ hR hw ?_
     first|exact ⟨_,⟨congrArg _ (decide_eq_false ah).symm,rfl⟩,by repeat (first|exact aS|exact aU|(apply aT;focus (repeat (first|exact aR|apply zt)))|apply aV)⟩|exact ⟨_,⟨congrArg _ (decide_eq_decide.2 ah),rfl⟩,by repeat (first|exact aS|exact aU|(apply aT;focus (repeat (first|exact aR|apply zt)))|apply aV)⟩
   ·refine O.q 25 rfl<|O.nil<|S.ret results284 rfl fun w hw=>Holds.end_ hR hw ?_
    first|exact ⟨_,⟨congrArg _ (decide_eq_false ah).symm,rfl⟩,by repeat (first|exact aS|exact aU|(apply aT;focus (repeat (first|exact aR|apply zt)))|apply aV)⟩|exact ⟨_,⟨congrArg _ (decide_eq_decide.2 ah),rfl⟩,by repeat (first|exact aS|exact aU|(apply aT;focus (repeat (first|exact aR|apply zt)))|apply aV)⟩
  ·refine O.q 31 rfl<|O.nil<|S.ret results284 rfl fun w hw=>Holds.end_ hR hw ?_
   first|exact ⟨_,⟨congrArg _ (decide_eq_false ah).symm,rfl⟩,by repeat (first|exact aS|exact aU|(apply aT;focus (repeat (first|exact aR|apply zt)))|apply aV)⟩|exact ⟨_,⟨congrArg _ (decide_eq_decide.2 ah),rfl⟩,by repeat (first|exact aS|exact aU|(apply aT;focus (repeat (first|exact aR|apply zt)))|apply aV)⟩
 ·refine O.q 37 rfl<|O.nil<|S.ret results284 rfl fun w hw=>Holds.end_ hR hw ?_
  first|exact ⟨_,⟨congrArg _ (decide_eq_false ah).symm,rfl⟩,by repeat (first|exact aS|exact aU|(apply aT;focus (repeat (first|exact aR|apply zt)))|apply aV)⟩|exact ⟨_,⟨congrArg _ (decide_eq_decide.2 ah),rfl⟩,by repeat (first|exact aS|exact aU|(apply aT;focus (repeat (first|exact aR|apply zt)))|apply aV)⟩
theorem UU {r:Fr} {cs:List Value} {x:jX} (h:jh.rel r cs x):ay prog 205 #[.agg cs.toArray] r [] (aL fun v U=>v=.bool (oF x)∧U=[]):=by
 obtain ⟨iH,sP,iI,sQ,rfl,k0,k1,k2,bk,sg⟩:=jh.sh h;refine ay.of (n:=12) _ rfl func205 rfl rfl rfl fun g hg R hR=>?_;have h:=h.mono hg
 cases e:yt x with
 |false =>
  refine S.seq<|S.region rfl<|O.aN (.p rfl) (.box (cs:=[_,_,_,_,_]) rfl rfl) ?_;rintro _ _ ⟨b1,rfl,rfl⟩;refine O.q 1 rfl<|O.nil<|S.seq<|S.region rfl<|O.op (.p rfl) (.gZ (news:=[_,_,_,_,_]) isAgg271) ?_;refine O.aC (.p rfl) rfl aa rfl rfl (KI h) ?_;rintro _ _ ⟨rfl,rfl⟩
  try simp only [an,aq,au]
  refine O.aM 4 rfl (by exact e) ?_;refine O.q 8 rfl<|O.nil ?_;exact S.rt results205 rfl hR ⟨by simp [oF,e],rfl⟩
 |true =>
  refine S.seq<|S.region rfl<|O.aN (.p rfl) (.box (cs:=[_,_,_,_,_]) rfl rfl) ?_;rintro _ _ ⟨b1,rfl,rfl⟩;refine O.q 1 rfl<|O.nil<|S.seq<|S.region rfl<|O.op (.p rfl) (.gZ (news:=[_,_,_,_,_]) isAgg271) ?_;refine O.aC (.p rfl) rfl aa rfl rfl (KI h) ?_;rintro _ _ ⟨rfl,rfl⟩
  try simp only [an,aq,au]
  refine O.sT 4 rfl (by exact e) ?_;refine O.q 1 rfl<|O.op (.g rfl rfl) (.aH rQ rfl)<|O.op (.g rfl rfl) (.aH OB rfl)<|O.op (.g rfl rfl) (.lo bl) ?_;refine O.op (.g rfl rfl) (.len rfl underlying24 rfl)<|O.op (.g rfl rfl) (.eql rfl rfl)<|O.q 2 rfl<|O.nil ?_;exact S.rt results205 rfl hR ⟨by simp [oF,e];omega,rfl⟩
theorem F7 {r:Fr} {cs:List Value} {x:jX} (h:jh.rel r cs x):ay prog 121 #[.agg cs.toArray] r [] (aL fun v U=>v=.bool (oF x)∧U=[]):=by
 obtain ⟨iH,sP,iI,sQ,rfl,k0,k1,k2,bk,sg⟩:=jh.sh h;refine ay.of (n:=6) _ rfl func121 rfl rfl rfl fun g hg R hR=>?_;have h:=h.mono hg;refine S.seq<|S.region rfl<|O.aN (.p rfl) (.box (cs:=[_,_,_,_,_]) rfl rfl) ?_;rintro _ _ ⟨b1,rfl,rfl⟩;refine O.q 1 rfl<|O.nil<|S.seq<|S.region rfl<|O.op (.p rfl) (.gZ (news:=[_,_,_,_,_]) isAgg81) ?_;refine O.op (.p rfl) (.build (cs:=[_,_,_,_,_]) underlying271 rfl rfl rfl rfl rfl)<|O.aC (.p rfl) rfl aa rfl rfl (UU h) ?_;rintro _ _ ⟨rfl,rfl⟩
 try simp only [an,aq,au]
 refine O.q 1 rfl<|O.nil ?_;exact S.rt results121 rfl hR ⟨rfl,rfl⟩
theorem MO {r:Fr} {va je:Value} {xs ys:List UInt8} (ha:aj ag.u8 r va xs) (hb:aj ag.u8 r je ys):ay prog 308 #[va,je] r [] (aL fun v U=>v=.int .i64 (Lib.compareBytes xs ys)∧U=[]):=by
 refine ay.of (n:=8) _ rfl func308 rfl rfl rfl fun g hg R hR=>?_;have ha:=ha.mono hg;have hb:=hb.mono hg;obtain ⟨a1,c1,rfl⟩:=ha.shape;obtain ⟨a2,c2,rfl⟩:=hb.shape;refine S.seq<|S.region rfl<|O.q 1 rfl<|O.nil<|S.seq<|S.region rfl<|O.q 2 rfl<|O.op (.p rfl) (.Ny func342 aa rfl aa aa rfl rfl rfl ha hb)<|O.q 1 rfl<|O.nil ?_;exact S.rt results308 rfl hR ⟨rfl,rfl⟩
end Go.Proofs.YtojafegjlahajaaGreatDoor
