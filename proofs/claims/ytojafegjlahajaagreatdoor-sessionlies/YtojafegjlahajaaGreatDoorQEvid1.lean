/- Texts of this proof. -/
import Derived.Test.YtojafegjlahajaaGreatDoorQSib1
open Go Go.Sp Go.Proofs.Tryz
set_option maxRecDepth 100000
set_option maxHeartbeats 1000000
attribute [local irreducible] obj Own av
namespace Go.Proofs.YtojafegjlahajaaGreatDoor
theorem RJ {r:Fr} {va:Value} {xs:List aP} {f:FuncId} {first cap:Array Value} (ha:aj bK r va xs) (hc:dA prog f=true) (q:aP→Bool)
  (con:∀ cs x,x∈xs→bK.rel r cs x→ay prog f (first++#[.agg cs.toArray]++cap) r [] (aL fun v U=>v=.bool (q x)∧U=[])) :
  ay prog 331 #[va,.func (.func f) first cap] r [] (aL fun v U=>∃ k:Int,v=.int .i64 k∧(0≤k↔xs.any q=true)∧U=[]):=by
 have har:=ha;refine ay.of (n:=19) [va,.func (.func f) first cap] rfl func331 rfl rfl rfl fun g hg R hR=>?_;have ha:=ha.mono hg;have hbd:=ha.bound;obtain ⟨a1,c1,rfl⟩:=ha.shape;refine S.seq<|S.region rfl<|O.q 1 rfl<|O.nil<|S.seq<|S.seq<|S.region rfl<|O.q 1 rfl<|O.op (.p rfl) (.len rfl underlying216 rfl)<|O.q 1 rfl<|O.nil<|S.block<|S.e6 (ι:=Nat) (fun i=>i≤xs.length∧(xs.take i).any q=false) (fun i=>[(8,.int .i64 (i:Int))]) [(0,_),(1,_),(7,_)] (fun i=>[]) (fun i=>xs.length - i) (0) (by exact ⟨by simp,by simp⟩) (.cons rfl (.nil)) (.cons rfl (.cons rfl (.cons rfl (.nil)))) rfl fun i hx ih=>?_;have aX:=cL (g:=g);obtain ⟨hx1,hx2⟩:=hx;refine S.seq<|S.region rfl<|O.op (.p rfl) (.lss rfl rfl)<|O.nil (S.seq ?_)
 first|refine S.cc rfl (fun h9=>?_) (fun h9=>?_)|refine S.b7 rfl (fun h9=>?_) (fun h9=>?_)
 ·have hi:i<xs.length:=by omega
  cases e:q xs[i] with
  |true =>
   have hy:xs.any q=true:=List.any_eq_true.2 ⟨xs[i],List.getElem_mem hi,e⟩;clear ih;refine S.skip<|S.seq<|S.block<|S.seq<|S.region rfl<|O.q 2 rfl<|O.nil<|S.seq<|S.region rfl<|O.q 3 rfl<|O.ib (.p rfl) underlying216 gF rfl rfl rfl har hg (h:=fun sq sY kY mg=>?_);have kZ:=ag.rel.mono mg hg;obtain ⟨Q_,Re,Ri,Rm,Rr,Rv,Rz,RD,rfl,Qu,OX⟩:=bK.sh kZ;refine O.op (.p rfl) (.bz isAgg220 aa rfl kY) ?_;refine O.aB (.p rfl) rfl hc rfl rfl (((con _ _ (List.getElem_mem hi) mg).sub hg)) ?_;rintro _ _ ⟨rfl,rfl⟩
   try simp only [an,aq,au]
   refine O.sT 16 rfl (by exact e) ?_;refine O.nil<|S.bx rfl<|S.seq<|S.region rfl<|O.q 2 rfl<|O.nil ?_;exact S.rt results331 rfl hR ⟨(i:Int),rfl,⟨fun _=>hy,fun _=>by omega⟩,rfl⟩
  |false =>
   refine S.skip<|S.seq<|S.block<|S.seq<|S.region rfl<|O.q 2 rfl<|O.nil<|S.seq<|S.region rfl<|O.q 3 rfl<|O.ib (.p rfl) underlying216 gF rfl rfl rfl har hg (h:=fun sq sY kY mg=>?_);have kZ:=ag.rel.mono mg hg;obtain ⟨Q_,Re,Ri,Rm,Rr,Rv,Rz,RD,rfl,Qu,OX⟩:=bK.sh kZ;refine O.op (.p rfl) (.bz isAgg220 aa rfl kY) ?_;refine O.aB (.p rfl) rfl hc rfl rfl (((con _ _ (List.getElem_mem hi) mg).sub hg)) ?_;rintro _ _ ⟨rfl,rfl⟩
   try simp only [an,aq,au]
   refine O.aN 16 rfl (by exact e) ?_;refine O.nil<|S.aQ rfl<|S.skip<|S.inBlock<|S.region rfl<|O.op (.p rfl) (.add rfl rfl (IntWalk.i64_in _ ah))<|O.q 1 rfl<|O.nil ?_;exact S.dz (ih (i+1) (by exact ⟨by omega,by rw [List.take_succ_eq_append_getElem hi,List.any_append,hx2];simp [e]⟩) ah)
 ·clear ih
  have hi:i=xs.length:=by omega
  subst hi;rw [List.take_length] at hx2;refine S.exit rfl<|S.seq<|S.region rfl<|O.q 1 rfl<|O.nil ?_;exact S.rt results331 rfl hR ⟨-1,rfl,⟨fun h=>absurd h aC,fun h=>by rw [hx2] at h;cases h⟩,rfl⟩
theorem Ng {r:Fr} {va:Value} {xs:List aP} {f:FuncId} {first cap:Array Value} (ha:aj bK r va xs) (hc:dA prog f=true) (q:aP→Bool)
  (con:∀ cs x,x∈xs→bK.rel r cs x→ay prog f (first++#[.agg cs.toArray]++cap) r [] (aL fun v U=>v=.bool (q x)∧U=[])) (h1:(Value.func (.func f) first cap).oneCell' =true) :
  ay prog 295 #[va,.func (.func f) first cap] r [] (aL fun v U=>v=.bool (xs.any q)∧U=[]):=by
 refine ay.of (n:=9) [va,.func (.func f) first cap] rfl func295 rfl rfl rfl fun g hg R hR=>?_;refine S.seq<|S.region rfl<|O.q 1 rfl<|O.nil<|S.seq<|S.region rfl<|O.q 2 rfl<|O.aB (.p rfl) rfl aa rfl rfl (((RJ ha hc q con).sub hg)) ?_;rintro mC _ ⟨SB,rfl,DB,rfl⟩
 try simp only [an,aq,au]
 refine O.op (.p rfl) (.geq rfl rfl)<|O.q 1 rfl<|O.nil ?_;exact S.rt results295 rfl hR ⟨congrArg _ (by rw [Bool.eq_iff_iff,decide_eq_true_iff];exact DB),rfl⟩
theorem Xp {r:Fr} {b:Nat} {cs ds:List Value} {x y:aP} (hx:At r ⟨b,0,none⟩ cs) (h:bK.rel r cs x) (h' :bK.rel r ds y) :
  ay prog 296 (#[]++#[.agg ds.toArray]++#[.pointer (some ⟨b,0,none⟩)]) r [] (aL fun v U=>v=.bool (decide (dQ x y≠0) && over y x)∧U=[]):=by
 obtain ⟨gI,pU,oK,Bk,gJ,pV,oL,Bl,rfl,hx1,_⟩:=bK.sh h;obtain ⟨sM,uC,uD,Bn,sN,uE,uF,Bo,rfl,hy1,_⟩:=bK.sh h';refine ay.of (n:=15) [.agg #[.string (str y.1),.int .i64 y.2.1,.int .i64 y.2.2.1,.slice sM y.2.2.2.1.length sN,.bool y.2.2.2.2.1,.slice uC y.2.2.2.2.2.1.length uE,.slice uD y.2.2.2.2.2.2.1.length uF,.slice Bn (b9 y).length Bo],.pointer (some ⟨b,0,none⟩)] rfl func296 rfl rfl rfl fun g hg R hR=>?_;have hx:=hx.mono hg;have h:=h.mono hg;have h' :=h'.mono hg;have hx1:=hx1.mono hg;have hy1:=hy1.mono hg
 by_cases e:dQ x y=0
 ·
  refine S.seq<|S.region rfl<|O.aM (.p rfl) (.box (cs:=[_,_,_,_,_,_,_,_]) rfl rfl) ?_;rintro _ _ ⟨b2,rfl,rfl⟩;refine O.q 1 rfl<|O.nil<|S.seq<|S.region rfl<|O.op (.p rfl) (.bz isAgg220 aa rfl hx) ?_;refine O.op (.p rfl) (.ia (news:=[_,_,_,_,_,_,_,_]) isAgg220) ?_;refine O.aB (.p rfl) rfl aa rfl rfl (um h h') ?_;rintro _ _ ⟨rfl,rfl⟩
  try simp only [an,aq,au]
  refine O.op (.p rfl) (.neq rfl rfl)<|O.aN 7 rfl (by simp [e]) ?_;refine O.q 8 rfl<|O.nil ?_;exact S.rt results296 rfl hR ⟨by simp [e],rfl⟩
 ·
  refine S.seq<|S.region rfl<|O.aM (.p rfl) (.box (cs:=[_,_,_,_,_,_,_,_]) rfl rfl) ?_;rintro _ _ ⟨b2,rfl,rfl⟩;refine O.q 1 rfl<|O.nil<|S.seq<|S.region rfl<|O.op (.p rfl) (.bz isAgg220 aa rfl hx) ?_;refine O.op (.p rfl) (.ia (news:=[_,_,_,_,_,_,_,_]) isAgg220) ?_;refine O.aB (.p rfl) rfl aa rfl rfl (um h h') ?_;rintro _ _ ⟨rfl,rfl⟩
  try simp only [an,aq,au]
  refine O.op (.p rfl) (.neq rfl rfl)<|O.sT 7 rfl (by simp [e]) ?_;refine O.q 1 rfl<|O.op (.g rfl rfl) (.aD rM rfl)<|O.op (.g rfl rfl) (.ia (news:=[_,_,_,_,_,_,_]) isAgg102) ?_;refine O.op (.g rfl rfl) (.fieldAddr rM rfl)<|O.op (.g rfl rfl) (.bz (cs:=[.string (str x.1),.int .i64 x.2.1,.int .i64 x.2.2.1,.slice gI x.2.2.2.1.length gJ,.bool x.2.2.2.2.1,.slice pU x.2.2.2.2.2.1.length pV,.slice oK x.2.2.2.2.2.2.1.length oL]) isAgg102 aa rfl (hx.take 7)) ?_;refine O.aB (.g rfl rfl) rfl aa rfl rfl (UC hy1 hx1) ?_;rintro _ _ ⟨rfl,rfl⟩
  try simp only [an,aq,au]
  refine O.q 2 rfl<|O.nil ?_;exact S.rt results296 rfl hR ⟨by simp [e],rfl⟩
theorem v7 {r:Fr} {b:Nat} {xs:List aP} {cs:List Value} {x:aP} (hrow:ru r b xs) (h:bK.rel r cs x) :
  ay prog 228 #[.pointer (some ⟨b,0,none⟩),.agg cs.toArray] r [] (aL fun v U=>v=.bool (iq xs x)∧U=[]):=by
 obtain ⟨gI,pU,oK,Bk,gJ,pV,oL,Bl,rfl,hx1,_⟩:=bK.sh h;obtain ⟨oB,qg,dm,har⟩:=hrow;refine ay.of (n:=11) _ rfl func228 rfl rfl rfl fun g hg R hR=>?_;have h:=h.mono hg;have dm:=dm.mono hg;have har:=har.mono hg;refine S.seq<|S.region rfl<|O.aM (.p rfl) (.box (cs:=[_,_,_,_,_,_,_,_]) rfl rfl) ?_;rintro _ _ ⟨b3,rfl,rfl⟩;refine O.q 1 rfl<|O.nil<|S.seq<|S.cW ai fun g hs hm e4=>?_;replace hg:=Fr.aH hg hs;replace hR:=bp hR hm
 try replace h:=h.mono hs
 try replace dm:=dm.mono hs
 try replace har:=har.mono hs
 clear hs hm;refine S.region rfl<|O.q 1 rfl<|O.op (.p rfl) (.nilCheck rfl)<|O.op (.p rfl) (.fieldAddr jj rfl)<|O.op (.p rfl) (.loadAt jh rfl dm rfl) ?_;refine O.op (.p rfl) (.jc rfl rfl)<|O.aB (.p rfl) rfl aa rfl rfl ((Ng har aa (fun y=>decide (dQ x y≠0) && over y x) (fun cs y hy hr=>Xp e4 h hr) rfl)) ?_;rintro _ _ ⟨rfl,rfl⟩
 try simp only [an,aq,au]
 refine O.q 1 rfl<|O.nil ?_;exact S.rt results228 rfl hR ⟨rfl,rfl⟩
theorem KB {r:Fr} {va:Value} {xs:List aP} (ha:aj cq r va xs) (hl:xs.length≤100000000000) :
  ay prog 146 #[va] r [] (eL (fun v U=>fJ xs∧∃ b,v=.pointer (some ⟨b,0,none⟩)∧U=[ff r 218 220 5 b xs]) (fun ch U=>¬ fJ xs∧ch=FE∧U=[])):=by
 have har:=ha;refine ay.of (n:=45) _ rfl func146 rfl rfl rfl fun g hg R hR=>?_;have ha:=ha.mono hg;obtain ⟨a1,c1,rfl⟩:=ha.shape;refine S.seq<|S.region rfl<|O.q 1 rfl<|O.nil<|S.seq<|S.region rfl<|O.op (.p rfl) (.build (cs:=[_]) underlying218 rfl rfl rfl rfl rfl)<|O.aM (.p rfl) (.box (cs:=[_]) rfl rfl) ?_;rintro _ _ ⟨oR,rfl,rfl⟩;refine O.q 1 rfl<|O.nil<|S.seq<|S.conv (B:=obj oR 218 [.slice none 0 0]) (C:=ff r 218 220 5 oR []) ai (fun m x=>⟨m,Fr.bU _,ff.nil x⟩) ?_;refine S.region rfl<|O.q 2 rfl<|O.qA (.p rfl) rfl aa rfl rfl ai ((KO har rfl (by simpa using hl)).sub hg) (fun ch ax w hX hW=>by (obtain ⟨hb,rfl,rfl⟩:=hX;exact hR _ _ w ⟨fun q=>(by rw [List.nil_append,q.1] at hb;cases hb),rfl,rfl⟩ hW.qE)) ?_;rintro _ _ ⟨hone,rfl,rfl⟩
 try simp only [an,aq,au]
 refine O.nil (S.seq (S.seq ?_));rw [List.nil_append] at hone;have gC:=hg;have gz:=hR
 try have vr:=ha
 refine S.iD (B:=ff r 218 220 5 oR xs) ai fun o_ dN ⟨q5,jQ,jR⟩ gp=>?_;replace hg:=Fr.aH hg dN;replace hR:=iy hR gp
 try replace ha:=ha.mono dN
 have hrow:=ff.read hg jR jQ;obtain ⟨oB,qg,i_,px⟩:=id hrow;refine S.region rfl<|O.q 1 rfl<|O.op (.p rfl) (.nilCheck rfl)<|O.op (.p rfl) (.fieldAddr jj rfl)<|O.op (.p rfl) (.loadAt jh rfl i_ rfl) ?_;refine O.op (.p rfl) (.len rfl underlying216 rfl)<|O.q 1 rfl<|O.nil<|S.block<|S.e6 (ι:=Nat) (fun i=>i≤xs.length∧∀ j (h:j<xs.length),j<i→(∀ h0:0<j,dQ xs[j-1] xs[j]<0)∧iq xs xs[j]=false) (fun i=>[(16,.int .i64 (i:Int))]) [(3,_),(14,_),(15,_)] (fun i=>[]) (fun i=>xs.length - i) (0) (by exact ⟨by simp,fun j _ h=>absurd h ah⟩) (.cons rfl (.nil)) (.cons rfl (.cons rfl (.cons rfl (.nil)))) rfl fun i hx ih=>?_;have aX:=cL (g:=o_);obtain ⟨hx1,hx2⟩:=hx;refine S.seq<|S.region rfl<|O.op (.p rfl) (.lss rfl rfl)<|O.nil (S.seq ?_)
 first|refine S.cc rfl (fun gx=>?_) (fun gx=>?_)|refine S.b7 rfl (fun gx=>?_) (fun gx=>?_)
 ·have hi:i<xs.length:=by omega
  have hnext:((∀ h0:0<i,dQ xs[i-1] xs[i]<0)∧iq xs xs[i]=false)→∀ j (h:j<xs.length),j<i+1→(∀ h0:0<j,dQ xs[j-1] xs[j]<0)∧iq xs xs[j]=false:=by
   intro q j h hj
   by_cases e:j=i
   ·subst e;exact q
   ·exact hx2 j h ah
  refine S.skip<|S.seq<|S.block<|S.seq<|S.region rfl<|O.q 1 rfl<|O.b8 (.p rfl) underlying216 gF rfl rfl rfl (by first|assumption|exact aj.mono hg zE|exact aj.left zE|exact aj.left (aj.mono hg zE)) (h:=fun sr sZ ki gq=>?_);obtain ⟨Rb,Rg,Rk,Ro,Rt,Rx,RB,RF,rfl,IQ,Ic⟩:=bK.sh gq;refine O.op (.p rfl) (.bz isAgg220 aa rfl ki) ?_;refine O.aM (.p rfl) (.alloc (cs:=[.string ⟨#[]⟩,.int .i64 0,.int .i64 0,.slice none 0 0,.bool false,.slice none 0 0,.slice none 0 0,.slice none 0 0]) zeroValue220 rfl) ?_;rintro _ _ ⟨gU,rfl,rfl⟩;refine O.q 1 rfl<|O.bu rfl (.cZ aa rfl rfl rfl rfl ai aW) ?_;refine O.nil<|S.c7 (b:=gU) (cs' :=[.string (str xs[i].1),.int .i64 xs[i].2.1,.int .i64 xs[i].2.2.1,.slice Rb xs[i].2.2.2.1.length Rt,.bool xs[i].2.2.2.2.1,.slice Rg xs[i].2.2.2.2.2.1.length Rx,.slice Rk xs[i].2.2.2.2.2.2.1.length RB,.slice Ro (b9 xs[i]).length RF]) ai rfl ?_;refine S.cW ai fun g hs hm ea=>?_;replace hg:=Fr.aH hg hs;replace hR:=bp hR hm
  try replace ha:=ha.mono hs
  try replace i_:=i_.mono hs
  try replace px:=px.mono hs
  try replace hrow:=hrow.mono hs
  try replace ki:=ki.mono hs
  try replace Ic:=Ic.mono hs
  try replace gq:=gq.mono hs
  try replace IQ:=IQ.mono hs
  replace aX:=dH aX hm;clear hs hm
  by_cases h0:i=0
  ·cases qF:iq xs xs[i] with
   |true =>
    have hno:¬ fJ xs:=fun q=>by have:=(q.2 i hi).2;rw [qF] at this;cases this
    clear ih;refine S.bB (L:=[0,1,2,3,4,5,6,7,8,9,10,11,12,13,14,15,16,17,18,19,20,21]) bA aa ?_;refine af.q 1 rfl<|.quiet (.p rfl) rfl (fun _=>.eql rfl rfl)<|af.sT 22 rfl (by exact decide_eq_true ah) ?_;refine af.q 15 rfl<|.quiet (.g rfl rfl) rfl (fun _=>.bz isAgg220 aa rfl ea) ?_;refine af.aB (.g rfl rfl) aa rfl aa rfl rfl (v7 hrow gq) ?_;rintro _ _ ⟨rfl,rfl⟩
    try simp only [an,aq,au]
    refine af.sT 39 rfl (by exact qF) ?_;refine .quiet (.g rfl rfl) rfl (fun _=>.not rfl)<|af.q 1 rfl<|af.kS (.p rfl) aa rfl aa rfl rfl (ql _) (fun ch ax w hX hW=>by (obtain ⟨hb,rfl,rfl⟩:=hX;exact hR _ _ w ⟨hno,rfl,rfl⟩ hW.qE)) ?_;rintro _ _ ⟨nG,rfl,rfl⟩
    try simp only [an,aq,au]
    exact absurd nG bI
   |false =>
    refine S.bB (L:=[0,1,2,3,4,5,6,7,8,9,10,11,12,13,14,15,16,17,18,19,20,21]) bA aa ?_;refine af.q 1 rfl<|.quiet (.p rfl) rfl (fun _=>.eql rfl rfl)<|af.sT 22 rfl (by exact decide_eq_true ah) ?_;refine af.q 15 rfl<|.quiet (.g rfl rfl) rfl (fun _=>.bz isAgg220 aa rfl ea) ?_;refine af.aB (.g rfl rfl) aa rfl aa rfl rfl (v7 hrow gq) ?_;rintro _ _ ⟨rfl,rfl⟩
    try simp only [an,aq,au]
    refine af.aN 39 rfl (by exact qF) ?_;refine .quiet (.g rfl rfl) rfl (fun _=>.not rfl)<|af.q 1 rfl<|af.kS (.p rfl) aa rfl aa rfl rfl (ql _) (fun ch ax w hX hW=>by (exact absurd hX.1 bI)) ?_;rintro _ _ ⟨nG,rfl,rfl⟩
    try simp only [an,aq,au]
    refine aI.nil<|S.inBlock<|S.region rfl<|O.op (.p rfl) (.add rfl rfl (IntWalk.i64_in _ ah))<|O.q 1 rfl<|O.nil ?_;exact S.ic aX (S.dz (ih (i+1) (by exact ⟨by omega,hnext ⟨fun h1=>absurd h1 ah,qF⟩⟩) ah))
  ·have hi1:i - 1<xs.length:=by omega
   by_cases hc:dQ xs[i-1] xs[i]<0
   ·cases qF:iq xs xs[i] with
    |true =>
     have hno:¬ fJ xs:=fun q=>by have:=(q.2 i hi).2;rw [qF] at this;cases this
     clear ih;refine S.bB (L:=[0,1,2,3,4,5,6,7,8,9,10,11,12,13,14,15,16,17,18,19,20,21]) bA aa ?_;refine af.q 1 rfl<|.quiet (.p rfl) rfl (fun _=>.eql rfl rfl)<|af.aN 22 rfl (by exact decide_eq_false ah) ?_;refine af.q 2 rfl<|.quiet (.g rfl rfl) rfl (fun _=>.nilCheck rfl)<|.quiet (.g rfl rfl) rfl (fun _=>.fieldAddr jj rfl)<|.quiet (.g rfl rfl) rfl (fun _=>.loadAt jh rfl i_ rfl) ?_;refine af.q 1 rfl<|.quiet (.g rfl rfl) rfl (fun _=>.sub rfl rfl (IntWalk.i64_in _ ah))<|af.b8 (.g rfl rfl) underlying216 gF rfl rfl (show _=(((i - 1):Nat):Int) by omega) (by first|assumption|exact aj.mono hg zE|exact aj.left zE|exact aj.left (aj.mono hg zE)) (h:=fun Kb Hp xE rW=>?_);obtain ⟨I7,I8,I9,I_,Ja,Jb,Jc,Jd,rfl,IS,Ie⟩:=bK.sh rW;refine .quiet (.g rfl rfl) rfl (fun _=>.bz isAgg220 aa rfl xE) ?_;refine .quiet (.g rfl rfl) rfl (fun _=>.bz isAgg220 aa rfl ea) ?_;refine af.aB (.g rfl rfl) aa rfl aa rfl rfl (um rW gq) ?_;rintro _ _ ⟨rfl,rfl⟩
     try simp only [an,aq,au]
     refine .quiet (.g rfl rfl) rfl (fun _=>.lss rfl rfl)<|af.sT 34 rfl (by exact decide_eq_true hc) ?_;refine af.q 3 rfl<|.quiet (.g rfl rfl) rfl (fun _=>.bz isAgg220 aa rfl ea) ?_;refine af.aB (.g rfl rfl) aa rfl aa rfl rfl (v7 hrow gq) ?_;rintro _ _ ⟨rfl,rfl⟩
     try simp only [an,aq,au]
     refine af.sT 39 rfl (by exact qF) ?_;refine .quiet (.g rfl rfl) rfl (fun _=>.not rfl)<|af.q 1 rfl<|af.kS (.p rfl) aa rfl aa rfl rfl (ql _) (fun ch ax w hX hW=>by (obtain ⟨hb,rfl,rfl⟩:=hX;exact hR _ _ w ⟨hno,rfl,rfl⟩ hW.qE)) ?_;rintro _ _ ⟨nG,rfl,rfl⟩
     try simp only [an,aq,au]
     exact absurd nG bI
    |false =>
     refine S.bB (L:=[0,1,2,3,4,5,6,7,8,9,10,11,12,13,14,15,16,17,18,19,20,21]) bA aa ?_;refine af.q 1 rfl<|.quiet (.p rfl) rfl (fun _=>.eql rfl rfl)<|af.aN 22 rfl (by exact decide_eq_false ah) ?_;refine af.q 2 rfl<|.quiet (.g rfl rfl) rfl (fun _=>.nilCheck rfl)<|.quiet (.g rfl rfl) rfl (fun _=>.fieldAddr jj rfl)<|.quiet (.g rfl rfl) rfl (fun _=>.loadAt jh rfl i_ rfl) ?_;refine af.q 1 rfl<|.quiet (.g rfl rfl) rfl (fun _=>.sub rfl rfl (IntWalk.i64_in _ ah))<|af.b8 (.g rfl rfl) underlying216 gF rfl rfl (show _=(((i - 1):Nat):Int) by omega) (by first|assumption|exact aj.mono hg zE|exact aj.left zE|exact aj.left (aj.mono hg zE)) (h:=fun Kb Hp xE rW=>?_);obtain ⟨I7,I8,I9,I_,Ja,Jb,Jc,Jd,rfl,IS,Ie⟩:=bK.sh rW;refine .quiet (.g rfl rfl) rfl (fun _=>.bz isAgg220 aa rfl xE) ?_;refine .quiet (.g rfl rfl) rfl (fun _=>.bz isAgg220 aa rfl ea) ?_;refine af.aB (.g rfl rfl) aa rfl aa rfl rfl (um rW gq) ?_;rintro _ _ ⟨rfl,rfl⟩
     try simp only [an,aq,au]
     refine .quiet (.g rfl rfl) rfl (fun _=>.lss rfl rfl)<|af.sT 34 rfl (by exact decide_eq_true hc) ?_;refine af.q 3 rfl<|.quiet (.g rfl rfl) rfl (fun _=>.bz isAgg220 aa rfl ea) ?_;refine af.aB (.g rfl rfl) aa rfl aa rfl rfl (v7 hrow gq) ?_;rintro _ _ ⟨rfl,rfl⟩
     try simp only [an,aq,au]
     refine af.aN 39 rfl (by exact qF) ?_;refine .quiet (.g rfl rfl) rfl (fun _=>.not rfl)<|af.q 1 rfl<|af.kS (.p rfl) aa rfl aa rfl rfl (ql _) (fun ch ax w hX hW=>by (exact absurd hX.1 bI)) ?_;rintro _ _ ⟨nG,rfl,rfl⟩
     try simp only [an,aq,au]
     refine aI.nil<|S.inBlock<|S.region rfl<|O.op (.p rfl) (.add rfl rfl (IntWalk.i64_in _ ah))<|O.q 1 rfl<|O.nil ?_;exact S.ic aX (S.dz (ih (i+1) (by exact ⟨by omega,hnext ⟨fun _=>hc,qF⟩⟩) ah))
   ·have hno:¬ fJ xs:=fun q=>hc ((q.2 i hi).1 ah)
    clear ih;refine S.bB (L:=[0,1,2,3,4,5,6,7,8,9,10,11,12,13,14,15,16,17,18,19,20,21]) bA aa ?_;refine af.q 1 rfl<|.quiet (.p rfl) rfl (fun _=>.eql rfl rfl)<|af.aN 22 rfl (by exact decide_eq_false ah) ?_;refine af.q 2 rfl<|.quiet (.g rfl rfl) rfl (fun _=>.nilCheck rfl)<|.quiet (.g rfl rfl) rfl (fun _=>.fieldAddr jj rfl)<|.quiet (.g rfl rfl) rfl (fun _=>.loadAt jh rfl i_ rfl) ?_;refine af.q 1 rfl<|.quiet (.g rfl rfl) rfl (fun _=>.sub rfl rfl (IntWalk.i64_in _ ah))<|af.b8 (.g rfl rfl) underlying216 gF rfl rfl (show _=(((i - 1):Nat):Int) by omega) (by first|assumption|exact aj.mono hg zE|exact aj.left zE|exact aj.left (aj.mono hg zE)) (h:=fun Kb Hp xE rW=>?_);obtain ⟨I7,I8,I9,I_,Ja,Jb,Jc,Jd,rfl,IS,Ie⟩:=bK.sh rW;refine .quiet (.g rfl rfl) rfl (fun _=>.bz isAgg220 aa rfl xE) ?_;refine .quiet (.g rfl rfl) rfl (fun _=>.bz isAgg220 aa rfl ea) ?_;refine af.aB (.g rfl rfl) aa rfl aa rfl rfl (um rW gq) ?_;rintro _ _ ⟨rfl,rfl⟩
    try simp only [an,aq,au]
    refine .quiet (.g rfl rfl) rfl (fun _=>.lss rfl rfl)<|af.aN 34 rfl (by exact decide_eq_false hc) ?_;refine af.q 7 rfl<|af.kS (.p rfl) aa rfl aa rfl rfl (ql _) (fun ch ax w hX hW=>by (obtain ⟨hb,rfl,rfl⟩:=hX;exact hR _ _ w ⟨hno,rfl,rfl⟩ hW.qE)) ?_;rintro _ _ ⟨nG,rfl,rfl⟩
    try simp only [an,aq,au]
    exact absurd nG bI
 ·clear ih
  have hi:i=xs.length:=by omega
  subst hi;refine S.exit rfl<|S.seq<|S.back gp ?_;replace hg:=gC;replace hR:=gz
  try replace ha:=vr
  clear gC gz;refine S.region rfl<|O.q 2 rfl<|O.nil ?_;exact S.rt results146 rfl hR ⟨⟨hone,fun j h=>hx2 j h h⟩,oR,rfl,rfl⟩
theorem W6 {g:bk} {be bT:Nat} {x:Value} {z:Int} {eD eW:TypeId} {w:World} {R:Ending→World→Prop} {U:List az} (hw:Holds w g (obj bT eD [x]::obj be eW [.int .i64 z]::U)) (hR:∀ w,Holds w g (obj bT eD [x]::obj be eW [.int .i64 z]::U)→R (.returned (.tuple #[x,.int .i64 z])) w) :
  CallsD prog 224 #[.pointer (some ⟨be,0,none⟩),.pointer (some ⟨bT,0,none⟩)] .returning w (sQ prog g bT be 24 44 R):=by
 refine (oa (R:=fun e w=>(∃ v,e=.returned v)∧Holds w g (obj bT eD [x]::obj be eW [.int .i64 z]::U)) [.pointer (some ⟨be,0,none⟩),.pointer (some ⟨bT,0,none⟩)] rfl func224 rfl rfl rfl rfl hw ?_).mono ?_
 rotate_left
 ·rintro e u' w' ⟨rfl,⟨v,rfl⟩,h⟩
  exact ⟨⟨v,rfl⟩,rfl,eD,eW,_,_,_,_,U,h,fS.flat bc,fS.flat oc,hR w' h⟩
 refine S.seq<|S.region rfl<|O.q 1 rfl<|O.op (.p rfl) (.vK underlying20 rfl)<|O.nil<|S.aQ rfl<|S.skip<|S.ev results224 fun w hw=>?_;exact ⟨⟨_,rfl⟩,hw⟩
theorem W5 {g:bk} {be bT:Nat} {x:Value} {z z' :Int} {eD eW:TypeId} {w:World} {R:Ending→World→Prop} {U:List az} (hw:Holds w g (obj bT eD [x]::obj be eW [.int .i64 z']::U))
  (hR:∀ w,Holds w g (obj bT eD [.slice none 0 0]::obj be eW [.int .i64 z]::U)→R (.returned (.tuple #[.slice none 0 0,.int .i64 z])) w) :
  CallsD prog 224 #[.pointer (some ⟨be,0,none⟩),.pointer (some ⟨bT,0,none⟩)] (.panicking (o6 44 z)) w (sQ prog g bT be 24 44 R):=by
 refine (oa (R:=fun e w=>(∃ v,e=.returned v)∧Holds w g (obj bT eD [.slice none 0 0]::obj be eW [.int .i64 z]::U)) [.pointer (some ⟨be,0,none⟩),.pointer (some ⟨bT,0,none⟩)] rfl func224 rfl rfl rfl rfl hw ?_).mono ?_
 rotate_left
 ·rintro e u' w' ⟨rfl,⟨v,rfl⟩,h⟩
  exact ⟨⟨v,rfl⟩,rfl,eD,eW,_,_,_,_,U,h,fS.flat bc,fS.flat oc,hR w' h⟩
 refine S.seq<|S.region rfl<|O.q 1 rfl<|O.op (.p rfl) (.vL underlying20 rfl)<|O.nil<|S.bx rfl<|S.seq<|S.region rfl<|O.q 1 rfl<|O.nil<|S.seq<|S.seq<|S.region rfl<|O.q 1 rfl<|O.op (.p rfl) (.uV underlying44 rfl)<|O.q 3 rfl<|O.bu rfl (.bn oc rfl rfl bq ai aW) ?_;refine O.q 1 rfl<|O.nil<|S.seq<|S.region rfl<|O.q 1 rfl<|O.op (.p rfl) (.not rfl)<|O.nil<|S.aQ rfl<|S.skip<|S.seq<|S.region rfl<|O.q 1 rfl<|O.nil<|S.region rfl<|O.q 1 rfl<|O.bu rfl (.bn bc rfl rfl bq ai aW) ?_;refine O.nil<|S.ev results224 fun w hw=>?_;exact ⟨⟨_,rfl⟩,hw.jU jx⟩
theorem W4 {r:Fr} {f:Nat} {first cap:Array Value} {K:Value→List az→Prop} {X:Int→Prop} (hc:dA prog f=true) (p7:(Value.func (.func f) first cap).oneCell' =true) (pe:∀ u ζ,K u ζ→u.oneCell' =true)
  (con:ay prog f (first++#[]++cap) r [] (eL K (fun ch U=>∃ z,ch=o6 44 z∧X z∧U=[]))) :
  ay prog 144 #[.func (.func f) first cap] r [] (aL fun v U=>(∃ u,K u U∧v=.tuple #[u,.int .i64 0])∨(∃ z,X z∧U=[]∧v=.tuple #[.slice none 0 0,.int .i64 z])):=by
 refine ay.of (n:=7) [.func (.func f) first cap] rfl func144 rfl rfl rfl fun g hg R hR=>?_;refine S.seq<|S.region rfl<|O.aM (.p rfl) (.alloc (cs:=[.slice none 0 0]) zeroValue24 rfl) ?_;rintro _ _ ⟨b2,rfl,rfl⟩;refine O.aM (.p rfl) (.alloc (cs:=[.int .i64 0]) zeroValue44 rfl) ?_;rintro _ _ ⟨b3,rfl,rfl⟩;refine O.nil<|S.seq<|S.region rfl<|O.op (.p rfl) (.jc rfl rfl)<|O.defer rfl rfl rfl rfl ?_;refine O.nil<|S.seq<|S.region rfl<|O.q 1 rfl<|O.B4 (.p rfl) rfl hc rfl rfl (con.sub hg) (fun a ch ax w hF hX hW=>by (obtain ⟨z,rfl,hx,rfl⟩:=hX;exact vH results144 hF rfl rfl bI aa (W5 (hW.jU jx) fun w hw=>Holds.end_ hR hw ⟨_,.inr ⟨z,hx,rfl,rfl⟩,by repeat (first|exact aS|exact aU|(apply aT;focus (repeat (first|exact aR|apply zt)))|apply aV)⟩))) ?_;rintro v6 _ rU
 try simp only [an,aq,au]
 have hone:=pe _ _ rU;refine O.perm (List.perm_append_comm) ?_;simp only [List.cons_append,List.nil_append];refine O.bu rfl (.bn bc rfl rfl bq ai aW) ?_;refine O.bu rfl (.bn oc rfl rfl bq ai aW) ?_;refine O.nil<|S.q8 fun a w hf hd hw=>?_;exact vH results144 hf rfl rfl bI aa (W6 (hw.jU jx) fun w hw=>Holds.end_ hR hw ⟨_,.inl ⟨_,rU,rfl⟩,by repeat (first|exact aS|exact aU|(apply aT;focus (repeat (first|exact aR|apply zt)))|apply aV)⟩)
theorem Ww {r:Fr} {b:Nat} {va:Value} {xs:List aP} (hb:At r ⟨b,0,none⟩ [va]) (ha:aj cq r va xs) (hl:xs.length≤1000000000) :
  ay prog 145 (#[]++#[]++#[.pointer (some ⟨b,0,none⟩)]) r [] (eL (fun v U=>fJ xs∧∃ a c,v=.slice a (kQ xs).length c∧U=[av ag.u8 5 (.slice a (kQ xs).length c) (kQ xs)]) (fun ch U=>∃ z,ch=o6 44 z∧(¬ fJ xs∧z=4)∧U=[])):=by
 have har:=ha;refine ay.of (n:=31) [.pointer (some ⟨b,0,none⟩)] rfl func145 rfl rfl rfl fun g hg R hR=>?_;have hb:=hb.mono hg;have ha:=ha.mono hg;obtain ⟨a1,c1,rfl⟩:=ha.shape;refine S.seq<|S.region rfl<|O.q 1 rfl<|O.nil<|S.seq<|S.region rfl<|O.op (.p rfl) (.loadAt ew rfl hb rfl) ?_;refine O.kS (.p rfl) rfl aa rfl rfl (((KB har ah).sub hg)) (fun ch ax w hX hW=>by (obtain ⟨hb,rfl,rfl⟩:=hX;exact hR _ _ w ⟨4,rfl,⟨hb,rfl⟩,rfl⟩ hW.qE)) ?_;rintro _ _ ⟨hright,oR,rfl,rfl⟩
 try simp only [an,aq,au]
 refine O.q 1 rfl<|O.nil<|S.seq<|S.d_ (A:=ff r 218 220 5 oR xs) ai fun g hs hm ⟨_,x',s'⟩=>?_;have hrow:=ff.read (Fr.aH hg hs) s' x';clear x' s';replace hg:=Fr.aH hg hs;replace hR:=bp hR hm
 try replace ha:=ha.mono hs
 try replace hb:=hb.mono hs
 clear hs hm;obtain ⟨oB,qg,i_,px⟩:=id hrow;refine S.region rfl<|O.q 1 rfl<|O.op (.p rfl) (.nilCheck rfl)<|O.op (.p rfl) (.fieldAddr jj rfl)<|O.op (.p rfl) (.loadAt jh rfl i_ rfl) ?_;refine O.op (.p rfl) (.len rfl underlying216 rfl)<|O.aB (.p rfl) rfl aa rfl rfl (kq _) ?_;rintro _ _ ⟨iO,iR,rfl,rfl⟩
 try simp only [an,aq,au]
 refine O.q 1 rfl<|O.nil (S.seq (S.seq ?_));have hone:=hright.1;have hbd:=KH hone;refine S.region rfl<|O.q 1 rfl<|O.op (.p rfl) (.nilCheck rfl)<|O.op (.p rfl) (.fieldAddr jj rfl)<|O.op (.p rfl) (.loadAt jh rfl i_ rfl) ?_;refine O.op (.p rfl) (.len rfl underlying216 rfl)<|O.q 1 rfl<|O.nil<|S.block<|S.conv (C:=av ag.u8 5 (.slice iO (8+(jW (xs.take 0)).length) iR) (be xs.length++jW (xs.take 0))) a_.here (fun m x=>⟨m,Fr.bU _,by simpa [jW] using x⟩) ?_;refine S.jT (ι:=Nat) (dI:=Option Addr × Nat) (fun i p=>i≤xs.length) (fun i p=>[(19,.int .i64 (i:Int)),(3,.slice p.1 (8+(jW (xs.take i)).length) p.2)]) [(17,_),(18,_)] (fun i p=>[av ag.u8 5 (.slice p.1 (8+(jW (xs.take i)).length) p.2) (be xs.length++jW (xs.take i))]) (fun i p=>xs.length - i) (0) ((iO,iR)) ah (.cons rfl (.cons rfl (.nil))) (.cons rfl (.cons rfl (.nil))) rfl fun i p hx ih=>?_;have aX:=cL (g:=g);refine S.seq<|S.region rfl<|O.op (.p rfl) (.lss rfl rfl)<|O.nil (S.seq ?_)
 first|refine S.cc rfl (fun fL=>?_) (fun fL=>?_)|refine S.b7 rfl (fun fL=>?_) (fun fL=>?_)
 ·have hi:i<xs.length:=by omega
  have kW:=AQ (q7 hone xs[i] (List.getElem_mem hi));have iF:=FC (xs.take i) (q7 (E3 i hone));rw [List.length_take,Nat.min_eq_left hx] at iF;have htk:[be xs.length++jW (xs.take i),bytesOf (b9 xs[i])].flatten=be xs.length++jW (xs.take (i+1)):=by rw [List.take_succ_eq_append_getElem hi,VT];simp
  have jF:(be (xs.length:Int)++jW (xs.take (i+1))).length=8+(jW (xs.take (i+1))).length:=by simp
  have e4:(be (xs.length:Int)++jW (xs.take (i+1))).length≤140737488355328:=by
   have:=FC (xs.take (i+1)) (q7 (E3 (i+1) hone));rw [List.length_take] at this
   simp;omega
  generalize cI:jW (xs.take i)=so at htk iF ⊢;refine S.skip<|S.seq<|S.block<|S.seq<|S.region rfl<|O.b8 (.p rfl) underlying216 gF rfl rfl rfl (by first|assumption|exact aj.mono hg zE|exact aj.left zE|exact aj.left (aj.mono hg zE)) (h:=fun AG za qQ py=>?_);obtain ⟨Zx,Zy,Zz,ZA,ZB,ZC,ZD,ZE,rfl,Zo,YO⟩:=bK.sh py;refine O.op (.p rfl) (.bz isAgg220 aa rfl qQ) ?_;refine O.aM (.p rfl) (.alloc (cs:=[.string ⟨#[]⟩,.int .i64 0,.int .i64 0,.slice none 0 0,.bool false,.slice none 0 0,.slice none 0 0,.slice none 0 0]) zeroValue220 rfl) ?_;rintro _ _ ⟨gU,rfl,rfl⟩;refine O.bu rfl (.cZ aa rfl rfl rfl rfl ai aW) ?_;refine O.nil<|S.region rfl<|O.q 1 rfl<|O.op (.p rfl) (.aD zw rfl)<|O.op (.p rfl) (.lo bc) ?_;refine O.aB (.p rfl) rfl aa rfl rfl (v_ (by first|assumption|exact aj.mono hg zE|exact aj.left zE|exact aj.left (aj.mono hg zE)) bJ) ?_;rintro _ _ ⟨a26,iA,rfl,rfl⟩
  try simp only [an,aq,au]
  generalize YS:bytesOf (b9 xs[i])=bb at htk ⊢;refine O.aM (.p rfl) (.ct (T:=ag.val) (ys:=[_,_]) underlying109 iC aC rfl rfl ⟨⟨rfl,rfl⟩,⟨rfl,rfl⟩,trivial⟩ aC) ?_;rintro _ _ ⟨a27,sX,rfl,rfl⟩;refine O.dw (.p rfl) rfl aa rfl rfl (bs:=[av ag.val 24 (.slice a27 2 sX) [.slice p.1 (8+so.length) p.2,.slice a26 bb.length iA],av ag.u8 5 (.slice p.1 (8+so.length) p.2) (be xs.length++so),av ag.u8 5 (.slice a26 bb.length iA) bb]) bf (fun m hm hd=>Bi (xss:=[be xs.length++so,bb]) ((hm.arr.right hd).rows ⟨hm.tail.arr.right hd,hm.tail.tail.arr.right hd,trivial⟩) (by rw [htk];exact e4)) ?_;rintro _ _ ⟨a28,uZ,rfl,rfl⟩
  try simp only [an,aq,au]
  refine O.q 1 rfl<|O.nil<|S.inBlock<|S.region rfl<|O.op (.p rfl) (.add rfl rfl (IntWalk.i64_in _ ah))<|O.q 1 rfl<|O.nil ?_;rw [htk,jF];exact S.pw (ih (i+1) ((a28,uZ)) ah ah)
 ·clear ih
  have hi:i=xs.length:=by omega
  subst hi;rw [List.take_length];have IC:8+(jW xs).length=(kQ xs).length:=by simp [kQ]
  rw [IC];refine S.exit rfl<|S.seq<|S.region rfl<|O.q 2 rfl<|O.nil ?_;exact S.rt results145 rfl hR ⟨hright,p.1,p.2,rfl,rfl⟩
noncomputable def mX (l:List aP):List UInt8:=if fJ l then kQ l else []
noncomputable def sy (l:List aP):Int:=if fJ l then 0 else 4
theorem VU {r:Fr} {first cap:Array Value} {xs:List aP} (con:ay prog 145 (first++#[]++cap) r [] (eL (fun v U=>fJ xs∧∃ a c,v=.slice a (kQ xs).length c∧U=[av ag.u8 5 (.slice a (kQ xs).length c) (kQ xs)]) (fun ch U=>∃ z,ch=o6 44 z∧(¬ fJ xs∧z=4)∧U=[]))) (h1:(Value.func (.func 145) first cap).oneCell' =true:=by rfl) :
  ay prog 144 #[.func (.func 145) first cap] r [] (aL fun v U=>∃ a c,v=.tuple #[.slice a (mX xs).length c,.int .i64 (sy xs)]∧U=[av ag.u8 5 (.slice a (mX xs).length c) (mX xs)]) :=
 (W4 aa h1 (fun _ _ h=>by obtain ⟨_,_,_,rfl,_⟩:=h;rfl) con).post fun e U h w g hw=>by
  cases e with
  |returned v =>
   rcases h with ⟨u,⟨hs,a,c,rfl,rfl⟩,rfl⟩|⟨z,⟨hs,rfl⟩,rfl,rfl⟩
   ·exact ⟨_,⟨a,c,by simp [mX,sy,hs],rfl⟩,by simpa [mX,hs] using hw⟩
   ·exact ⟨_,⟨none,0,by simp [mX,sy,hs],rfl⟩,by simp only [mX,hs,if_false];exact hw.imp fun m x=>⟨Fr.emp,m,Fr.dZ _,Fr.cV _,Fr.bU _,AB _,x⟩⟩
  |panicked _=>exact h.elim
  |outgrown=>exact h.elim
theorem KM {r:Fr} {va:Value} {xs:List aP} (ha:aj cq r va xs) (hl:xs.length≤1000000000) :
  ay prog 77 #[va] r [] (aL fun v U=>∃ a c,v=.tuple #[.slice a (mX xs).length c,.int .i64 (sy xs)]∧U=[av ag.u8 5 (.slice a (mX xs).length c) (mX xs)]):=by
 refine ay.of (n:=8) _ rfl func77 rfl rfl rfl fun g hg R hR=>?_;have ha:=ha.mono hg;obtain ⟨a1,c1,rfl⟩:=ha.shape;refine S.seq<|S.region rfl<|O.aM (.p rfl) (.box (cs:=[_]) rfl rfl) ?_;rintro _ _ ⟨b1,rfl,rfl⟩;refine O.q 2 rfl<|O.nil<|S.seq<|S.cW ai fun g hs hm kW=>?_;replace hg:=Fr.aH hg hs;replace hR:=bp hR hm
 try replace ha:=ha.mono hs
 clear hs hm;refine S.region rfl<|O.op (.p rfl) (.jc rfl rfl)<|O.aB (.p rfl) rfl aa rfl rfl ((VU (Ww kW ha hl))) ?_;rintro _ _ ⟨a5,dP,rfl,rfl⟩
 try simp only [an,aq,au]
 refine O.q 4 rfl<|O.nil<|S.mW results77 rfl rfl fun w hw=>Holds.end_ hR hw ?_;exact pk ⟨a5,dP,rfl,rfl⟩
theorem Ke {r:Fr} {cs:List Value} {x:j5} (h:jg.rel r cs x):ay prog 284 #[.agg cs.toArray] r [] (aL fun v U=>v=.bool (yq x)∧U=[]):=by
 obtain ⟨gI,sI,gJ,sK,rfl,k0,k1,k2,bg,vE⟩:=jg.sh h;refine ay.of (n:=44) _ rfl func284 rfl rfl rfl fun g hg R hR=>?_;refine S.seq<|S.region rfl<|O.aM (.p rfl) (.box (cs:=[_,_,_,_,_]) rfl rfl) ?_;rintro _ _ ⟨b1,rfl,rfl⟩;refine O.q 1 rfl<|O.nil<|S.seq<|S.region rfl<|O.op (.p rfl) (.aD rN rfl)<|O.op (.p rfl) (.aD wZ rfl)<|O.op (.p rfl) (.lo cv) ?_;refine O.op (.p rfl) (.geq rfl rfl)<|O.q 1 rfl ?_
 first|refine O.dx 7 rfl (fun h7=>?_) (fun h7=>?_)|refine O.c_ 7 rfl (fun h7=>?_) (fun h7=>?_)
 ·refine O.op (.g rfl rfl) (.aD rN rfl)<|O.op (.g rfl rfl) (.aD wZ rfl)<|O.op (.g rfl rfl) (.lo cv) ?_
  refine O.op (.g rfl rfl) (.leq rfl rfl)<|O.q 2 rfl ?_
  first|refine O.dx 13 rfl (fun iW=>?_) (fun iW=>?_)|refine O.c_ 13 rfl (fun iW=>?_) (fun iW=>?_)
  ·refine O.op (.g rfl rfl) (.aD rN rfl)<|O.op (.g rfl rfl) (.aD vi rfl)<|O.op (.g rfl rfl) (.lo cv) ?_
   refine O.op (.g rfl rfl) (.geq rfl rfl)<|O.q 2 rfl ?_
   first|refine O.dx 19 rfl (fun td=>?_) (fun td=>?_)|refine O.c_ 19 rfl (fun td=>?_) (fun td=>?_)
   ·refine O.op (.g rfl rfl) (.aD rN rfl)<|O.op (.g rfl rfl) (.aD vi rfl)<|O.op (.g rfl rfl) (.lo cv) ?_
    refine O.op (.g rfl rfl) (.lss rfl rfl)<|O.q 2 rfl ?_
    first|refine O.dx 25 rfl (fun rQ=>?_) (fun rQ=>?_)|refine O.c_ 25 rfl (fun rQ=>?_) (fun rQ=>?_)
    ·refine O.op (.g rfl rfl) (.aD rN rfl)<|O.op (.g rfl rfl) (.aD HK rfl)<|O.op (.g rfl rfl) (.lo cv) ?_
     refine O.op (.g rfl rfl) (.geq rfl rfl)<|O.q 2 rfl ?_
     first|refine O.dx 31 rfl (fun fM=>?_) (fun fM=>?_)|refine O.c_ 31 rfl (fun fM=>?_) (fun fM=>?_)
     ·refine O.op (.g rfl rfl) (.aD rN rfl)<|O.op (.g rfl rfl) (.aD HK rfl)<|O.op (.g rfl rfl) (.lo cv) ?_
      refine O.op (.g rfl rfl) (.leq rfl rfl)<|O.q 2 rfl ?_
      first|refine O.dx 37 rfl (fun CS=>?_) (fun CS=>?_)|refine O.c_ 37 rfl (fun CS=>?_) (fun CS=>?_)
      ·refine O.op (.g rfl rfl) (.aD rN rfl)<|O.op (.g rfl rfl) (.aD CF rfl)<|O.op (.g rfl rfl) (.lo bc) ?_
       refine O.op (.g rfl rfl) (.len rfl underlying24 rfl)<|O.op (.g rfl rfl) (.eql rfl rfl)<|O.q 2 rfl<|O.nil<|S.ret results284 rfl fun w hw=>Holds.end_ hR hw ?_
       first|exact ⟨_,⟨congrArg _ (decide_eq_false ah).symm,rfl⟩,by repeat (first|exact aS|exact aU|(apply aT;focus (repeat (first|exact aR|apply zt)))|apply aV)⟩|exact ⟨_,⟨congrArg _ (decide_eq_decide.2 ah),rfl⟩,by repeat (first|exact aS|exact aU|(apply aT;focus (repeat (first|exact aR|apply zt)))|apply aV)⟩
      ·refine O.q 7 rfl<|O.nil<|S.ret results284 rfl fun w hw=>Holds.end_ hR hw ?_
       first|exact ⟨_,⟨congrArg _ (decide_eq_false ah).symm,rfl⟩,by repeat (first|exact aS|exact aU|(apply aT;focus (repeat (first|exact aR|apply zt)))|apply aV)⟩|exact ⟨_,⟨congrArg _ (decide_eq_decide.2 ah),rfl⟩,by repeat (first|exact aS|exact aU|(apply aT;focus (repeat (first|exact aR|apply zt)))|apply aV)⟩
     ·refine O.q 13 rfl<|O.nil<|S.ret results284 rfl fun w hw=>Holds.end_ hR hw ?_
      first|exact ⟨_,⟨congrArg _ (decide_eq_false ah).symm,rfl⟩,by repeat (first|exact aS|exact aU|(apply aT;focus (repeat (first|exact aR|apply zt)))|apply aV)⟩|exact ⟨_,⟨congrArg _ (decide_eq_decide.2 ah),rfl⟩,by repeat (first|exact aS|exact aU|(apply aT;focus (repeat (first|exact aR|apply zt)))|apply aV)⟩
    ·refine O.q 19 rfl<|O.nil<|S.ret results284 rfl fun w hw=>Holds.end_ hR hw ?_
     first|exact ⟨_,⟨congrArg _ (decide_eq_false ah).symm,rfl⟩,by repeat (first|exact aS|exact aU|(apply aT;focus (repeat (first|exact aR|apply zt)))|apply aV)⟩|exact ⟨_,⟨congrArg _ (decide_eq_decide.2 ah),rfl⟩,by repeat (first|exact aS|exact aU|(apply aT;focus (repeat (first|exact aR|apply zt)))|apply aV)⟩
   ·refine O.q 25 rfl<|O.nil<|S.ret results284 rfl fun w hw=>Holds.end_ hR hw ?_
    first|exact ⟨_,⟨congrArg _ (decide_eq_false ah).symm,rfl⟩,by repeat (first|exact aS|exact aU|(apply aT;focus (repeat (first|exact aR|apply zt)))|apply aV)⟩|exact ⟨_,⟨congrArg _ (decide_eq_decide.2 ah),rfl⟩,by repeat (first|exact aS|exact aU|(apply aT;focus (repeat (first|exact aR|apply zt)))|apply aV)⟩
  ·refine O.q 31 rfl<|O.nil<|S.ret results284 rfl fun w hw=>Holds.end_ hR hw ?_
   first|exact ⟨_,⟨congrArg _ (decide_eq_false ah).symm,rfl⟩,by repeat (first|exact aS|exact aU|(apply aT;focus (repeat (first|exact aR|apply zt)))|apply aV)⟩|exact ⟨_,⟨congrArg _ (decide_eq_decide.2 ah),rfl⟩,by repeat (first|exact aS|exact aU|(apply aT;focus (repeat (first|exact aR|apply zt)))|apply aV)⟩
 ·refine O.q 37 rfl<|O.nil<|S.ret results284 rfl fun w hw=>Holds.end_ hR hw ?_
  first|exact ⟨_,⟨congrArg _ (decide_eq_false ah).symm,rfl⟩,by repeat (first|exact aS|exact aU|(apply aT;focus (repeat (first|exact aR|apply zt)))|apply aV)⟩|exact ⟨_,⟨congrArg _ (decide_eq_decide.2 ah),rfl⟩,by repeat (first|exact aS|exact aU|(apply aT;focus (repeat (first|exact aR|apply zt)))|apply aV)⟩
theorem Ug {r:Fr} {cs:List Value} {x:j5} (h:jg.rel r cs x):ay prog 205 #[.agg cs.toArray] r [] (aL fun v U=>v=.bool (oE x)∧U=[]):=by
 obtain ⟨gI,sI,gJ,sK,rfl,k0,k1,k2,bg,vE⟩:=jg.sh h;refine ay.of (n:=12) _ rfl func205 rfl rfl rfl fun g hg R hR=>?_;have h:=h.mono hg
 cases e:yq x with
 |false =>
  refine S.seq<|S.region rfl<|O.aM (.p rfl) (.box (cs:=[_,_,_,_,_]) rfl rfl) ?_;rintro _ _ ⟨b1,rfl,rfl⟩;refine O.q 1 rfl<|O.nil<|S.seq<|S.region rfl<|O.op (.p rfl) (.ia (news:=[_,_,_,_,_]) isAgg271) ?_;refine O.aB (.p rfl) rfl aa rfl rfl (Ke h) ?_;rintro _ _ ⟨rfl,rfl⟩
  try simp only [an,aq,au]
  refine O.aN 4 rfl (by exact e) ?_;refine O.q 8 rfl<|O.nil ?_;exact S.rt results205 rfl hR ⟨by simp [oE,e],rfl⟩
 |true =>
  refine S.seq<|S.region rfl<|O.aM (.p rfl) (.box (cs:=[_,_,_,_,_]) rfl rfl) ?_;rintro _ _ ⟨b1,rfl,rfl⟩;refine O.q 1 rfl<|O.nil<|S.seq<|S.region rfl<|O.op (.p rfl) (.ia (news:=[_,_,_,_,_]) isAgg271) ?_;refine O.aB (.p rfl) rfl aa rfl rfl (Ke h) ?_;rintro _ _ ⟨rfl,rfl⟩
  try simp only [an,aq,au]
  refine O.sT 4 rfl (by exact e) ?_;refine O.q 1 rfl<|O.op (.g rfl rfl) (.aD rN rfl)<|O.op (.g rfl rfl) (.aD N7 rfl)<|O.op (.g rfl rfl) (.lo bc) ?_;refine O.op (.g rfl rfl) (.len rfl underlying24 rfl)<|O.op (.g rfl rfl) (.eql rfl rfl)<|O.q 2 rfl<|O.nil ?_;exact S.rt results205 rfl hR ⟨by simp [oE,e];omega,rfl⟩
theorem FK {r:Fr} {cs:List Value} {x:j5} (h:jg.rel r cs x):ay prog 121 #[.agg cs.toArray] r [] (aL fun v U=>v=.bool (oE x)∧U=[]):=by
 obtain ⟨gI,sI,gJ,sK,rfl,k0,k1,k2,bg,vE⟩:=jg.sh h;refine ay.of (n:=6) _ rfl func121 rfl rfl rfl fun g hg R hR=>?_;have h:=h.mono hg;refine S.seq<|S.region rfl<|O.aM (.p rfl) (.box (cs:=[_,_,_,_,_]) rfl rfl) ?_;rintro _ _ ⟨b1,rfl,rfl⟩;refine O.q 1 rfl<|O.nil<|S.seq<|S.region rfl<|O.op (.p rfl) (.ia (news:=[_,_,_,_,_]) isAgg81) ?_;refine O.op (.p rfl) (.build (cs:=[_,_,_,_,_]) underlying271 rfl rfl rfl rfl rfl)<|O.aB (.p rfl) rfl aa rfl rfl (Ug h) ?_;rintro _ _ ⟨rfl,rfl⟩
 try simp only [an,aq,au]
 refine O.q 1 rfl<|O.nil ?_;exact S.rt results121 rfl hR ⟨rfl,rfl⟩
theorem Mp {r:Fr} {va je:Value} {xs ys:List UInt8} (ha:aj ag.u8 r va xs) (hb:aj ag.u8 r je ys):ay prog 308 #[va,je] r [] (aL fun v U=>v=.int .i64 (Lib.compareBytes xs ys)∧U=[]):=by
 refine ay.of (n:=8) _ rfl func308 rfl rfl rfl fun g hg R hR=>?_;have ha:=ha.mono hg;have hb:=hb.mono hg;obtain ⟨a1,c1,rfl⟩:=ha.shape;obtain ⟨a2,c2,rfl⟩:=hb.shape;refine S.seq<|S.region rfl<|O.q 1 rfl<|O.nil<|S.seq<|S.region rfl<|O.q 2 rfl<|O.op (.p rfl) (.Na func342 aa rfl aa aa rfl rfl rfl ha hb)<|O.q 1 rfl<|O.nil ?_;exact S.rt results308 rfl hR ⟨rfl,rfl⟩
end Go.Proofs.YtojafegjlahajaaGreatDoor
