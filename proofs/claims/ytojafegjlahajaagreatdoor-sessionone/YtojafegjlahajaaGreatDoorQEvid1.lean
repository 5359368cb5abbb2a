/- Texts of this proof. -/
import Derived.Test.YtojafegjlahajaaGreatDoorQSib1
open Go Go.Sp Go.Proofs.Tryz
set_option maxRecDepth 100000
set_option maxHeartbeats 1000000
attribute [local irreducible] obj Own av
namespace Go.Proofs.YtojafegjlahajaaGreatDoor
theorem Qm {r:Fr} {va:Value} {xs:List aQ} {f:FuncId} {first cap:Array Value} (ha:aj bK r va xs) (hc:dr prog f=true) (q:aQ→Bool)
  (con:∀ cs x,x∈xs→bK.rel r cs x→ay prog f (first++#[.agg cs.toArray]++cap) r [] (aM fun v U=>v=.bool (q x)∧U=[])) :
  ay prog 331 #[va,.func (.func f) first cap] r [] (aM fun v U=>∃ k:Int,v=.int .i64 k∧(0≤k↔xs.any q=true)∧U=[]):=by
 have har:=ha;refine ay.of (n:=19) [va,.func (.func f) first cap] rfl func331 rfl rfl rfl fun g hg R hR=>?_;have ha:=ha.mono hg;have hbd:=ha.bound;obtain ⟨a1,c1,rfl⟩:=ha.shape;refine S.seq<|S.region rfl<|O.q 1 rfl<|O.nil<|S.seq<|S.seq<|S.region rfl<|O.q 1 rfl<|O.op (.p rfl) (.len rfl underlying216 rfl)<|O.q 1 rfl<|O.nil<|S.block<|S.fT (ι:=Nat) (fun i=>i≤xs.length∧(xs.take i).any q=false) (fun i=>[(8,.int .i64 (i:Int))]) [(0,_),(1,_),(7,_)] (fun i=>[]) (fun i=>xs.length - i) (0) (by exact ⟨by simp,by simp⟩) (.cons rfl (.nil)) (.cons rfl (.cons rfl (.cons rfl (.nil)))) rfl fun i hx ih=>?_;have bl:=cW (g:=g);obtain ⟨hx1,hx2⟩:=hx;refine S.seq<|S.region rfl<|O.op (.p rfl) (.lss rfl rfl)<|O.nil (S.seq ?_)
 first|refine S.ct rfl (fun h9=>?_) (fun h9=>?_)|refine S.cm rfl (fun h9=>?_) (fun h9=>?_)
 ·have hi:i<xs.length:=by omega
  cases e:q xs[i] with
  |true =>
   have hy:xs.any q=true:=List.any_eq_true.2 ⟨xs[i],List.getElem_mem hi,e⟩;clear ih;refine S.skip<|S.seq<|S.block<|S.seq<|S.region rfl<|O.q 2 rfl<|O.nil<|S.seq<|S.region rfl<|O.q 3 rfl<|O.ib (.p rfl) underlying216 gz rfl rfl rfl har hg (h:=fun vi v8 nu oV=>?_);have oR:=ag.rel.mono oV hg;obtain ⟨PJ,PN,PT,PX,P4,P8,Qb,Qf,rfl,O4,NO⟩:=bK.sh oR;refine O.op (.p rfl) (.bI isAgg220 aa rfl nu) ?_;refine O.aC (.p rfl) rfl hc rfl rfl (((con _ _ (List.getElem_mem hi) oV).sub hg)) ?_;rintro _ _ ⟨rfl,rfl⟩
   try simp only [an,aq,au]
   refine O.sT 16 rfl (by exact e) ?_;refine O.nil<|S.bC rfl<|S.seq<|S.region rfl<|O.q 2 rfl<|O.nil ?_;exact S.rt results331 rfl hR ⟨(i:Int),rfl,⟨fun _=>hy,fun _=>by omega⟩,rfl⟩
  |false =>
   refine S.skip<|S.seq<|S.block<|S.seq<|S.region rfl<|O.q 2 rfl<|O.nil<|S.seq<|S.region rfl<|O.q 3 rfl<|O.ib (.p rfl) underlying216 gz rfl rfl rfl har hg (h:=fun vi v8 nu oV=>?_);have oR:=ag.rel.mono oV hg;obtain ⟨PJ,PN,PT,PX,P4,P8,Qb,Qf,rfl,O4,NO⟩:=bK.sh oR;refine O.op (.p rfl) (.bI isAgg220 aa rfl nu) ?_;refine O.aC (.p rfl) rfl hc rfl rfl (((con _ _ (List.getElem_mem hi) oV).sub hg)) ?_;rintro _ _ ⟨rfl,rfl⟩
   try simp only [an,aq,au]
   refine O.aL 16 rfl (by exact e) ?_;refine O.nil<|S.aP rfl<|S.skip<|S.inBlock<|S.region rfl<|O.op (.p rfl) (.add rfl rfl (IntWalk.i64_in _ ah))<|O.q 1 rfl<|O.nil ?_;exact S.dH (ih (i+1) (by exact ⟨by omega,by rw [List.take_succ_eq_append_getElem hi,List.any_append,hx2];simp [e]⟩) ah)
 ·clear ih
  have hi:i=xs.length:=by omega
  subst hi;rw [List.take_length] at hx2;refine S.exit rfl<|S.seq<|S.region rfl<|O.q 1 rfl<|O.nil ?_;exact S.rt results331 rfl hR ⟨-1,rfl,⟨fun h=>absurd h zE,fun h=>by rw [hx2] at h;cases h⟩,rfl⟩
theorem Mm {r:Fr} {va:Value} {xs:List aQ} {f:FuncId} {first cap:Array Value} (ha:aj bK r va xs) (hc:dr prog f=true) (q:aQ→Bool)
  (con:∀ cs x,x∈xs→bK.rel r cs x→ay prog f (first++#[.agg cs.toArray]++cap) r [] (aM fun v U=>v=.bool (q x)∧U=[])) (h1:(Value.func (.func f) first cap).oneCell' =true) :
  ay prog 295 #[va,.func (.func f) first cap] r [] (aM fun v U=>v=.bool (xs.any q)∧U=[]):=by
 refine ay.of (n:=9) [va,.func (.func f) first cap] rfl func295 rfl rfl rfl fun g hg R hR=>?_;refine S.seq<|S.region rfl<|O.q 1 rfl<|O.nil<|S.seq<|S.region rfl<|O.q 2 rfl<|O.aC (.p rfl) rfl aa rfl rfl (((Qm ha hc q con).sub hg)) ?_;rintro l9 _ ⟨Rc,rfl,C2,rfl⟩
 try simp only [an,aq,au]
 refine O.op (.p rfl) (.geq rfl rfl)<|O.q 1 rfl<|O.nil ?_;exact S.rt results295 rfl hR ⟨congrArg _ (by rw [Bool.eq_iff_iff,decide_eq_true_iff];exact C2),rfl⟩
theorem VD {r:Fr} {b:Nat} {cs ds:List Value} {x y:aQ} (hx:At r ⟨b,0,none⟩ cs) (h:bK.rel r cs x) (h' :bK.rel r ds y) :
  ay prog 296 (#[]++#[.agg ds.toArray]++#[.pointer (some ⟨b,0,none⟩)]) r [] (aM fun v U=>v=.bool (decide (dN x y≠0) && over y x)∧U=[]):=by
 obtain ⟨fE,p5,px,AN,fF,p6,pz,AO,rfl,hx1,_⟩:=bK.sh h;obtain ⟨vv,vw,vz,AP,vA,vB,vC,AQ,rfl,hy1,_⟩:=bK.sh h';refine ay.of (n:=15) [.agg #[.string (str y.1),.int .i64 y.2.1,.int .i64 y.2.2.1,.slice vv y.2.2.2.1.length vA,.bool y.2.2.2.2.1,.slice vw y.2.2.2.2.2.1.length vB,.slice vz y.2.2.2.2.2.2.1.length vC,.slice AP (b7 y).length AQ],.pointer (some ⟨b,0,none⟩)] rfl func296 rfl rfl rfl fun g hg R hR=>?_;have hx:=hx.mono hg;have h:=h.mono hg;have h' :=h'.mono hg;have hx1:=hx1.mono hg;have hy1:=hy1.mono hg
 by_cases e:dN x y=0
 ·
  refine S.seq<|S.region rfl<|O.aO (.p rfl) (.box (cs:=[_,_,_,_,_,_,_,_]) rfl rfl) ?_;rintro _ _ ⟨b2,rfl,rfl⟩;refine O.q 1 rfl<|O.nil<|S.seq<|S.region rfl<|O.op (.p rfl) (.bI isAgg220 aa rfl hx) ?_;refine O.op (.p rfl) (.gU (news:=[_,_,_,_,_,_,_,_]) isAgg220) ?_;refine O.aC (.p rfl) rfl aa rfl rfl (tO h h') ?_;rintro _ _ ⟨rfl,rfl⟩
  try simp only [an,aq,au]
  refine O.op (.p rfl) (.neq rfl rfl)<|O.aL 7 rfl (by simp [e]) ?_;refine O.q 8 rfl<|O.nil ?_;exact S.rt results296 rfl hR ⟨by simp [e],rfl⟩
 ·
  refine S.seq<|S.region rfl<|O.aO (.p rfl) (.box (cs:=[_,_,_,_,_,_,_,_]) rfl rfl) ?_;rintro _ _ ⟨b2,rfl,rfl⟩;refine O.q 1 rfl<|O.nil<|S.seq<|S.region rfl<|O.op (.p rfl) (.bI isAgg220 aa rfl hx) ?_;refine O.op (.p rfl) (.gU (news:=[_,_,_,_,_,_,_,_]) isAgg220) ?_;refine O.aC (.p rfl) rfl aa rfl rfl (tO h h') ?_;rintro _ _ ⟨rfl,rfl⟩
  try simp only [an,aq,au]
  refine O.op (.p rfl) (.neq rfl rfl)<|O.sT 7 rfl (by simp [e]) ?_;refine O.q 1 rfl<|O.op (.g rfl rfl) (.aF ry rfl)<|O.op (.g rfl rfl) (.gU (news:=[_,_,_,_,_,_,_]) isAgg102) ?_;refine O.op (.g rfl rfl) (.fieldAddr ry rfl)<|O.op (.g rfl rfl) (.bI (cs:=[.string (str x.1),.int .i64 x.2.1,.int .i64 x.2.2.1,.slice fE x.2.2.2.1.length fF,.bool x.2.2.2.2.1,.slice p5 x.2.2.2.2.2.1.length p6,.slice px x.2.2.2.2.2.2.1.length pz]) isAgg102 aa rfl (hx.take 7)) ?_;refine O.aC (.g rfl rfl) rfl aa rfl rfl (Td hy1 hx1) ?_;rintro _ _ ⟨rfl,rfl⟩
  try simp only [an,aq,au]
  refine O.q 2 rfl<|O.nil ?_;exact S.rt results296 rfl hR ⟨by simp [e],rfl⟩
theorem vq {r:Fr} {b:Nat} {xs:List aQ} {cs:List Value} {x:aQ} (hrow:q3 r b xs) (h:bK.rel r cs x) :
  ay prog 228 #[.pointer (some ⟨b,0,none⟩),.agg cs.toArray] r [] (aM fun v U=>v=.bool (gZ xs x)∧U=[]):=by
 obtain ⟨fE,p5,px,AN,fF,p6,pz,AO,rfl,hx1,_⟩:=bK.sh h;obtain ⟨pT,r0,dg,har⟩:=hrow;refine ay.of (n:=11) _ rfl func228 rfl rfl rfl fun g hg R hR=>?_;have h:=h.mono hg;have dg:=dg.mono hg;have har:=har.mono hg;refine S.seq<|S.region rfl<|O.aO (.p rfl) (.box (cs:=[_,_,_,_,_,_,_,_]) rfl rfl) ?_;rintro _ _ ⟨b3,rfl,rfl⟩;refine O.q 1 rfl<|O.nil<|S.seq<|S.cV ai fun g hs hm eY=>?_;replace hg:=Fr.aI hg hs;replace hR:=bt hR hm
 try replace h:=h.mono hs
 try replace dg:=dg.mono hs
 try replace har:=har.mono hs
 clear hs hm;refine S.region rfl<|O.q 1 rfl<|O.op (.p rfl) (.nilCheck rfl)<|O.op (.p rfl) (.fieldAddr iX rfl)<|O.op (.p rfl) (.loadAt iW rfl dg rfl) ?_;refine O.op (.p rfl) (.iS rfl rfl)<|O.aC (.p rfl) rfl aa rfl rfl ((Mm har aa (fun y=>decide (dN x y≠0) && over y x) (fun cs y hy hr=>VD eY h hr) rfl)) ?_;rintro _ _ ⟨rfl,rfl⟩
 try simp only [an,aq,au]
 refine O.q 1 rfl<|O.nil ?_;exact S.rt results228 rfl hR ⟨rfl,rfl⟩
theorem JV {r:Fr} {va:Value} {xs:List aQ} (ha:aj dc r va xs) (hl:xs.length≤100000000000) :
  ay prog 146 #[va] r [] (ey (fun v U=>fG xs∧∃ b,v=.pointer (some ⟨b,0,none⟩)∧U=[e_ r 218 220 5 b xs]) (fun ch U=>¬ fG xs∧ch=EU∧U=[])):=by
 have har:=ha;refine ay.of (n:=45) _ rfl func146 rfl rfl rfl fun g hg R hR=>?_;have ha:=ha.mono hg;obtain ⟨a1,c1,rfl⟩:=ha.shape;refine S.seq<|S.region rfl<|O.q 1 rfl<|O.nil<|S.seq<|S.region rfl<|O.op (.p rfl) (.build (cs:=[_]) underlying218 rfl rfl rfl rfl rfl)<|O.aO (.p rfl) (.box (cs:=[_]) rfl rfl) ?_;rintro _ _ ⟨mW,rfl,rfl⟩;refine O.q 1 rfl<|O.nil<|S.seq<|S.conv (B:=obj mW 218 [.slice none 0 0]) (C:=e_ r 218 220 5 mW []) ai (fun m x=>⟨m,Fr.bW _,e_.nil x⟩) ?_;refine S.region rfl<|O.q 2 rfl<|O.qd (.p rfl) rfl aa rfl rfl ai ((J9 har rfl (by simpa using hl)).sub hg) (fun ch ax w hX hW=>by (obtain ⟨hb,rfl,rfl⟩:=hX;exact hR _ _ w ⟨fun q=>(by rw [List.nil_append,q.1] at hb;cases hb),rfl,rfl⟩ hW.qi)) ?_;rintro _ _ ⟨hone,rfl,rfl⟩
 try simp only [an,aq,au]
 refine O.nil (S.seq (S.seq ?_));rw [List.nil_append] at hone;have gw:=hg;have gu:=hR
 try have uQ:=ha
 refine S.iH (B:=e_ r 218 220 5 mW xs) ai fun oJ dL ⟨qJ,jC,jD⟩ gm=>?_;replace hg:=Fr.aI hg dL;replace hR:=iB hR gm
 try replace ha:=ha.mono dL
 have hrow:=e_.read hg jD jC;obtain ⟨pT,r0,iO,oQ⟩:=id hrow;refine S.region rfl<|O.q 1 rfl<|O.op (.p rfl) (.nilCheck rfl)<|O.op (.p rfl) (.fieldAddr iX rfl)<|O.op (.p rfl) (.loadAt iW rfl iO rfl) ?_;refine O.op (.p rfl) (.len rfl underlying216 rfl)<|O.q 1 rfl<|O.nil<|S.block<|S.fT (ι:=Nat) (fun i=>i≤xs.length∧∀ j (h:j<xs.length),j<i→(∀ h0:0<j,dN xs[j-1] xs[j]<0)∧gZ xs xs[j]=false) (fun i=>[(16,.int .i64 (i:Int))]) [(3,_),(14,_),(15,_)] (fun i=>[]) (fun i=>xs.length - i) (0) (by exact ⟨by simp,fun j _ h=>absurd h ah⟩) (.cons rfl (.nil)) (.cons rfl (.cons rfl (.cons rfl (.nil)))) rfl fun i hx ih=>?_;have bl:=cW (g:=oJ);obtain ⟨hx1,hx2⟩:=hx;refine S.seq<|S.region rfl<|O.op (.p rfl) (.lss rfl rfl)<|O.nil (S.seq ?_)
 first|refine S.ct rfl (fun jW=>?_) (fun jW=>?_)|refine S.cm rfl (fun jW=>?_) (fun jW=>?_)
 ·have hi:i<xs.length:=by omega
  have hnext:((∀ h0:0<i,dN xs[i-1] xs[i]<0)∧gZ xs xs[i]=false)→∀ j (h:j<xs.length),j<i+1→(∀ h0:0<j,dN xs[j-1] xs[j]<0)∧gZ xs xs[j]=false:=by
   intro q j h hj
   by_cases e:j=i
   ·subst e;exact q
   ·exact hx2 j h ah
  refine S.skip<|S.seq<|S.block<|S.seq<|S.region rfl<|O.q 1 rfl<|O.b_ (.p rfl) underlying216 gz rfl rfl rfl (by first|assumption|exact aj.mono hg aB|exact aj.left aB|exact aj.left (aj.mono hg aB)) (h:=fun Ju Mw s_ nY=>?_);obtain ⟨PL,PR,PV,PZ,P6,P_,Qd,Qh,rfl,HZ,Hs⟩:=bK.sh nY;refine O.op (.p rfl) (.bI isAgg220 aa rfl s_) ?_;refine O.aO (.p rfl) (.alloc (cs:=[.string ⟨#[]⟩,.int .i64 0,.int .i64 0,.slice none 0 0,.bool false,.slice none 0 0,.slice none 0 0,.slice none 0 0]) zeroValue220 rfl) ?_;rintro _ _ ⟨gK,rfl,rfl⟩;refine O.q 1 rfl<|O.bw rfl (.cZ aa rfl rfl rfl rfl ai aT) ?_;refine O.nil<|S.c7 (b:=gK) (cs' :=[.string (str xs[i].1),.int .i64 xs[i].2.1,.int .i64 xs[i].2.2.1,.slice PL xs[i].2.2.2.1.length P6,.bool xs[i].2.2.2.2.1,.slice PR xs[i].2.2.2.2.2.1.length P_,.slice PV xs[i].2.2.2.2.2.2.1.length Qd,.slice PZ (b7 xs[i]).length Qh]) ai rfl ?_;refine S.cV ai fun g hs hm dX=>?_;replace hg:=Fr.aI hg hs;replace hR:=bt hR hm
  try replace ha:=ha.mono hs
  try replace iO:=iO.mono hs
  try replace oQ:=oQ.mono hs
  try replace hrow:=hrow.mono hs
  try replace s_:=s_.mono hs
  try replace Hs:=Hs.mono hs
  try replace nY:=nY.mono hs
  try replace HZ:=HZ.mono hs
  replace bl:=eD bl hm;clear hs hm
  by_cases h0:i=0
  ·cases qj:gZ xs xs[i] with
   |true =>
    have hno:¬ fG xs:=fun q=>by have:=(q.2 i hi).2;rw [qj] at this;cases this
    clear ih;refine S.bB (L:=[0,1,2,3,4,5,6,7,8,9,10,11,12,13,14,15,16,17,18,19,20,21]) bx aa ?_;refine af.q 1 rfl<|.quiet (.p rfl) rfl (fun _=>.eql rfl rfl)<|af.sT 22 rfl (by exact decide_eq_true ah) ?_;refine af.q 15 rfl<|.quiet (.g rfl rfl) rfl (fun _=>.bI isAgg220 aa rfl dX) ?_;refine af.aC (.g rfl rfl) aa rfl aa rfl rfl (vq hrow nY) ?_;rintro _ _ ⟨rfl,rfl⟩
    try simp only [an,aq,au]
    refine af.sT 39 rfl (by exact qj) ?_;refine .quiet (.g rfl rfl) rfl (fun _=>.not rfl)<|af.q 1 rfl<|af.kH (.p rfl) aa rfl aa rfl rfl (pW _) (fun ch ax w hX hW=>by (obtain ⟨hb,rfl,rfl⟩:=hX;exact hR _ _ w ⟨hno,rfl,rfl⟩ hW.qi)) ?_;rintro _ _ ⟨nt,rfl,rfl⟩
    try simp only [an,aq,au]
    exact absurd nt bq
   |false =>
    refine S.bB (L:=[0,1,2,3,4,5,6,7,8,9,10,11,12,13,14,15,16,17,18,19,20,21]) bx aa ?_;refine af.q 1 rfl<|.quiet (.p rfl) rfl (fun _=>.eql rfl rfl)<|af.sT 22 rfl (by exact decide_eq_true ah) ?_;refine af.q 15 rfl<|.quiet (.g rfl rfl) rfl (fun _=>.bI isAgg220 aa rfl dX) ?_;refine af.aC (.g rfl rfl) aa rfl aa rfl rfl (vq hrow nY) ?_;rintro _ _ ⟨rfl,rfl⟩
    try simp only [an,aq,au]
    refine af.aL 39 rfl (by exact qj) ?_;refine .quiet (.g rfl rfl) rfl (fun _=>.not rfl)<|af.q 1 rfl<|af.kH (.p rfl) aa rfl aa rfl rfl (pW _) (fun ch ax w hX hW=>by (exact absurd hX.1 bq)) ?_;rintro _ _ ⟨nt,rfl,rfl⟩
    try simp only [an,aq,au]
    refine aK.nil<|S.inBlock<|S.region rfl<|O.op (.p rfl) (.add rfl rfl (IntWalk.i64_in _ ah))<|O.q 1 rfl<|O.nil ?_;exact S.iR bl (S.dH (ih (i+1) (by exact ⟨by omega,hnext ⟨fun h1=>absurd h1 ah,qj⟩⟩) ah))
  ·have hi1:i - 1<xs.length:=by omega
   by_cases hc:dN xs[i-1] xs[i]<0
   ·cases qj:gZ xs xs[i] with
    |true =>
     have hno:¬ fG xs:=fun q=>by have:=(q.2 i hi).2;rw [qj] at this;cases this
     clear ih;refine S.bB (L:=[0,1,2,3,4,5,6,7,8,9,10,11,12,13,14,15,16,17,18,19,20,21]) bx aa ?_;refine af.q 1 rfl<|.quiet (.p rfl) rfl (fun _=>.eql rfl rfl)<|af.aL 22 rfl (by exact decide_eq_false ah) ?_;refine af.q 2 rfl<|.quiet (.g rfl rfl) rfl (fun _=>.nilCheck rfl)<|.quiet (.g rfl rfl) rfl (fun _=>.fieldAddr iX rfl)<|.quiet (.g rfl rfl) rfl (fun _=>.loadAt iW rfl iO rfl) ?_;refine af.q 1 rfl<|.quiet (.g rfl rfl) rfl (fun _=>.sub rfl rfl (IntWalk.i64_in _ ah))<|af.b_ (.g rfl rfl) underlying216 gz rfl rfl (show _=(((i - 1):Nat):Int) by omega) (by first|assumption|exact aj.mono hg aB|exact aj.left aB|exact aj.left (aj.mono hg aB)) (h:=fun Jv GG wY rJ=>?_);obtain ⟨Ik,Il,Im,Io,Ip,Iq,Ir,Is,rfl,H6,Ht⟩:=bK.sh rJ;refine .quiet (.g rfl rfl) rfl (fun _=>.bI isAgg220 aa rfl wY) ?_;refine .quiet (.g rfl rfl) rfl (fun _=>.bI isAgg220 aa rfl dX) ?_;refine af.aC (.g rfl rfl) aa rfl aa rfl rfl (tO rJ nY) ?_;rintro _ _ ⟨rfl,rfl⟩
     try simp only [an,aq,au]
     refine .quiet (.g rfl rfl) rfl (fun _=>.lss rfl rfl)<|af.sT 34 rfl (by exact decide_eq_true hc) ?_;refine af.q 3 rfl<|.quiet (.g rfl rfl) rfl (fun _=>.bI isAgg220 aa rfl dX) ?_;refine af.aC (.g rfl rfl) aa rfl aa rfl rfl (vq hrow nY) ?_;rintro _ _ ⟨rfl,rfl⟩
     try simp only [an,aq,au]
     refine af.sT 39 rfl (by exact qj) ?_;refine .quiet (.g rfl rfl) rfl (fun _=>.not rfl)<|af.q 1 rfl<|af.kH (.p rfl) aa rfl aa rfl rfl (pW _) (fun ch ax w hX hW=>by (obtain ⟨hb,rfl,rfl⟩:=hX;exact hR _ _ w ⟨hno,rfl,rfl⟩ hW.qi)) ?_;rintro _ _ ⟨nt,rfl,rfl⟩
     try simp only [an,aq,au]
     exact absurd nt bq
    |false =>
     refine S.bB (L:=[0,1,2,3,4,5,6,7,8,9,10,11,12,13,14,15,16,17,18,19,20,21]) bx aa ?_;refine af.q 1 rfl<|.quiet (.p rfl) rfl (fun _=>.eql rfl rfl)<|af.aL 22 rfl (by exact decide_eq_false ah) ?_;refine af.q 2 rfl<|.quiet (.g rfl rfl) rfl (fun _=>.nilCheck rfl)<|.quiet (.g rfl rfl) rfl (fun _=>.fieldAddr iX rfl)<|.quiet (.g rfl rfl) rfl (fun _=>.loadAt iW rfl iO rfl) ?_;refine af.q 1 rfl<|.quiet (.g rfl rfl) rfl (fun _=>.sub rfl rfl (IntWalk.i64_in _ ah))<|af.b_ (.g rfl rfl) underlying216 gz rfl rfl (show _=(((i - 1):Nat):Int) by omega) (by first|assumption|exact aj.mono hg aB|exact aj.left aB|exact aj.left (aj.mono hg aB)) (h:=fun Jv GG wY rJ=>?_);obtain ⟨Ik,Il,Im,Io,Ip,Iq,Ir,Is,rfl,H6,Ht⟩:=bK.sh rJ;refine .quiet (.g rfl rfl) rfl (fun _=>.bI isAgg220 aa rfl wY) ?_;refine .quiet (.g rfl rfl) rfl (fun _=>.bI isAgg220 aa rfl dX) ?_;refine af.aC (.g rfl rfl) aa rfl aa rfl rfl (tO rJ nY) ?_;rintro _ _ ⟨rfl,rfl⟩
     try simp only [an,aq,au]
     refine .quiet (.g rfl rfl) rfl (fun _=>.lss rfl rfl)<|af.sT 34 rfl (by exact decide_eq_true hc) ?_;refine af.q 3 rfl<|.quiet (.g rfl rfl) rfl (fun _=>.bI isAgg220 aa rfl dX) ?_;refine af.aC (.g rfl rfl) aa rfl aa rfl rfl (vq hrow nY) ?_;rintro _ _ ⟨rfl,rfl⟩
     try simp only [an,aq,au]
     refine af.aL 39 rfl (by exact qj) ?_;refine .quiet (.g rfl rfl) rfl (fun _=>.not rfl)<|af.q 1 rfl<|af.kH (.p rfl) aa rfl aa rfl rfl (pW _) (fun ch ax w hX hW=>by (exact absurd hX.1 bq)) ?_;rintro _ _ ⟨nt,rfl,rfl⟩
     try simp only [an,aq,au]
     refine aK.nil<|S.inBlock<|S.region rfl<|O.op (.p rfl) (.add rfl rfl (IntWalk.i64_in _ ah))<|O.q 1 rfl<|O.nil ?_;exact S.iR bl (S.dH (ih (i+1) (by exact ⟨by omega,hnext ⟨fun _=>hc,qj⟩⟩) ah))
   ·have hno:¬ fG xs:=fun q=>hc ((q.2 i hi).1 ah)
    clear ih;refine S.bB (L:=[0,1,2,3,4,5,6,7,8,9,10,11,12,13,14,15,16,17,18,19,20,21]) bx aa ?_;refine af.q 1 rfl<|.quiet (.p rfl) rfl (fun _=>.eql rfl rfl)<|af.aL 22 rfl (by exact decide_eq_false ah) ?_;refine af.q 2 rfl<|.quiet (.g rfl rfl) rfl (fun _=>.nilCheck rfl)<|.quiet (.g rfl rfl) rfl (fun _=>.fieldAddr iX rfl)<|.quiet (.g rfl rfl) rfl (fun _=>.loadAt iW rfl iO rfl) ?_;refine af.q 1 rfl<|.quiet (.g rfl rfl) rfl (fun _=>.sub rfl rfl (IntWalk.i64_in _ ah))<|af.b_ (.g rfl rfl) underlying216 gz rfl rfl (show _=(((i - 1):Nat):Int) by omega) (by first|assumption|exact aj.mono hg aB|exact aj.left aB|exact aj.left (aj.mono hg aB)) (h:=fun Jv GG wY rJ=>?_);obtain ⟨Ik,Il,Im,Io,Ip,Iq,Ir,Is,rfl,H6,Ht⟩:=bK.sh rJ;refine .quiet (.g rfl rfl) rfl (fun _=>.bI isAgg220 aa rfl wY) ?_;refine .quiet (.g rfl rfl) rfl (fun _=>.bI isAgg220 aa rfl dX) ?_;refine af.aC (.g rfl rfl) aa rfl aa rfl rfl (tO rJ nY) ?_;rintro _ _ ⟨rfl,rfl⟩
    try simp only [an,aq,au]
    refine .quiet (.g rfl rfl) rfl (fun _=>.lss rfl rfl)<|af.aL 34 rfl (by exact decide_eq_false hc) ?_;refine af.q 7 rfl<|af.kH (.p rfl) aa rfl aa rfl rfl (pW _) (fun ch ax w hX hW=>by (obtain ⟨hb,rfl,rfl⟩:=hX;exact hR _ _ w ⟨hno,rfl,rfl⟩ hW.qi)) ?_;rintro _ _ ⟨nt,rfl,rfl⟩
    try simp only [an,aq,au]
    exact absurd nt bq
 ·clear ih
  have hi:i=xs.length:=by omega
  subst hi;refine S.exit rfl<|S.seq<|S.back gm ?_;replace hg:=gw;replace hR:=gu
  try replace ha:=uQ
  clear gw gu;refine S.region rfl<|O.q 2 rfl<|O.nil ?_;exact S.rt results146 rfl hR ⟨⟨hone,fun j h=>hx2 j h h⟩,mW,rfl,rfl⟩
theorem Vh {g:bh} {be bU:Nat} {x:Value} {z:Int} {en eU:TypeId} {w:World} {R:Ending→World→Prop} {U:List az} (hw:Holds w g (obj bU en [x]::obj be eU [.int .i64 z]::U)) (hR:∀ w,Holds w g (obj bU en [x]::obj be eU [.int .i64 z]::U)→R (.returned (.tuple #[x,.int .i64 z])) w) :
  CallsD prog 224 #[.pointer (some ⟨be,0,none⟩),.pointer (some ⟨bU,0,none⟩)] .returning w (sx prog g bU be 24 44 R):=by
 refine (nO (R:=fun e w=>(∃ v,e=.returned v)∧Holds w g (obj bU en [x]::obj be eU [.int .i64 z]::U)) [.pointer (some ⟨be,0,none⟩),.pointer (some ⟨bU,0,none⟩)] rfl func224 rfl rfl rfl rfl hw ?_).mono ?_
 rotate_left
 ·rintro e u' w' ⟨rfl,⟨v,rfl⟩,h⟩
  exact ⟨⟨v,rfl⟩,rfl,en,eU,_,_,_,_,U,h,fM.flat bg,fM.flat nR,hR w' h⟩
 refine S.seq<|S.region rfl<|O.q 1 rfl<|O.op (.p rfl) (.u9 underlying20 rfl)<|O.nil<|S.aP rfl<|S.skip<|S.ej results224 fun w hw=>?_;exact ⟨⟨_,rfl⟩,hw⟩
theorem Vg {g:bh} {be bU:Nat} {x:Value} {z z' :Int} {en eU:TypeId} {w:World} {R:Ending→World→Prop} {U:List az} (hw:Holds w g (obj bU en [x]::obj be eU [.int .i64 z']::U))
  (hR:∀ w,Holds w g (obj bU en [.slice none 0 0]::obj be eU [.int .i64 z]::U)→R (.returned (.tuple #[.slice none 0 0,.int .i64 z])) w) :
  CallsD prog 224 #[.pointer (some ⟨be,0,none⟩),.pointer (some ⟨bU,0,none⟩)] (.panicking (oE 44 z)) w (sx prog g bU be 24 44 R):=by
 refine (nO (R:=fun e w=>(∃ v,e=.returned v)∧Holds w g (obj bU en [.slice none 0 0]::obj be eU [.int .i64 z]::U)) [.pointer (some ⟨be,0,none⟩),.pointer (some ⟨bU,0,none⟩)] rfl func224 rfl rfl rfl rfl hw ?_).mono ?_
 rotate_left
 ·rintro e u' w' ⟨rfl,⟨v,rfl⟩,h⟩
  exact ⟨⟨v,rfl⟩,rfl,en,eU,_,_,_,_,U,h,fM.flat bg,fM.flat nR,hR w' h⟩
 refine S.seq<|S.region rfl<|O.q 1 rfl<|O.op (.p rfl) (.u_ underlying20 rfl)<|O.nil<|S.bC rfl<|S.seq<|S.region rfl<|O.q 1 rfl<|O.nil<|S.seq<|S.seq<|S.region rfl<|O.q 1 rfl<|O.op (.p rfl) (.uv underlying44 rfl)<|O.q 3 rfl<|O.bw rfl (.bk nR rfl rfl bn ai aT) ?_;refine O.q 1 rfl<|O.nil<|S.seq<|S.region rfl<|O.q 1 rfl<|O.op (.p rfl) (.not rfl)<|O.nil<|S.aP rfl<|S.skip<|S.seq<|S.region rfl<|O.q 1 rfl<|O.nil<|S.region rfl<|O.q 1 rfl<|O.bw rfl (.bk bg rfl rfl bn ai aT) ?_;refine O.nil<|S.ej results224 fun w hw=>?_;exact ⟨⟨_,rfl⟩,hw.jH jM⟩
theorem Vf {r:Fr} {f:Nat} {first cap:Array Value} {K:Value→List az→Prop} {X:Int→Prop} (hc:dr prog f=true) (pL:(Value.func (.func f) first cap).oneCell' =true) (oK:∀ u ζ,K u ζ→u.oneCell' =true)
  (con:ay prog f (first++#[]++cap) r [] (ey K (fun ch U=>∃ z,ch=oE 44 z∧X z∧U=[]))) :
  ay prog 144 #[.func (.func f) first cap] r [] (aM fun v U=>(∃ u,K u U∧v=.tuple #[u,.int .i64 0])∨(∃ z,X z∧U=[]∧v=.tuple #[.slice none 0 0,.int .i64 z])):=by
 refine ay.of (n:=7) [.func (.func f) first cap] rfl func144 rfl rfl rfl fun g hg R hR=>?_;refine S.seq<|S.region rfl<|O.aO (.p rfl) (.alloc (cs:=[.slice none 0 0]) zeroValue24 rfl) ?_;rintro _ _ ⟨b2,rfl,rfl⟩;refine O.aO (.p rfl) (.alloc (cs:=[.int .i64 0]) zeroValue44 rfl) ?_;rintro _ _ ⟨b3,rfl,rfl⟩;refine O.nil<|S.seq<|S.region rfl<|O.op (.p rfl) (.iS rfl rfl)<|O.defer rfl rfl rfl rfl ?_;refine O.nil<|S.seq<|S.region rfl<|O.q 1 rfl<|O.BD (.p rfl) rfl hc rfl rfl (con.sub hg) (fun a ch ax w hF hX hW=>by (obtain ⟨z,rfl,hx,rfl⟩:=hX;exact u5 results144 hF rfl rfl bq aa (Vg (hW.jH jM) fun w hw=>Holds.end_ hR hw ⟨_,.inr ⟨z,hx,rfl,rfl⟩,by repeat (first|exact aW|exact aY|(apply aX;focus (repeat (first|exact aU|apply zt)))|apply aZ)⟩))) ?_;rintro v6 _ rH
 try simp only [an,aq,au]
 have hone:=oK _ _ rH;refine O.perm (List.perm_append_comm) ?_;simp only [List.cons_append,List.nil_append];refine O.bw rfl (.bk bg rfl rfl bn ai aT) ?_;refine O.bw rfl (.bk nR rfl rfl bn ai aT) ?_;refine O.nil<|S.qM fun a w hf hd hw=>?_;exact u5 results144 hf rfl rfl bq aa (Vh (hw.jH jM) fun w hw=>Holds.end_ hR hw ⟨_,.inl ⟨_,rH,rfl⟩,by repeat (first|exact aW|exact aY|(apply aX;focus (repeat (first|exact aU|apply zt)))|apply aZ)⟩)
theorem UM {r:Fr} {b:Nat} {va:Value} {xs:List aQ} (hb:At r ⟨b,0,none⟩ [va]) (ha:aj dc r va xs) (hl:xs.length≤1000000000) :
  ay prog 145 (#[]++#[]++#[.pointer (some ⟨b,0,none⟩)]) r [] (ey (fun v U=>fG xs∧∃ a c,v=.slice a (kE xs).length c∧U=[av ag.u8 5 (.slice a (kE xs).length c) (kE xs)]) (fun ch U=>∃ z,ch=oE 44 z∧(¬ fG xs∧z=4)∧U=[])):=by
 have har:=ha;refine ay.of (n:=31) [.pointer (some ⟨b,0,none⟩)] rfl func145 rfl rfl rfl fun g hg R hR=>?_;have hb:=hb.mono hg;have ha:=ha.mono hg;obtain ⟨a1,c1,rfl⟩:=ha.shape;refine S.seq<|S.region rfl<|O.q 1 rfl<|O.nil<|S.seq<|S.region rfl<|O.op (.p rfl) (.loadAt eN rfl hb rfl) ?_;refine O.kH (.p rfl) rfl aa rfl rfl (((JV har ah).sub hg)) (fun ch ax w hX hW=>by (obtain ⟨hb,rfl,rfl⟩:=hX;exact hR _ _ w ⟨4,rfl,⟨hb,rfl⟩,rfl⟩ hW.qi)) ?_;rintro _ _ ⟨hright,mW,rfl,rfl⟩
 try simp only [an,aq,au]
 refine O.q 1 rfl<|O.nil<|S.seq<|S.eC (A:=e_ r 218 220 5 mW xs) ai fun g hs hm ⟨_,x',s'⟩=>?_;have hrow:=e_.read (Fr.aI hg hs) s' x';clear x' s';replace hg:=Fr.aI hg hs;replace hR:=bt hR hm
 try replace ha:=ha.mono hs
 try replace hb:=hb.mono hs
 clear hs hm;obtain ⟨pT,r0,iO,oQ⟩:=id hrow;refine S.region rfl<|O.q 1 rfl<|O.op (.p rfl) (.nilCheck rfl)<|O.op (.p rfl) (.fieldAddr iX rfl)<|O.op (.p rfl) (.loadAt iW rfl iO rfl) ?_;refine O.op (.p rfl) (.len rfl underlying216 rfl)<|O.aC (.p rfl) rfl aa rfl rfl (j7 _) ?_;rintro _ _ ⟨iz,iD,rfl,rfl⟩
 try simp only [an,aq,au]
 refine O.q 1 rfl<|O.nil (S.seq (S.seq ?_));have hone:=hright.1;have hbd:=J2 hone;refine S.region rfl<|O.q 1 rfl<|O.op (.p rfl) (.nilCheck rfl)<|O.op (.p rfl) (.fieldAddr iX rfl)<|O.op (.p rfl) (.loadAt iW rfl iO rfl) ?_;refine O.op (.p rfl) (.len rfl underlying216 rfl)<|O.q 1 rfl<|O.nil<|S.block<|S.conv (C:=av ag.u8 5 (.slice iz (8+(jI (xs.take 0)).length) iD) (be xs.length++jI (xs.take 0))) bf.here (fun m x=>⟨m,Fr.bW _,by simpa [jI] using x⟩) ?_;refine S.jG (ι:=Nat) (dB:=Option Addr × Nat) (fun i p=>i≤xs.length) (fun i p=>[(19,.int .i64 (i:Int)),(3,.slice p.1 (8+(jI (xs.take i)).length) p.2)]) [(17,_),(18,_)] (fun i p=>[av ag.u8 5 (.slice p.1 (8+(jI (xs.take i)).length) p.2) (be xs.length++jI (xs.take i))]) (fun i p=>xs.length - i) (0) ((iz,iD)) ah (.cons rfl (.cons rfl (.nil))) (.cons rfl (.cons rfl (.nil))) rfl fun i p hx ih=>?_;have bl:=cW (g:=g);refine S.seq<|S.region rfl<|O.op (.p rfl) (.lss rfl rfl)<|O.nil (S.seq ?_)
 first|refine S.ct rfl (fun nS=>?_) (fun nS=>?_)|refine S.cm rfl (fun nS=>?_) (fun nS=>?_)
 ·have hi:i<xs.length:=by omega
  have kL:=Aj (qL hone xs[i] (List.getElem_mem hi));have ij:=ES (xs.take i) (qL (Ei i hone));rw [List.length_take,Nat.min_eq_left hx] at ij;have htk:[be xs.length++jI (xs.take i),bytesOf (b7 xs[i])].flatten=be xs.length++jI (xs.take (i+1)):=by rw [List.take_succ_eq_append_getElem hi,Ua];simp
  have jl:(be (xs.length:Int)++jI (xs.take (i+1))).length=8+(jI (xs.take (i+1))).length:=by simp
  have eY:(be (xs.length:Int)++jI (xs.take (i+1))).length≤140737488355328:=by
   have:=ES (xs.take (i+1)) (qL (Ei (i+1) hone));rw [List.length_take] at this
   simp;omega
  generalize cR:jI (xs.take i)=so at htk ij ⊢;refine S.skip<|S.seq<|S.block<|S.seq<|S.region rfl<|O.b_ (.p rfl) underlying216 gz rfl rfl rfl (by first|assumption|exact aj.mono hg aB|exact aj.left aB|exact aj.left (aj.mono hg aB)) (h:=fun z_ yF qw oS=>?_);obtain ⟨XK,XL,XM,XN,XO,XP,XQ,XR,rfl,XA,W1⟩:=bK.sh oS;refine O.op (.p rfl) (.bI isAgg220 aa rfl qw) ?_;refine O.aO (.p rfl) (.alloc (cs:=[.string ⟨#[]⟩,.int .i64 0,.int .i64 0,.slice none 0 0,.bool false,.slice none 0 0,.slice none 0 0,.slice none 0 0]) zeroValue220 rfl) ?_;rintro _ _ ⟨gK,rfl,rfl⟩;refine O.bw rfl (.cZ aa rfl rfl rfl rfl ai aT) ?_;refine O.nil<|S.region rfl<|O.q 1 rfl<|O.op (.p rfl) (.aF yY rfl)<|O.op (.p rfl) (.lo bg) ?_;refine O.aC (.p rfl) rfl aa rfl rfl (vr (by first|assumption|exact aj.mono hg aB|exact aj.left aB|exact aj.left (aj.mono hg aB)) bL) ?_;rintro _ _ ⟨a26,h_,rfl,rfl⟩
  try simp only [an,aq,au]
  generalize W5:bytesOf (b7 xs[i])=bb at htk ⊢;refine O.aO (.p rfl) (.cn (T:=ag.val) (ys:=[_,_]) underlying109 gr zE rfl rfl ⟨⟨rfl,rfl⟩,⟨rfl,rfl⟩,trivial⟩ zE) ?_;rintro _ _ ⟨a27,sE,rfl,rfl⟩;refine O.cU (.p rfl) rfl aa rfl rfl (bs:=[av ag.val 24 (.slice a27 2 sE) [.slice p.1 (8+so.length) p.2,.slice a26 bb.length h_],av ag.u8 5 (.slice p.1 (8+so.length) p.2) (be xs.length++so),av ag.u8 5 (.slice a26 bb.length h_) bb]) aV (fun m hm hd=>AL (xss:=[be xs.length++so,bb]) ((hm.arr.right hd).rows ⟨hm.tail.arr.right hd,hm.tail.tail.arr.right hd,trivial⟩) (by rw [htk];exact eY)) ?_;rintro _ _ ⟨a28,yx,rfl,rfl⟩
  try simp only [an,aq,au]
  refine O.q 1 rfl<|O.nil<|S.inBlock<|S.region rfl<|O.op (.p rfl) (.add rfl rfl (IntWalk.i64_in _ ah))<|O.q 1 rfl<|O.nil ?_;rw [htk,jl];exact S.pw (ih (i+1) ((a28,yx)) ah ah)
 ·clear ih
  have hi:i=xs.length:=by omega
  subst hi;rw [List.take_length];have HP:8+(jI xs).length=(kE xs).length:=by simp [kE]
  rw [HP];refine S.exit rfl<|S.seq<|S.region rfl<|O.q 2 rfl<|O.nil ?_;exact S.rt results145 rfl hR ⟨hright,p.1,p.2,rfl,rfl⟩
noncomputable def mJ (l:List aQ):List UInt8:=if fG l then kE l else []
noncomputable def r8 (l:List aQ):Int:=if fG l then 0 else 4
theorem Ub {r:Fr} {first cap:Array Value} {xs:List aQ} (con:ay prog 145 (first++#[]++cap) r [] (ey (fun v U=>fG xs∧∃ a c,v=.slice a (kE xs).length c∧U=[av ag.u8 5 (.slice a (kE xs).length c) (kE xs)]) (fun ch U=>∃ z,ch=oE 44 z∧(¬ fG xs∧z=4)∧U=[]))) (h1:(Value.func (.func 145) first cap).oneCell' =true:=by rfl) :
  ay prog 144 #[.func (.func 145) first cap] r [] (aM fun v U=>∃ a c,v=.tuple #[.slice a (mJ xs).length c,.int .i64 (r8 xs)]∧U=[av ag.u8 5 (.slice a (mJ xs).length c) (mJ xs)]) :=
 (Vf aa h1 (fun _ _ h=>by obtain ⟨_,_,_,rfl,_⟩:=h;rfl) con).post fun e U h w g hw=>by
  cases e with
  |returned v =>
   rcases h with ⟨u,⟨hs,a,c,rfl,rfl⟩,rfl⟩|⟨z,⟨hs,rfl⟩,rfl,rfl⟩
   ·exact ⟨_,⟨a,c,by simp [mJ,r8,hs],rfl⟩,by simpa [mJ,hs] using hw⟩
   ·exact ⟨_,⟨none,0,by simp [mJ,r8,hs],rfl⟩,by simp only [mJ,hs,if_false];exact hw.imp fun m x=>⟨Fr.emp,m,Fr.dW _,Fr.c4 _,Fr.bW _,zZ _,x⟩⟩
  |panicked _=>exact h.elim
  |outgrown=>exact h.elim
theorem J7 {r:Fr} {va:Value} {xs:List aQ} (ha:aj dc r va xs) (hl:xs.length≤1000000000) :
  ay prog 77 #[va] r [] (aM fun v U=>∃ a c,v=.tuple #[.slice a (mJ xs).length c,.int .i64 (r8 xs)]∧U=[av ag.u8 5 (.slice a (mJ xs).length c) (mJ xs)]):=by
 refine ay.of (n:=8) _ rfl func77 rfl rfl rfl fun g hg R hR=>?_;have ha:=ha.mono hg;obtain ⟨a1,c1,rfl⟩:=ha.shape;refine S.seq<|S.region rfl<|O.aO (.p rfl) (.box (cs:=[_]) rfl rfl) ?_;rintro _ _ ⟨b1,rfl,rfl⟩;refine O.q 2 rfl<|O.nil<|S.seq<|S.cV ai fun g hs hm kL=>?_;replace hg:=Fr.aI hg hs;replace hR:=bt hR hm
 try replace ha:=ha.mono hs
 clear hs hm;refine S.region rfl<|O.op (.p rfl) (.iS rfl rfl)<|O.aC (.p rfl) rfl aa rfl rfl ((Ub (UM kL ha hl))) ?_;rintro _ _ ⟨a5,dM,rfl,rfl⟩
 try simp only [an,aq,au]
 refine O.q 4 rfl<|O.nil<|S.lg results77 rfl rfl fun w hw=>Holds.end_ hR hw ?_;exact pk ⟨a5,dM,rfl,rfl⟩
theorem Jx {r:Fr} {cs:List Value} {x:iV} (h:gq.rel r cs x):ay prog 284 #[.agg cs.toArray] r [] (aM fun v U=>v=.bool (xU x)∧U=[]):=by
 obtain ⟨fE,pq,fF,py,rfl,k0,k1,k2,aR,pP⟩:=gq.sh h;refine ay.of (n:=44) _ rfl func284 rfl rfl rfl fun g hg R hR=>?_;refine S.seq<|S.region rfl<|O.aO (.p rfl) (.box (cs:=[_,_,_,_,_]) rfl rfl) ?_;rintro _ _ ⟨b1,rfl,rfl⟩;refine O.q 1 rfl<|O.nil<|S.seq<|S.region rfl<|O.op (.p rfl) (.aF rz rfl)<|O.op (.p rfl) (.aF uG rfl)<|O.op (.p rfl) (.lo cv) ?_;refine O.op (.p rfl) (.geq rfl rfl)<|O.q 1 rfl ?_
 first|refine O.dV 7 rfl (fun h7=>?_) (fun h7=>?_)|refine O.dF 7 rfl (fun h7=>?_) (fun h7=>?_)
 ·refine O.op (.g rfl rfl) (.aF rz rfl)<|O.op (.g rfl rfl) (.aF uG rfl)<|O.op (.g rfl rfl) (.lo cv) ?_
  refine O.op (.g rfl rfl) (.leq rfl rfl)<|O.q 2 rfl ?_
  first|refine O.dV 13 rfl (fun iJ=>?_) (fun iJ=>?_)|refine O.dF 13 rfl (fun iJ=>?_) (fun iJ=>?_)
  ·refine O.op (.g rfl rfl) (.aF rz rfl)<|O.op (.g rfl rfl) (.aF rA rfl)<|O.op (.g rfl rfl) (.lo cv) ?_
   refine O.op (.g rfl rfl) (.geq rfl rfl)<|O.q 2 rfl ?_
   first|refine O.dV 19 rfl (fun sQ=>?_) (fun sQ=>?_)|refine O.dF 19 rfl (fun sQ=>?_) (fun sQ=>?_)
   ·refine O.op (.g rfl rfl) (.aF rz rfl)<|O.op (.g rfl rfl) (.aF rA rfl)<|O.op (.g rfl rfl) (.lo cv) ?_
    refine O.op (.g rfl rfl) (.lss rfl rfl)<|O.q 2 rfl ?_
    first|refine O.dV 25 rfl (fun rC=>?_) (fun rC=>?_)|refine O.dF 25 rfl (fun rC=>?_) (fun rC=>?_)
    ·refine O.op (.g rfl rfl) (.aF rz rfl)<|O.op (.g rfl rfl) (.aF G1 rfl)<|O.op (.g rfl rfl) (.lo cv) ?_
     refine O.op (.g rfl rfl) (.geq rfl rfl)<|O.q 2 rfl ?_
     first|refine O.dV 31 rfl (fun ji=>?_) (fun ji=>?_)|refine O.dF 31 rfl (fun ji=>?_) (fun ji=>?_)
     ·refine O.op (.g rfl rfl) (.aF rz rfl)<|O.op (.g rfl rfl) (.aF G1 rfl)<|O.op (.g rfl rfl) (.lo cv) ?_
      refine O.op (.g rfl rfl) (.leq rfl rfl)<|O.q 2 rfl ?_
      first|refine O.dV 37 rfl (fun Co=>?_) (fun Co=>?_)|refine O.dF 37 rfl (fun Co=>?_) (fun Co=>?_)
      ·refine O.op (.g rfl rfl) (.aF rz rfl)<|O.op (.g rfl rfl) (.aF uH rfl)<|O.op (.g rfl rfl) (.lo bg) ?_
       refine O.op (.g rfl rfl) (.len rfl underlying24 rfl)<|O.op (.g rfl rfl) (.eql rfl rfl)<|O.q 2 rfl<|O.nil<|S.ret results284 rfl fun w hw=>Holds.end_ hR hw ?_
       first|exact ⟨_,⟨congrArg _ (decide_eq_false ah).symm,rfl⟩,by repeat (first|exact aW|exact aY|(apply aX;focus (repeat (first|exact aU|apply zt)))|apply aZ)⟩|exact ⟨_,⟨congrArg _ (decide_eq_decide.2 ah),rfl⟩,by repeat (first|exact aW|exact aY|(apply aX;focus (repeat (first|exact aU|apply zt)))|apply aZ)⟩
      ·refine O.q 7 rfl<|O.nil<|S.ret results284 rfl fun w hw=>Holds.end_ hR hw ?_
       first|exact ⟨_,⟨congrArg _ (decide_eq_false ah).symm,rfl⟩,by repeat (first|exact aW|exact aY|(apply aX;focus (repeat (first|exact aU|apply zt)))|apply aZ)⟩|exact ⟨_,⟨congrArg _ (decide_eq_decide.2 ah),rfl⟩,by repeat (first|exact aW|exact aY|(apply aX;focus (repeat (first|exact aU|apply zt)))|apply aZ)⟩
     ·refine O.q 13 rfl<|O.nil<|S.ret results284 rfl fun w hw=>Holds.end_ hR hw ?_
      first|exact ⟨_,⟨congrArg _ (decide_eq_false ah).symm,rfl⟩,by repeat (first|exact aW|exact aY|(apply aX;focus (repeat (first|exact aU|apply zt)))|apply aZ)⟩|exact ⟨_,⟨congrArg _ (decide_eq_decide.2 ah),rfl⟩,by repeat (first|exact aW|exact aY|(apply aX;focus (repeat (first|exact aU|apply zt)))|apply aZ)⟩
    ·refine O.q 19 rfl<|O.nil<|S.ret results284 rfl fun w hw=>Holds.end_ hR hw ?_
     first|exact ⟨_,⟨congrArg _ (decide_eq_false ah).symm,rfl⟩,by repeat (first|exact aW|exact aY|(apply aX;focus (repeat (first|exact aU|apply zt)))|apply aZ)⟩|exact ⟨_,⟨congrArg _ (decide_eq_decide.2 ah),rfl⟩,by repeat (first|exact aW|exact aY|(apply aX;focus (repeat (first|exact aU|apply zt)))|apply aZ)⟩
   ·refine O.q 25 rfl<|O.nil<|S.ret results284 rfl fun w hw=>Holds.end_ hR hw ?_
    first|exact ⟨_,⟨congrArg _ (decide_eq_false ah).symm,rfl⟩,by repeat (first|exact aW|exact aY|(apply aX;focus (repeat (first|exact aU|apply zt)))|apply aZ)⟩|exact ⟨_,⟨congrArg _ (decide_eq_decide.2 ah),rfl⟩,by repeat (first|exact aW|exact aY|(apply aX;focus (repeat (first|exact aU|apply zt)))|apply aZ)⟩
  ·refine O.q 31 rfl<|O.nil<|S.ret results284 rfl fun w hw=>Holds.end_ hR hw ?_
   first|exact ⟨_,⟨congrArg _ (decide_eq_false ah).symm,rfl⟩,by repeat (first|exact aW|exact aY|(apply aX;focus (repeat (first|exact aU|apply zt)))|apply aZ)⟩|exact ⟨_,⟨congrArg _ (decide_eq_decide.2 ah),rfl⟩,by repeat (first|exact aW|exact aY|(apply aX;focus (repeat (first|exact aU|apply zt)))|apply aZ)⟩
 ·refine O.q 37 rfl<|O.nil<|S.ret results284 rfl fun w hw=>Holds.end_ hR hw ?_
  first|exact ⟨_,⟨congrArg _ (decide_eq_false ah).symm,rfl⟩,by repeat (first|exact aW|exact aY|(apply aX;focus (repeat (first|exact aU|apply zt)))|apply aZ)⟩|exact ⟨_,⟨congrArg _ (decide_eq_decide.2 ah),rfl⟩,by repeat (first|exact aW|exact aY|(apply aX;focus (repeat (first|exact aU|apply zt)))|apply aZ)⟩
theorem SP {r:Fr} {cs:List Value} {x:iV} (h:gq.rel r cs x):ay prog 205 #[.agg cs.toArray] r [] (aM fun v U=>v=.bool (nD x)∧U=[]):=by
 obtain ⟨fE,pq,fF,py,rfl,k0,k1,k2,aR,pP⟩:=gq.sh h;refine ay.of (n:=12) _ rfl func205 rfl rfl rfl fun g hg R hR=>?_;have h:=h.mono hg
 cases e:xU x with
 |false =>
  refine S.seq<|S.region rfl<|O.aO (.p rfl) (.box (cs:=[_,_,_,_,_]) rfl rfl) ?_;rintro _ _ ⟨b1,rfl,rfl⟩;refine O.q 1 rfl<|O.nil<|S.seq<|S.region rfl<|O.op (.p rfl) (.gU (news:=[_,_,_,_,_]) isAgg271) ?_;refine O.aC (.p rfl) rfl aa rfl rfl (Jx h) ?_;rintro _ _ ⟨rfl,rfl⟩
  try simp only [an,aq,au]
  refine O.aL 4 rfl (by exact e) ?_;refine O.q 8 rfl<|O.nil ?_;exact S.rt results205 rfl hR ⟨by simp [nD,e],rfl⟩
 |true =>
  refine S.seq<|S.region rfl<|O.aO (.p rfl) (.box (cs:=[_,_,_,_,_]) rfl rfl) ?_;rintro _ _ ⟨b1,rfl,rfl⟩;refine O.q 1 rfl<|O.nil<|S.seq<|S.region rfl<|O.op (.p rfl) (.gU (news:=[_,_,_,_,_]) isAgg271) ?_;refine O.aC (.p rfl) rfl aa rfl rfl (Jx h) ?_;rintro _ _ ⟨rfl,rfl⟩
  try simp only [an,aq,au]
  refine O.sT 4 rfl (by exact e) ?_;refine O.q 1 rfl<|O.op (.g rfl rfl) (.aF rz rfl)<|O.op (.g rfl rfl) (.aF Nb rfl)<|O.op (.g rfl rfl) (.lo bg) ?_;refine O.op (.g rfl rfl) (.len rfl underlying24 rfl)<|O.op (.g rfl rfl) (.eql rfl rfl)<|O.q 2 rfl<|O.nil ?_;exact S.rt results205 rfl hR ⟨by simp [nD,e];omega,rfl⟩
theorem AE {r:Fr} {cs:List Value} {x:iV} (h:gq.rel r cs x):ay prog 121 #[.agg cs.toArray] r [] (aM fun v U=>v=.bool (nD x)∧U=[]):=by
 obtain ⟨fE,pq,fF,py,rfl,k0,k1,k2,aR,pP⟩:=gq.sh h;refine ay.of (n:=6) _ rfl func121 rfl rfl rfl fun g hg R hR=>?_;have h:=h.mono hg;refine S.seq<|S.region rfl<|O.aO (.p rfl) (.box (cs:=[_,_,_,_,_]) rfl rfl) ?_;rintro _ _ ⟨b1,rfl,rfl⟩;refine O.q 1 rfl<|O.nil<|S.seq<|S.region rfl<|O.op (.p rfl) (.gU (news:=[_,_,_,_,_]) isAgg81) ?_;refine O.op (.p rfl) (.build (cs:=[_,_,_,_,_]) underlying271 rfl rfl rfl rfl rfl)<|O.aC (.p rfl) rfl aa rfl rfl (SP h) ?_;rintro _ _ ⟨rfl,rfl⟩
 try simp only [an,aq,au]
 refine O.q 1 rfl<|O.nil ?_;exact S.rt results121 rfl hR ⟨rfl,rfl⟩
theorem Lw {r:Fr} {va kQ:Value} {xs ys:List UInt8} (ha:aj ag.u8 r va xs) (hb:aj ag.u8 r kQ ys):ay prog 308 #[va,kQ] r [] (aM fun v U=>v=.int .i64 (Lib.compareBytes xs ys)∧U=[]):=by
 refine ay.of (n:=8) _ rfl func308 rfl rfl rfl fun g hg R hR=>?_;have ha:=ha.mono hg;have hb:=hb.mono hg;obtain ⟨a1,c1,rfl⟩:=ha.shape;obtain ⟨a2,c2,rfl⟩:=hb.shape;refine S.seq<|S.region rfl<|O.q 1 rfl<|O.nil<|S.seq<|S.region rfl<|O.q 2 rfl<|O.op (.p rfl) (.Mh func342 aa rfl aa aa rfl rfl rfl ha hb)<|O.q 1 rfl<|O.nil ?_;exact S.rt results308 rfl hR ⟨rfl,rfl⟩
end Go.Proofs.YtojafegjlahajaaGreatDoor
