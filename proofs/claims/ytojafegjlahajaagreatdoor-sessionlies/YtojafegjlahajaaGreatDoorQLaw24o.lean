/- Texts of this proof. -/
import Derived.Test.YtojafegjlahajaaGreatDoorQPut3
import Derived.Test.YtojafegjlahajaaGreatDoorQSes8
open Go Go.Sp Go.Proofs.Tryz
set_option maxRecDepth 100000
set_option maxHeartbeats 1000000
attribute [local irreducible] obj Own av
namespace Go.Proofs.YtojafegjlahajaaGreatDoor
attribute [local irreducible] bw bZ
theorem WU {d:Fr} {b s:Nat} {L:List aG} {m:Fr} (h:Sat [bl aJ d b s L] m):fh aJ d b s L L m:=by
 obtain ⟨m1,_,_,s1,_,o,_⟩:=h;obtain ⟨x,hx⟩:=bl.z o;exact ⟨x,Sat.mono s1 hx⟩
theorem AM {s:Nat}:∀ {l:List aG} {i:Nat} (hi:i<l.length),(∀ x∈l.take i,uc s x)→mT s l[i]≠0→jt s l=mT s l[i]
 |x::l,0,_,_,ne=>by unfold jt;rw [if_neg (by simpa using ne)];rfl
 |x::l,i+1,hi,h,ne=>by
  have h0:mT s x=0:=Fc.2 (h x bI);have:jt s (x::l)=jt s l:=by
   show (if mT s x=0 then jt s l else mT s x)=jt s l
   rw [if_pos h0]
  rw [this];exact AM (l:=l) (i:=i) (by simpa using hi) (fun y hy=>h y (by simp [hy])) (by simpa using ne)
theorem Lg {α:Type} {P:α→Prop} {l:List α} {i:Nat} (hi:i<l.length) (h:∀ x∈l.take i,P x) (hp:P l[i]):∀ x∈l.take (i+1),P x:=fun x hx=>by
 rw [List.take_succ_eq_append_getElem hi] at hx
 rcases List.mem_append.1 hx with q|q
 ·exact h x q
 ·rw [List.mem_singleton.1 q];exact hp
theorem Fi:∀ (l L:List aG),(fQ L l).length≤L.length+l.length
 |[],L=>Nat.le_refl _
 |x::l,L=>by
  have h1:=Fi l (gQ L x);have h2:=Ul L x;have e:fQ L (x::l)=fQ (gQ L x) l:=rfl;rw [e,List.length_cons];omega
theorem Ki {N:Nat}:∀ (l L:List aG),(∀ z∈L,z.2.1.length≤N)→(∀ z∈l,z.2.1.length≤N)→∀ z∈fQ L l,z.2.1.length≤N
 |[],_,h,_=>h
 |x::l,L,h,hl=>Ki l (gQ L x) (Um h (hl x bI)) fun z hz=>hl z (by simp [hz])
theorem Kf {s:Nat} {x:aG} (h:¬ (mQ x.1∧pP x.1=s)):mT s x=22:=by unfold mT;rw [if_pos h]
theorem Uk {s:Nat} {x:aG} (h:mQ x.1∧pP x.1=s) (k:¬ nM x.1 x.2.1):mT s x=4:=by unfold mT;rw [if_neg (by simp [h]),if_pos k]
set_option maxHeartbeats 800000 in
theorem FJ {r d:Fr} {b s:Nat} {L l:List aG} {va:Value} (hT:gK r d s L) (ha:aj bW r va l) (hl:L.length+l.length≤10000000) (tP:∀ y∈l,y.2.1.length≤10000000) :
  ay prog 30 #[.pointer (some ⟨b,0,none⟩),va] r [bl aJ d b s L] (aL fun u U=>u=.int .i64 (jt s l)∧U=[bl aJ d b s (if jt s l=0 then fQ L l else L)]):=by
 obtain ⟨a1,c1,rfl⟩:=ha.shape;refine ay.of (n:=79) _ rfl func30 rfl rfl rfl fun g hg R hR=>?_;have hT:=hT.mono hg;have ha:=ha.mono hg;refine S.seq<|S.region rfl<|O.q 1 rfl<|O.nil<|S.seq<|S.seq<|S.region rfl<|O.q 1 rfl<|O.dw (.p rfl) rfl aa rfl rfl (bs:=[bl aJ d b s L]) bf (fun m hm hd=>qm (bl.jG hT.hd hd hm)) ?_;rintro _ _ ⟨rfl,rfl⟩
 try simp only [an,aq,au]
 refine O.sT 12 rfl aK ?_;refine O.op (.p rfl) (.not rfl)<|O.nil<|S.aQ rfl<|S.skip<|S.seq<|S.seq<|S.region rfl<|O.q 1 rfl<|O.op (.p rfl) (.len rfl underlying25 rfl)<|O.q 1 rfl<|O.nil<|S.block<|S.e6 (ι:=Nat) (fun i=>i≤l.length∧∀ x∈l.take i,uc s x) (fun i=>[(16,.int .i64 (i:Int))]) [(0,_),(1,_),(14,_),(15,_)] (fun i=>[bl aJ d b s L]) (fun i=>l.length - i) (0) (by exact ⟨Nat.zero_le _,fun x hx=>by cases hx⟩) (.cons rfl (.nil)) (.cons rfl (.cons rfl (.cons rfl (.cons rfl (.nil))))) rfl fun i hx ih=>?_;have aX:=cL (g:=g);obtain ⟨hx1,hx2⟩:=hx;refine S.seq<|S.region rfl<|O.op (.p rfl) (.lss rfl rfl)<|O.nil (S.seq ?_)
 first|refine S.cc rfl (fun gx=>?_) (fun gx=>?_)|refine S.b7 rfl (fun gx=>?_) (fun gx=>?_)
 ·have hi:i<l.length:=by omega
  have DF:=tP _ (List.getElem_mem hi)
  by_cases k1:mQ l[i].1
  ·have k0:l[i].1.length≤64:=k1.2
   by_cases k2:pP l[i].1=s
   ·by_cases bg:nM l[i].1 l[i].2.1
    ·
     refine S.skip<|S.seq<|S.block<|S.seq<|S.region rfl<|O.b8 (.p rfl) underlying25 di rfl rfl (show _=(((i):Nat):Int) by omega) (by first|assumption|exact aj.mono hg zE|exact aj.left zE|exact aj.left (aj.mono hg zE)) (h:=fun AF y_ l_ me=>?_);obtain ⟨EB,EC,rfl,zX,nD⟩:=bW.sh me;refine O.op (.p rfl) (.bz isAgg31 aa rfl l_) ?_;refine O.aM (.p rfl) (.alloc (cs:=[.string ⟨#[]⟩,.slice none 0 0]) zeroValue31 rfl) ?_;rintro _ _ ⟨fW,rfl,rfl⟩;refine O.bu rfl (.cZ aa rfl rfl rfl rfl ai aW) ?_;refine O.nil<|S.block<|S.seq<|S.seq<|S.cW ai fun g hs hm h6=>?_;replace hg:=Fr.aH hg hs;replace hR:=bp hR hm
     try replace hT:=hT.mono hs
     try replace ha:=ha.mono hs
     try replace l_:=l_.mono hs
     try replace nD:=nD.mono hs
     try replace me:=me.mono hs
     replace aX:=dH aX hm;clear hs hm;refine S.region rfl<|O.op (.p rfl) (.fieldAddr eA rfl)<|O.op (.p rfl) (.loadAt bL rfl h6 rfl) ?_;refine O.aB (.p rfl) rfl aa rfl rfl ((qd ah)) ?_;rintro _ _ ⟨rfl,rfl⟩
     try simp only [an,aq,au]
     refine O.sT 23 rfl (by exact decide_eq_true k1) ?_;refine O.op (.p rfl) (.not rfl)<|O.q 1 rfl<|O.nil<|S.aQ rfl<|S.bB (L:=[0,1,3,4,5,2,6,7,8]) bA aa ?_;refine .quiet (.p rfl) rfl (fun _=>.fieldAddr eA rfl)<|.quiet (.p rfl) rfl (fun _=>.loadAt bL rfl h6 rfl) ?_;refine af.q 1 rfl<|.quiet (.p rfl) rfl (fun _=>.nilCheck rfl)<|.quiet (.p rfl) rfl (fun _=>.fieldAddr vh rfl)<|af.eY 2 6 [6,7,8] [2,7,8] aa rfl rfl ?_ ?_
     ·refine bO.aB (.p rfl) aa rfl aa rfl rfl ((sA hT.hH hT.hK ah)) ?_
      rintro _ _ ⟨rfl,rfl⟩
      try simp only [an,aq,au]
      refine af.cu (.p rfl) aa (fun _=>.sD cv aK ai) ?_;refine .quiet (.p rfl) rfl (fun _=>.neq rfl rfl)<|af.aN 32 rfl (by exact decide_eq_false ah) ?_;refine af.q 1 rfl<|aI.nil<|S.aQ rfl<|S.seq<|S.region rfl<|O.op (.p rfl) (.fieldAddr eA rfl)<|O.op (.p rfl) (.loadAt bL rfl h6 rfl) ?_;refine O.op (.p rfl) (.fieldAddr fG rfl)<|O.op (.p rfl) (.loadAt ew rfl (h6.drop 1) rfl) ?_;refine O.aB (.p rfl) rfl aa rfl rfl ((si nD ah)) ?_;rintro _ _ ⟨rfl,rfl⟩
      try simp only [an,aq,au]
      refine O.sT 38 rfl (by exact decide_eq_true bg) ?_;refine O.op (.p rfl) (.not rfl)<|O.q 1 rfl<|O.nil<|S.aQ rfl<|S.skip<|S.inBlock<|S.inBlock<|S.region rfl<|O.op (.p rfl) (.add rfl rfl (IntWalk.i64_in _ ah))<|O.q 1 rfl<|O.nil ?_;exact S.ic aX (S.dz (ih (i+1) (by exact ⟨by omega,Lg hi hx2 ⟨⟨k1,k2⟩,bg⟩⟩) ah))
     ·refine bO.cu (.p rfl) aa (fun _=>.sD cv aK ai) ?_
      refine af.aB (.p rfl) aa rfl aa rfl rfl ((sA hT.hH hT.hK ah)) ?_;rintro _ _ ⟨rfl,rfl⟩
      try simp only [an,aq,au]
      refine .quiet (.p rfl) rfl (fun _=>.neq rfl rfl)<|af.aN 32 rfl (by exact decide_eq_false ah) ?_;refine af.q 1 rfl<|aI.nil<|S.aQ rfl<|S.seq<|S.region rfl<|O.op (.p rfl) (.fieldAddr eA rfl)<|O.op (.p rfl) (.loadAt bL rfl h6 rfl) ?_;refine O.op (.p rfl) (.fieldAddr fG rfl)<|O.op (.p rfl) (.loadAt ew rfl (h6.drop 1) rfl) ?_;refine O.aB (.p rfl) rfl aa rfl rfl ((si nD ah)) ?_;rintro _ _ ⟨rfl,rfl⟩
      try simp only [an,aq,au]
      refine O.sT 38 rfl (by exact decide_eq_true bg) ?_;refine O.op (.p rfl) (.not rfl)<|O.q 1 rfl<|O.nil<|S.aQ rfl<|S.skip<|S.inBlock<|S.inBlock<|S.region rfl<|O.op (.p rfl) (.add rfl rfl (IntWalk.i64_in _ ah))<|O.q 1 rfl<|O.nil ?_;exact S.ic aX (S.dz (ih (i+1) (by exact ⟨by omega,Lg hi hx2 ⟨⟨k1,k2⟩,bg⟩⟩) ah))
    ·have fm:=Uk ⟨k1,k2⟩ bg
     have hE:jt s l=4:=(AM hi hx2 (by rw [fm];decide)).trans fm;rw [hE,if_neg aC] at hR;refine S.skip<|S.seq<|S.block<|S.seq<|S.region rfl<|O.b8 (.p rfl) underlying25 di rfl rfl (show _=(((i):Nat):Int) by omega) (by first|assumption|exact aj.mono hg zE|exact aj.left zE|exact aj.left (aj.mono hg zE)) (h:=fun AF y_ l_ me=>?_);obtain ⟨EB,EC,rfl,zX,nD⟩:=bW.sh me;refine O.op (.p rfl) (.bz isAgg31 aa rfl l_) ?_;refine O.aM (.p rfl) (.alloc (cs:=[.string ⟨#[]⟩,.slice none 0 0]) zeroValue31 rfl) ?_;rintro _ _ ⟨fW,rfl,rfl⟩;refine O.bu rfl (.cZ aa rfl rfl rfl rfl ai aW) ?_;refine O.nil<|S.block<|S.seq<|S.seq<|S.cW ai fun g hs hm h6=>?_;replace hg:=Fr.aH hg hs;replace hR:=bp hR hm
     try replace hT:=hT.mono hs
     try replace ha:=ha.mono hs
     try replace l_:=l_.mono hs
     try replace nD:=nD.mono hs
     try replace me:=me.mono hs
     replace aX:=dH aX hm;clear hs hm;refine S.region rfl<|O.op (.p rfl) (.fieldAddr eA rfl)<|O.op (.p rfl) (.loadAt bL rfl h6 rfl) ?_;refine O.aB (.p rfl) rfl aa rfl rfl ((qd ah)) ?_;rintro _ _ ⟨rfl,rfl⟩
     try simp only [an,aq,au]
     refine O.sT 23 rfl (by exact decide_eq_true k1) ?_;refine O.op (.p rfl) (.not rfl)<|O.q 1 rfl<|O.nil<|S.aQ rfl<|S.bB (L:=[0,1,3,4,5,2,6,7,8]) bA aa ?_;refine .quiet (.p rfl) rfl (fun _=>.fieldAddr eA rfl)<|.quiet (.p rfl) rfl (fun _=>.loadAt bL rfl h6 rfl) ?_;refine af.q 1 rfl<|.quiet (.p rfl) rfl (fun _=>.nilCheck rfl)<|.quiet (.p rfl) rfl (fun _=>.fieldAddr vh rfl)<|af.eY 2 6 [6,7,8] [2,7,8] aa rfl rfl ?_ ?_
     ·refine bO.aB (.p rfl) aa rfl aa rfl rfl ((sA hT.hH hT.hK ah)) ?_
      rintro _ _ ⟨rfl,rfl⟩
      try simp only [an,aq,au]
      refine af.cu (.p rfl) aa (fun _=>.sD cv aK ai) ?_;refine .quiet (.p rfl) rfl (fun _=>.neq rfl rfl)<|af.aN 32 rfl (by exact decide_eq_false ah) ?_;refine af.q 1 rfl<|aI.nil<|S.aQ rfl<|S.seq<|S.region rfl<|O.op (.p rfl) (.fieldAddr eA rfl)<|O.op (.p rfl) (.loadAt bL rfl h6 rfl) ?_;refine O.op (.p rfl) (.fieldAddr fG rfl)<|O.op (.p rfl) (.loadAt ew rfl (h6.drop 1) rfl) ?_;refine O.aB (.p rfl) rfl aa rfl rfl ((si nD ah)) ?_;rintro _ _ ⟨rfl,rfl⟩
      try simp only [an,aq,au]
      refine O.aN 38 rfl (by exact decide_eq_false bg) ?_;refine O.op (.p rfl) (.not rfl)<|O.q 1 rfl<|O.nil<|S.bx rfl<|S.seq<|S.region rfl<|O.q 1 rfl<|O.nil ?_;exact S.rt results30 rfl hR ⟨rfl,rfl⟩
     ·refine bO.cu (.p rfl) aa (fun _=>.sD cv aK ai) ?_
      refine af.aB (.p rfl) aa rfl aa rfl rfl ((sA hT.hH hT.hK ah)) ?_;rintro _ _ ⟨rfl,rfl⟩
      try simp only [an,aq,au]
      refine .quiet (.p rfl) rfl (fun _=>.neq rfl rfl)<|af.aN 32 rfl (by exact decide_eq_false ah) ?_;refine af.q 1 rfl<|aI.nil<|S.aQ rfl<|S.seq<|S.region rfl<|O.op (.p rfl) (.fieldAddr eA rfl)<|O.op (.p rfl) (.loadAt bL rfl h6 rfl) ?_;refine O.op (.p rfl) (.fieldAddr fG rfl)<|O.op (.p rfl) (.loadAt ew rfl (h6.drop 1) rfl) ?_;refine O.aB (.p rfl) rfl aa rfl rfl ((si nD ah)) ?_;rintro _ _ ⟨rfl,rfl⟩
      try simp only [an,aq,au]
      refine O.aN 38 rfl (by exact decide_eq_false bg) ?_;refine O.op (.p rfl) (.not rfl)<|O.q 1 rfl<|O.nil<|S.bx rfl<|S.seq<|S.region rfl<|O.q 1 rfl<|O.nil ?_;exact S.rt results30 rfl hR ⟨rfl,rfl⟩
   ·have fm:=Kf (s:=s) (x:=l[i]) (fun q=>k2 q.2)
    have hE:jt s l=22:=(AM hi hx2 (by rw [fm];decide)).trans fm;rw [hE,if_neg aC] at hR;refine S.skip<|S.seq<|S.block<|S.seq<|S.region rfl<|O.b8 (.p rfl) underlying25 di rfl rfl (show _=(((i):Nat):Int) by omega) (by first|assumption|exact aj.mono hg zE|exact aj.left zE|exact aj.left (aj.mono hg zE)) (h:=fun AF y_ l_ me=>?_);obtain ⟨EB,EC,rfl,zX,nD⟩:=bW.sh me;refine O.op (.p rfl) (.bz isAgg31 aa rfl l_) ?_;refine O.aM (.p rfl) (.alloc (cs:=[.string ⟨#[]⟩,.slice none 0 0]) zeroValue31 rfl) ?_;rintro _ _ ⟨fW,rfl,rfl⟩;refine O.bu rfl (.cZ aa rfl rfl rfl rfl ai aW) ?_;refine O.nil<|S.block<|S.seq<|S.seq<|S.cW ai fun g hs hm h6=>?_;replace hg:=Fr.aH hg hs;replace hR:=bp hR hm
    try replace hT:=hT.mono hs
    try replace ha:=ha.mono hs
    try replace l_:=l_.mono hs
    try replace nD:=nD.mono hs
    try replace me:=me.mono hs
    replace aX:=dH aX hm;clear hs hm;refine S.region rfl<|O.op (.p rfl) (.fieldAddr eA rfl)<|O.op (.p rfl) (.loadAt bL rfl h6 rfl) ?_;refine O.aB (.p rfl) rfl aa rfl rfl ((qd ah)) ?_;rintro _ _ ⟨rfl,rfl⟩
    try simp only [an,aq,au]
    refine O.sT 23 rfl (by exact decide_eq_true k1) ?_;refine O.op (.p rfl) (.not rfl)<|O.q 1 rfl<|O.nil<|S.aQ rfl<|S.bB (L:=[0,1,3,4,5,2,6,7,8]) bA aa ?_;refine .quiet (.p rfl) rfl (fun _=>.fieldAddr eA rfl)<|.quiet (.p rfl) rfl (fun _=>.loadAt bL rfl h6 rfl) ?_;refine af.q 1 rfl<|.quiet (.p rfl) rfl (fun _=>.nilCheck rfl)<|.quiet (.p rfl) rfl (fun _=>.fieldAddr vh rfl)<|af.eY 2 6 [6,7,8] [2,7,8] aa rfl rfl ?_ ?_
    ·refine bO.aB (.p rfl) aa rfl aa rfl rfl ((sA hT.hH hT.hK ah)) ?_
     rintro _ _ ⟨rfl,rfl⟩
     try simp only [an,aq,au]
     refine af.cu (.p rfl) aa (fun _=>.sD cv aK ai) ?_;refine .quiet (.p rfl) rfl (fun _=>.neq rfl rfl)<|af.sT 32 rfl (by exact decide_eq_true ah) ?_;refine af.q 1 rfl<|aI.nil<|S.bx rfl<|S.seq<|S.region rfl<|O.q 1 rfl<|O.nil ?_;exact S.rt results30 rfl hR ⟨rfl,rfl⟩
    ·refine bO.cu (.p rfl) aa (fun _=>.sD cv aK ai) ?_
     refine af.aB (.p rfl) aa rfl aa rfl rfl ((sA hT.hH hT.hK ah)) ?_;rintro _ _ ⟨rfl,rfl⟩
     try simp only [an,aq,au]
     refine .quiet (.p rfl) rfl (fun _=>.neq rfl rfl)<|af.sT 32 rfl (by exact decide_eq_true ah) ?_;refine af.q 1 rfl<|aI.nil<|S.bx rfl<|S.seq<|S.region rfl<|O.q 1 rfl<|O.nil ?_;exact S.rt results30 rfl hR ⟨rfl,rfl⟩
  ·have fm:=Kf (s:=s) (x:=l[i]) (fun q=>k1 q.1)
   have hE:jt s l=22:=(AM hi hx2 (by rw [fm];decide)).trans fm;rw [hE,if_neg aC] at hR;refine S.skip<|S.seq<|S.block<|S.seq<|S.region rfl<|O.b8 (.p rfl) underlying25 di rfl rfl (show _=(((i):Nat):Int) by omega) (by first|assumption|exact aj.mono hg zE|exact aj.left zE|exact aj.left (aj.mono hg zE)) (h:=fun AF y_ l_ me=>?_);obtain ⟨EB,EC,rfl,zX,nD⟩:=bW.sh me;refine O.op (.p rfl) (.bz isAgg31 aa rfl l_) ?_;refine O.aM (.p rfl) (.alloc (cs:=[.string ⟨#[]⟩,.slice none 0 0]) zeroValue31 rfl) ?_;rintro _ _ ⟨fW,rfl,rfl⟩;refine O.bu rfl (.cZ aa rfl rfl rfl rfl ai aW) ?_;refine O.nil<|S.block<|S.seq<|S.seq<|S.region rfl<|O.op (.p rfl) (.aD eA rfl)<|O.op (.p rfl) (.lo bL) ?_;refine O.aB (.p rfl) rfl aa rfl rfl ((qd zX)) ?_;rintro _ _ ⟨rfl,rfl⟩
   try simp only [an,aq,au]
   refine O.aN 23 rfl (by exact decide_eq_false k1) ?_;refine O.op (.p rfl) (.not rfl)<|O.q 1 rfl<|O.nil<|S.bx rfl<|S.skip<|S.bx rfl<|S.seq<|S.region rfl<|O.q 1 rfl<|O.nil ?_;exact S.rt results30 rfl hR ⟨rfl,rfl⟩
 ·clear ih
  have hi:i=l.length:=by omega
  subst hi;rw [List.take_length] at hx2;have hE:jt s l=0:=Fe.2 hx2;rw [hE,if_pos rfl] at hR;refine S.imp (ax :=[bl aJ d b s (fQ L (l.take 0))]) (fun m h=>h) ?_;refine S.exit rfl<|S.seq<|S.seq<|S.region rfl<|O.q 1 rfl<|O.op (.p rfl) (.len rfl underlying25 rfl)<|O.q 1 rfl<|O.nil<|S.block<|S.e6 (ι:=Nat) (fun i=>i≤l.length) (fun i=>[(43,.int .i64 (i:Int))]) [(0,_),(41,_),(42,_)] (fun i=>[bl aJ d b s (fQ L (l.take i))]) (fun i=>l.length - i) (0) bI (.cons rfl (.nil)) (.cons rfl (.cons rfl (.cons rfl (.nil)))) rfl fun i hx ih=>?_;have hm2:=cL (g:=g);refine S.seq<|S.region rfl<|O.op (.p rfl) (.lss rfl rfl)<|O.nil (S.seq ?_)
  first|refine S.cc rfl (fun CW=>?_) (fun CW=>?_)|refine S.b7 rfl (fun CW=>?_) (fun CW=>?_)
  ·have hi:i<l.length:=by omega
   have DF:=tP _ (List.getElem_mem hi);have kK:=hx2 _ (List.getElem_mem hi);have k0:l[i].1.length≤64:=kK.1.1.2;have Dd:iv s (fQ L (l.take i)):=iv.Fh hT.ok (fun x hx=>hx2 x (List.mem_of_mem_take hx));have hn:=Fi (l.take i) L;have jF:(l.take i).length=i:=by simp;omega
   have eU:fQ L (l.take (i+1))=gQ (fQ L (l.take i)) (l[i].1,l[i].2.1,()):=Ur hi;generalize fQ L (l.take i)=uN at Dd hn eU ⊢;refine S.skip<|S.seq<|S.block<|S.seq<|S.region rfl<|O.b8 (.p rfl) underlying25 di rfl rfl (show _=(((i):Nat):Int) by omega) (by first|assumption|exact aj.mono hg zE|exact aj.left zE|exact aj.left (aj.mono hg zE)) (h:=fun aab Yg DW Ef=>?_);obtain ⟨ZL,ZS,rfl,Zh,Di⟩:=bW.sh Ef;refine O.op (.p rfl) (.bz isAgg31 aa rfl DW) ?_;refine O.aM (.p rfl) (.alloc (cs:=[.string ⟨#[]⟩,.slice none 0 0]) zeroValue31 rfl) ?_;rintro _ _ ⟨j7,rfl,rfl⟩;refine O.bu rfl (.cZ aa rfl rfl rfl rfl ai aW) ?_;refine O.nil<|S.seq<|S.cW ai fun g hs hm h8=>?_;replace hg:=Fr.aH hg hs;replace hR:=bp hR hm
   try replace hT:=hT.mono hs
   try replace ha:=ha.mono hs
   try replace DW:=DW.mono hs
   try replace Di:=Di.mono hs
   try replace Ef:=Ef.mono hs
   replace aX:=dH aX hm;replace hm2:=dH hm2 hm;clear hs hm;refine S.cB (A:=fh aJ d b s uN uN) (bs:=[bl aJ d b s uN]) bf (fun m h=>WU h) ?_;refine S.bB (L:=[0,1,2,3,4,6,7,5,8,9,10]) bA aa ?_;refine af.q 1 rfl<|.quiet (.p rfl) rfl (fun _=>.nilCheck rfl)<|.quiet (.p rfl) rfl (fun _=>.fieldAddr lz rfl)<|.quiet (.p rfl) rfl (fun _=>.fieldAddr eA rfl)<|.quiet (.p rfl) rfl (fun _=>.loadAt bL rfl h8 rfl) ?_;refine .quiet (.p rfl) rfl (fun _=>.fieldAddr fG rfl)<|.quiet (.p rfl) rfl (fun _=>.loadAt ew rfl (h8.drop 1) rfl) ?_;refine af.aB (.p rfl) aa rfl aa rfl rfl ((KI ah)) ?_;rintro _ _ ⟨rfl,rfl⟩
   try simp only [an,aq,au]
   refine af.aB (.p rfl) aa rfl aa rfl rfl ((yg Di kK.2.1 ah)) ?_;rintro _ _ ⟨a55,MM,rfl,rfl⟩
   try simp only [an,aq,au]
   refine .quiet (.p rfl) rfl (fun _=>.build (cs:=[_,_]) underlying31 rfl rfl rfl rfl rfl)<|af.e7 (.p rfl) aa rfl aa rfl rfl (bs:=[fh aJ d b s uN uN,cH (ef cD) 102 (.slice a55 l[i].2.1.length MM) l[i].2.1]) bf (Wy hT.hd Dd.2 ah ah hT.hH hT.hK) ?_;rintro _ _ ⟨rfl,rfl⟩
   try simp only [an,aq,au]
   refine aI.nil<|S.seq<|S.region rfl<|O.op (.p rfl) (.fieldAddr eA rfl)<|O.op (.p rfl) (.loadAt bL rfl h8 rfl) ?_;refine O.aB (.p rfl) rfl aa rfl rfl ((oF hT.hH hT.hK ah)) ?_;rintro _ _ ⟨rfl,rfl⟩
   try simp only [an,aq,au]
   refine O.q 1 rfl<|O.nil (S.seq ?_);rw [← eU];refine S.open (bs:=fun x:bP d uN=>bP.pT aJ b s x (fQ L (l.take (i+1)))) ai (fun m h=>fh.jq h) fun x=>?_;obtain ⟨k,c8,c9,mid,M,dY,wf,ok⟩:=x;simp only [bP.pT,List.cons_append,List.nil_append];refine S.region rfl<|O.q 1 rfl<|O.op (.p rfl) (.nilCheck rfl)<|O.op (.p rfl) (.aD p6 rfl)<|O.op (.p rfl) (.lo lW) ?_;refine O.aM (.p rfl) (.Fm underlying75 rfl ai) ?_;rintro _ _ ⟨Jl,rfl,rfl⟩;refine O.nil<|S.block<|S.pk (ζ:=[jy (K:=List UInt8) Jl mid dY [],ck encS mid M dY,jK k,obj b 77 [c8,c9,.int .i64 (s:Int),.map (some mid)],av (ag.ga d k bW) 31 c8 (fQ L (l.take (i+1))),av ag.str 9 c9 ((fQ L (l.take (i+1))).map fun y=>bS y.1)]) jx ?_
   refine S.x6 (ι:=List (cg (List UInt8))) (dI:=List (cg (List UInt8))) (jI:=List (cg (List UInt8))) (fun aZ jY cur=>nj M (fun p=>p.isPrefixOf (bS l[i].1)) dY aZ jY cur) (fun aZ jY cur=>[]) [(0,_),(9,_),(41,_),(42,_),(43,_),(65,_)] (fun aZ jY cur=>[jy Jl mid dY aZ,ck encS mid cur dY,jK k,obj b 77 [c8,c9,.int .i64 (s:Int),.map (some mid)],av (ag.ga d k bW) 31 c8 (fQ L (l.take (i+1))),av ag.str 9 c9 ((fQ L (l.take (i+1))).map fun y=>bS y.1)]) (fun aZ jY cur=>jY.length) ([]) (M) (M) (by exact nj.start wf) (.nil) (.cons rfl (.cons rfl (.cons rfl (.cons rfl (.cons rfl (.cons rfl (.nil))))))) (by with_reducible rfl) fun aZ jY cur hx ih=>?_;have IE:=cL (g:=g);refine S.seq<|S.region rfl<|O.Tq (.p rfl) rfl hx.uy hx.hp hx.wf hx.sub hx.left ai ai (fun C1=>?_) (fun sL t166 t266 C1=>?_)
   ·clear ih
    subst C1;have TG:iN d k (fQ L (l.take (i+1))) cur:=by rw [eU];exact ok.thin Dd.2 hx
    refine O.q 1 rfl<|O.nil<|S.seq<|S.aQ rfl<|S.exit rfl<|S.inBlock<|S.cB (A:=bl aJ d b s (fQ L (l.take (i+1)))) (bs:=bP.ws aJ b s ⟨k,c8,c9,mid,cur,dY,hx.wf,TG⟩) bf (fun m h=>bl.fold _ h) ?_;refine S.region rfl<|O.op (.p rfl) (.add rfl rfl (IntWalk.i64_in _ ah))<|O.q 1 rfl<|O.nil ?_;exact S.ic hm2 (S.pw (ih (i+1) ah ah))
   ·subst C1
    have hmem:sL∈cur:=hx.left _ bI;have mO:sL.1.length≤510:=(ok sL.1 sL.2.1 (vk wf.2.2 (hx.sub _ hmem))).1.1;refine O.q 1 rfl<|O.nil<|S.seq<|S.bx rfl<|S.skip<|S.block<|S.seq<|S.region rfl<|O.op (.p rfl) (.Ct rfl hx.wf hmem ai ai) ?_;refine O.q 2 rfl<|O.nil (S.seq ?_)
    by_cases Kk:sL.1.isPrefixOf (bS l[i].1)=true
    ·
     refine S.region rfl<|O.q 2 rfl<|O.aB (.p rfl) rfl aa rfl rfl ((xf (by rw [lN];decide) ah)) ?_;rintro _ _ ⟨rfl,rfl⟩
     try simp only [an,aq,au]
     refine O.sT 72 rfl (by exact Kk) ?_;refine O.nil<|S.bx rfl<|S.region rfl<|O.q 1 rfl<|O.op (.p rfl) (.nilCheck rfl)<|O.op (.p rfl) (.aD p6 rfl)<|O.op (.p rfl) (.lo lW) ?_;refine O.q 1 rfl<|O.Hr rfl underlying75 (qa underlying9) rfl rfl ai ?_;refine O.nil (S.inBlock ?_);exact S.pw (ih (aZ++[sL]) (t166++t266) (gX cur sL.1) (by exact hx.drop) bI)
    ·have Kl :=Bool.eq_false_iff.2 Kk
     refine S.region rfl<|O.q 2 rfl<|O.aB (.p rfl) rfl aa rfl rfl ((xf (by rw [lN];decide) ah)) ?_;rintro _ _ ⟨rfl,rfl⟩
     try simp only [an,aq,au]
     refine O.aN 72 rfl (by exact Kl) ?_;refine O.nil<|S.aQ rfl<|S.skip (S.inBlock ?_);exact S.pw (ih (aZ++[sL]) (t166++t266) (cur) (by exact hx.keep Kl) bI)
  ·clear ih
   have hi:i=l.length:=by omega
   subst hi;rw [List.take_length];refine S.exit rfl<|S.seq<|S.region rfl<|O.q 1 rfl<|O.nil ?_;exact S.rt results30 rfl hR ⟨rfl,rfl⟩
theorem NF {x y:dn} (h:(x.1,x.2.1)=(y.1,y.2.1)):x=y:=by
 obtain ⟨a,b,⟨⟩⟩:=x;obtain ⟨c,d,⟨⟩⟩:=y
 simp_all
theorem VW {r:Fr} {va je:Value} {xs ys:List dn} (ha:aj c5 r va xs) (hb:aj c5 r je ys) :
  ay prog 154 #[va,je] r [] (aL fun v U=>v=.bool (decide (xs=ys))∧U=[]):=by
 have har:=ha;have rT:=hb;refine ay.of (n:=26) _ rfl func154 rfl rfl rfl fun g hg R hR=>?_;have ha:=ha.mono hg;have hb:=hb.mono hg;have hbd:=ha.bound;obtain ⟨a1,c1,rfl⟩:=ha.shape;obtain ⟨a2,c2,rfl⟩:=hb.shape
 by_cases e0:xs.length=ys.length
 ·
  refine S.seq<|S.region rfl<|O.q 1 rfl<|O.nil<|S.seq<|S.seq<|S.region rfl<|O.q 1 rfl<|O.op (.p rfl) (.len rfl underlying100 rfl)<|O.q 1 rfl<|O.op (.p rfl) (.len rfl underlying100 rfl)<|O.op (.p rfl) (.neq rfl rfl)<|O.aN 10 rfl (by exact decide_eq_false ah) ?_;refine O.nil<|S.aQ rfl<|S.skip<|S.seq<|S.seq<|S.region rfl<|O.q 1 rfl<|O.nil<|S.block<|S.e6 (ι:=Nat) (fun i=>i≤xs.length∧xs.take i=ys.take i) (fun i=>[(5,.int .i64 (i:Int))]) [(0,_),(1,_)] (fun i=>[]) (fun i=>xs.length - i) (0) bI (.cons rfl (.nil)) (.cons rfl (.cons rfl (.nil))) rfl fun i hx ih=>?_;have aX:=cL (g:=g);obtain ⟨hx1,hx2⟩:=hx;refine S.seq<|S.seq<|S.region rfl<|O.q 2 rfl<|O.op (.p rfl) (.len rfl underlying100 rfl)<|O.op (.p rfl) (.lss rfl rfl)<|O.nil ?_
  first|refine S.cc rfl (fun e9=>?_) (fun e9=>?_)|refine S.b7 rfl (fun e9=>?_) (fun e9=>?_)
  ·have hi:i<xs.length:=by omega
   have hi2:i<ys.length:=by omega
   by_cases e:xs[i]=ys[i]
   ·
    refine S.skip<|S.seq<|S.block<|S.seq<|S.bB (L:=[0,1,2,3,4,5,6,7,8]) bA aa<|af.q 2 rfl<|af.ib (.p rfl) underlying100 oG rfl rfl rfl har hg (h:=fun sr sZ ki pF=>?_);have gq:=ag.rel.mono pF hg;obtain ⟨rfl,Pu,Px⟩:=c5.open gq;refine .quiet (.p rfl) rfl (fun _=>.bz isAgg191 aa rfl ki) ?_;refine af.q 2 rfl<|af.ib (.p rfl) underlying100 oG rfl rfl rfl rT hg (h:=fun vS u9 nH pG=>?_);have k4:=ag.rel.mono pG hg;obtain ⟨rfl,Pv,Py⟩:=c5.open k4;refine .quiet (.p rfl) rfl (fun _=>.bz isAgg191 aa rfl nH) ?_;refine .quiet (.p rfl) rfl (fun _=>.JQ underlying191 underlying3 rfl rfl rfl rfl aC aC aa aa rfl rfl)<|af.aN 25 rfl (by exact decide_eq_false (not_not_intro (by rw [e]))) ?_;refine aI.nil<|S.aQ rfl<|S.skip<|S.inBlock<|S.region rfl<|O.q 1 rfl<|O.op (.p rfl) (.add rfl rfl (IntWalk.i64_in _ ah))<|O.q 1 rfl<|O.nil ?_;exact S.dz (ih (i+1) (by exact ⟨by omega,FN hi hi2 hx2 e⟩) ah)
   ·
    refine S.skip<|S.seq<|S.block<|S.seq<|S.bB (L:=[0,1,2,3,4,5,6,7,8]) bA aa<|af.q 2 rfl<|af.ib (.p rfl) underlying100 oG rfl rfl rfl har hg (h:=fun sr sZ ki pF=>?_);have gq:=ag.rel.mono pF hg;obtain ⟨rfl,Pu,Px⟩:=c5.open gq;refine .quiet (.p rfl) rfl (fun _=>.bz isAgg191 aa rfl ki) ?_;refine af.q 2 rfl<|af.ib (.p rfl) underlying100 oG rfl rfl rfl rT hg (h:=fun vS u9 nH pG=>?_);have k4:=ag.rel.mono pG hg;obtain ⟨rfl,Pv,Py⟩:=c5.open k4;refine .quiet (.p rfl) rfl (fun _=>.bz isAgg191 aa rfl nH) ?_;refine .quiet (.p rfl) rfl (fun _=>.JQ underlying191 underlying3 rfl rfl rfl rfl aC aC aa aa rfl rfl)<|af.sT 25 rfl (by exact decide_eq_true (fun q=>e (NF q))) ?_;refine aI.nil<|S.bx rfl<|S.seq<|S.region rfl<|O.q 1 rfl<|O.nil ?_;exact S.rt results154 rfl hR ⟨congrArg _ (decide_eq_false (EX hi hi2 e)).symm,rfl⟩
  ·have hi:i=xs.length:=by omega
   clear ih;subst hi;rw [List.take_length,e0,List.take_length] at hx2;refine S.exit rfl<|S.seq<|S.region rfl<|O.q 1 rfl<|O.nil ?_;exact S.rt results154 rfl hR ⟨by simp [hx2],rfl⟩
 ·
  refine S.seq<|S.region rfl<|O.q 1 rfl<|O.nil<|S.seq<|S.seq<|S.region rfl<|O.q 1 rfl<|O.op (.p rfl) (.len rfl underlying100 rfl)<|O.q 1 rfl<|O.op (.p rfl) (.len rfl underlying100 rfl)<|O.op (.p rfl) (.neq rfl rfl)<|O.sT 10 rfl (by exact decide_eq_true ah) ?_;refine O.nil<|S.bx rfl<|S.seq<|S.region rfl<|O.q 1 rfl<|O.nil ?_;exact S.rt results154 rfl hR ⟨congrArg _ (decide_eq_false (fun h=>e0 (by rw [h]))).symm,rfl⟩
theorem uk {x y:aP} (h0:x.1=y.1) (h1:x.2.1=y.2.1) (h2:x.2.2.1=y.2.2.1) (h3:x.2.2.2.1=y.2.2.2.1) (h4:x.2.2.2.2.1=y.2.2.2.2.1) (h5:x.2.2.2.2.2.1=y.2.2.2.2.2.1) (h6:x.2.2.2.2.2.2.1=y.2.2.2.2.2.2.1):x=y:=by
 obtain ⟨a0,a1,a2,a3,a4,a5,a6,⟨⟩⟩:=x;obtain ⟨b0,b1,b2,b3,b4,gU,fW,⟨⟩⟩:=y
 simp_all
theorem A5 {r:Fr} {cs ds:List Value} {x y:aP} (hx:cq.rel r cs x) (hy:cq.rel r ds y) :
  ay prog 85 #[.agg cs.toArray,.agg ds.toArray] r [] (aL fun v U=>v=.bool (decide (x=y))∧U=[]):=by
 obtain ⟨gI,pU,oK,gJ,pV,oL,rfl,XG,wh,F2,yH,LJ,LK⟩:=cq.sh hx;obtain ⟨sM,uC,uD,sN,uE,uF,rfl,XO,wi,F4,yI,LN,LO⟩:=cq.sh hy;refine ay.of (n:=52) _ rfl func85 rfl rfl rfl fun g hg R hR=>?_;have yH:=yH.mono hg;have LJ:=LJ.mono hg;have LK:=LK.mono hg;have yI:=yI.mono hg;have LN:=LN.mono hg;have LO:=LO.mono hg;refine S.seq<|S.region rfl<|O.aM (.p rfl) (.box (cs:=[_,_,_,_,_,_,_]) rfl rfl) ?_;rintro _ _ ⟨b2,rfl,rfl⟩;refine O.aM (.p rfl) (.box (cs:=[_,_,_,_,_,_,_]) rfl rfl) ?_;rintro _ _ ⟨b3,rfl,rfl⟩;refine O.q 1 rfl<|O.nil<|S.seq<|S.region rfl<|O.op (.p rfl) (.aD e3 rfl)<|O.op (.p rfl) (.lo bL) ?_;refine O.op (.p rfl) (.aD e3 rfl)<|O.op (.p rfl) (.lo bL) ?_;refine O.op (.p rfl) (.kV rfl rfl)<|O.q 1 rfl ?_
 first|refine O.dx 10 rfl (fun h10=>?_) (fun h10=>?_)|refine O.c_ 10 rfl (fun h10=>?_) (fun h10=>?_)
 ·refine O.op (.g rfl rfl) (.aD vc rfl)<|O.op (.g rfl rfl) (.lo cv) ?_
  refine O.op (.g rfl rfl) (.aD vc rfl)<|O.op (.g rfl rfl) (.lo cv) ?_;refine O.op (.g rfl rfl) (.eql rfl rfl)<|O.q 2 rfl ?_
  first|refine O.dx 17 rfl (fun gx=>?_) (fun gx=>?_)|refine O.c_ 17 rfl (fun gx=>?_) (fun gx=>?_)
  ·refine O.op (.g rfl rfl) (.aD ve rfl)<|O.op (.g rfl rfl) (.lo cv) ?_
   refine O.op (.g rfl rfl) (.aD ve rfl)<|O.op (.g rfl rfl) (.lo cv) ?_;refine O.op (.g rfl rfl) (.eql rfl rfl)<|O.q 2 rfl ?_
   first|refine O.dx 24 rfl (fun gy=>?_) (fun gy=>?_)|refine O.c_ 24 rfl (fun gy=>?_) (fun gy=>?_)
   ·refine O.op (.g rfl rfl) (.aD fF rfl)<|O.op (.g rfl rfl) (.lo eS) ?_
    refine O.op (.g rfl rfl) (.aD fF rfl)<|O.op (.g rfl rfl) (.lo eS) ?_;refine O.aB (.g rfl rfl) rfl aa rfl rfl (VW (by first|assumption|exact aj.mono hg zE|exact aj.left zE|exact aj.left (aj.mono hg zE)) (by first|assumption|exact aj.mono hg zE|exact aj.left zE|exact aj.left (aj.mono hg zE))) ?_;rintro _ _ ⟨rfl,rfl⟩
    try simp only [an,aq,au]
    refine O.q 2 rfl ?_
    first|refine O.dx 31 rfl (fun fM=>?_) (fun fM=>?_)|refine O.c_ 31 rfl (fun fM=>?_) (fun fM=>?_)
    ·refine O.op (.g rfl rfl) (.aD vf rfl)<|O.op (.g rfl rfl) (.lo ji) ?_
     refine O.op (.g rfl rfl) (.aD vf rfl)<|O.op (.g rfl rfl) (.lo ji) ?_;refine O.op (.g rfl rfl) (.NS underlying4 rfl rfl)<|O.q 2 rfl ?_
     first|refine O.dx 38 rfl (fun th=>?_) (fun th=>?_)|refine O.c_ 38 rfl (fun th=>?_) (fun th=>?_)
     ·refine O.op (.g rfl rfl) (.aD gl rfl)<|O.op (.g rfl rfl) (.lo bc) ?_
      refine O.op (.g rfl rfl) (.aD gl rfl)<|O.op (.g rfl rfl) (.lo bc) ?_;refine O.aB (.g rfl rfl) rfl aa rfl rfl (wu (by first|assumption|exact aj.mono hg zE|exact aj.left zE|exact aj.left (aj.mono hg zE)) (by first|assumption|exact aj.mono hg zE|exact aj.left zE|exact aj.left (aj.mono hg zE))) ?_;rintro _ _ ⟨rfl,rfl⟩
      try simp only [an,aq,au]
      refine O.q 2 rfl ?_
      first|refine O.dx 45 rfl (fun CX=>?_) (fun CX=>?_)|refine O.c_ 45 rfl (fun CX=>?_) (fun CX=>?_)
      ·refine O.op (.g rfl rfl) (.aD iU rfl)<|O.op (.g rfl rfl) (.lo bc) ?_
       refine O.op (.g rfl rfl) (.aD iU rfl)<|O.op (.g rfl rfl) (.lo bc) ?_;refine O.aB (.g rfl rfl) rfl aa rfl rfl (wu (by first|assumption|exact aj.mono hg zE|exact aj.left zE|exact aj.left (aj.mono hg zE)) (by first|assumption|exact aj.mono hg zE|exact aj.left zE|exact aj.left (aj.mono hg zE))) ?_;rintro _ _ ⟨rfl,rfl⟩
       try simp only [an,aq,au]
       refine O.q 2 rfl<|O.nil<|S.ret results85 rfl fun w hw=>Holds.end_ hR hw ?_
       first|exact ⟨_,⟨congrArg _ (decide_eq_false (fun e=>by subst e;exact absurd rfl zE)).symm,rfl⟩,by repeat (first|exact aS|exact aU|(apply aT;focus (repeat (first|exact aR|apply zt)))|apply aV)⟩|exact ⟨_,⟨congrArg _ (decide_eq_decide.2 ⟨fun e=>uk (nR zE) zE zE zE zE zE e,fun e=>by rw [e]⟩),rfl⟩,by repeat (first|exact aS|exact aU|(apply aT;focus (repeat (first|exact aR|apply zt)))|apply aV)⟩
      ·refine O.q 7 rfl<|O.nil<|S.ret results85 rfl fun w hw=>Holds.end_ hR hw ?_
       first|exact ⟨_,⟨congrArg _ (decide_eq_false (fun e=>by subst e;exact absurd rfl zE)).symm,rfl⟩,by repeat (first|exact aS|exact aU|(apply aT;focus (repeat (first|exact aR|apply zt)))|apply aV)⟩|exact ⟨_,⟨congrArg _ (decide_eq_decide.2 ⟨fun e=>uk (nR zE) zE zE zE zE zE e,fun e=>by rw [e]⟩),rfl⟩,by repeat (first|exact aS|exact aU|(apply aT;focus (repeat (first|exact aR|apply zt)))|apply aV)⟩
     ·refine O.q 14 rfl<|O.nil<|S.ret results85 rfl fun w hw=>Holds.end_ hR hw ?_
      first|exact ⟨_,⟨congrArg _ (decide_eq_false (fun e=>by subst e;exact absurd rfl zE)).symm,rfl⟩,by repeat (first|exact aS|exact aU|(apply aT;focus (repeat (first|exact aR|apply zt)))|apply aV)⟩|exact ⟨_,⟨congrArg _ (decide_eq_decide.2 ⟨fun e=>uk (nR zE) zE zE zE zE zE e,fun e=>by rw [e]⟩),rfl⟩,by repeat (first|exact aS|exact aU|(apply aT;focus (repeat (first|exact aR|apply zt)))|apply aV)⟩
    ·refine O.q 21 rfl<|O.nil<|S.ret results85 rfl fun w hw=>Holds.end_ hR hw ?_
     first|exact ⟨_,⟨congrArg _ (decide_eq_false (fun e=>by subst e;exact absurd rfl zE)).symm,rfl⟩,by repeat (first|exact aS|exact aU|(apply aT;focus (repeat (first|exact aR|apply zt)))|apply aV)⟩|exact ⟨_,⟨congrArg _ (decide_eq_decide.2 ⟨fun e=>uk (nR zE) zE zE zE zE zE e,fun e=>by rw [e]⟩),rfl⟩,by repeat (first|exact aS|exact aU|(apply aT;focus (repeat (first|exact aR|apply zt)))|apply aV)⟩
   ·refine O.q 28 rfl<|O.nil<|S.ret results85 rfl fun w hw=>Holds.end_ hR hw ?_
    first|exact ⟨_,⟨congrArg _ (decide_eq_false (fun e=>by subst e;exact absurd rfl zE)).symm,rfl⟩,by repeat (first|exact aS|exact aU|(apply aT;focus (repeat (first|exact aR|apply zt)))|apply aV)⟩|exact ⟨_,⟨congrArg _ (decide_eq_decide.2 ⟨fun e=>uk (nR zE) zE zE zE zE zE e,fun e=>by rw [e]⟩),rfl⟩,by repeat (first|exact aS|exact aU|(apply aT;focus (repeat (first|exact aR|apply zt)))|apply aV)⟩
  ·refine O.q 35 rfl<|O.nil<|S.ret results85 rfl fun w hw=>Holds.end_ hR hw ?_
   first|exact ⟨_,⟨congrArg _ (decide_eq_false (fun e=>by subst e;exact absurd rfl zE)).symm,rfl⟩,by repeat (first|exact aS|exact aU|(apply aT;focus (repeat (first|exact aR|apply zt)))|apply aV)⟩|exact ⟨_,⟨congrArg _ (decide_eq_decide.2 ⟨fun e=>uk (nR zE) zE zE zE zE zE e,fun e=>by rw [e]⟩),rfl⟩,by repeat (first|exact aS|exact aU|(apply aT;focus (repeat (first|exact aR|apply zt)))|apply aV)⟩
 ·refine O.q 42 rfl<|O.nil<|S.ret results85 rfl fun w hw=>Holds.end_ hR hw ?_
  first|exact ⟨_,⟨congrArg _ (decide_eq_false (fun e=>by subst e;exact absurd rfl zE)).symm,rfl⟩,by repeat (first|exact aS|exact aU|(apply aT;focus (repeat (first|exact aR|apply zt)))|apply aV)⟩|exact ⟨_,⟨congrArg _ (decide_eq_decide.2 ⟨fun e=>uk (nR zE) zE zE zE zE zE e,fun e=>by rw [e]⟩),rfl⟩,by repeat (first|exact aS|exact aU|(apply aT;focus (repeat (first|exact aR|apply zt)))|apply aV)⟩
theorem VY {r:Fr} {va je:Value} {xs ys:List aP} (ha:aj cq r va xs) (hb:aj cq r je ys) :
  ay prog 38 #[va,je] r [] (aL fun v U=>v=.bool (decide (xs=ys))∧U=[]):=by
 have har:=ha;have rT:=hb;refine ay.of (n:=27) _ rfl func38 rfl rfl rfl fun g hg R hR=>?_;have ha:=ha.mono hg;have hb:=hb.mono hg;have hbd:=ha.bound;obtain ⟨a1,c1,rfl⟩:=ha.shape;obtain ⟨a2,c2,rfl⟩:=hb.shape
 by_cases e0:xs.length=ys.length
 ·
  refine S.seq<|S.region rfl<|O.q 1 rfl<|O.nil<|S.seq<|S.seq<|S.region rfl<|O.q 1 rfl<|O.op (.p rfl) (.len rfl underlying22 rfl)<|O.q 1 rfl<|O.op (.p rfl) (.len rfl underlying22 rfl)<|O.op (.p rfl) (.neq rfl rfl)<|O.aN 10 rfl (by exact decide_eq_false ah) ?_;refine O.nil<|S.aQ rfl<|S.skip<|S.seq<|S.seq<|S.region rfl<|O.q 1 rfl<|O.nil<|S.block<|S.e6 (ι:=Nat) (fun i=>i≤xs.length∧xs.take i=ys.take i) (fun i=>[(5,.int .i64 (i:Int))]) [(0,_),(1,_)] (fun i=>[]) (fun i=>xs.length - i) (0) bI (.cons rfl (.nil)) (.cons rfl (.cons rfl (.nil))) rfl fun i hx ih=>?_;have aX:=cL (g:=g);obtain ⟨hx1,hx2⟩:=hx;refine S.seq<|S.seq<|S.region rfl<|O.q 2 rfl<|O.op (.p rfl) (.len rfl underlying22 rfl)<|O.op (.p rfl) (.lss rfl rfl)<|O.nil ?_
  first|refine S.cc rfl (fun e9=>?_) (fun e9=>?_)|refine S.b7 rfl (fun e9=>?_) (fun e9=>?_)
  ·have hi:i<xs.length:=by omega
   have hi2:i<ys.length:=by omega
   by_cases e:xs[i]=ys[i]
   ·
    refine S.skip<|S.seq<|S.block<|S.seq<|S.bB (L:=[0,1,2,3,4,5,6,7,8,9]) bA aa<|af.q 2 rfl<|af.ib (.p rfl) underlying22 nQ rfl rfl rfl har hg (h:=fun sr sZ ki pF=>?_);have gq:=ag.rel.mono pF hg;obtain ⟨UG,UK,UO,UT,UY,U2,rfl,DL,PR,PV,OH,OQ,OU⟩:=cq.sh gq;refine .quiet (.p rfl) rfl (fun _=>.bz isAgg102 aa rfl ki) ?_;refine af.q 2 rfl<|af.ib (.p rfl) underlying22 nQ rfl rfl rfl rT hg (h:=fun vS u9 nH pG=>?_);have k4:=ag.rel.mono pG hg;obtain ⟨UH,UL,UP,UU,UZ,U3,rfl,DM,PS,PW,OI,OR,OV⟩:=cq.sh k4;refine .quiet (.p rfl) rfl (fun _=>.bz isAgg102 aa rfl nH) ?_;refine af.aB (.p rfl) aa rfl aa rfl rfl ((A5 gq k4)) ?_;rintro _ _ ⟨rfl,rfl⟩
    try simp only [an,aq,au]
    refine af.sT 25 rfl (by exact decide_eq_true e) ?_;refine .quiet (.p rfl) rfl (fun _=>.not rfl)<|aI.nil<|S.aQ rfl<|S.skip<|S.inBlock<|S.region rfl<|O.q 1 rfl<|O.op (.p rfl) (.add rfl rfl (IntWalk.i64_in _ ah))<|O.q 1 rfl<|O.nil ?_;exact S.dz (ih (i+1) (by exact ⟨by omega,FN hi hi2 hx2 e⟩) ah)
   ·
    refine S.skip<|S.seq<|S.block<|S.seq<|S.bB (L:=[0,1,2,3,4,5,6,7,8,9]) bA aa<|af.q 2 rfl<|af.ib (.p rfl) underlying22 nQ rfl rfl rfl har hg (h:=fun sr sZ ki pF=>?_);have gq:=ag.rel.mono pF hg;obtain ⟨UG,UK,UO,UT,UY,U2,rfl,DL,PR,PV,OH,OQ,OU⟩:=cq.sh gq;refine .quiet (.p rfl) rfl (fun _=>.bz isAgg102 aa rfl ki) ?_;refine af.q 2 rfl<|af.ib (.p rfl) underlying22 nQ rfl rfl rfl rT hg (h:=fun vS u9 nH pG=>?_);have k4:=ag.rel.mono pG hg;obtain ⟨UH,UL,UP,UU,UZ,U3,rfl,DM,PS,PW,OI,OR,OV⟩:=cq.sh k4;refine .quiet (.p rfl) rfl (fun _=>.bz isAgg102 aa rfl nH) ?_;refine af.aB (.p rfl) aa rfl aa rfl rfl ((A5 gq k4)) ?_;rintro _ _ ⟨rfl,rfl⟩
    try simp only [an,aq,au]
    refine af.aN 25 rfl (by exact decide_eq_false e) ?_;refine .quiet (.p rfl) rfl (fun _=>.not rfl)<|aI.nil<|S.bx rfl<|S.seq<|S.region rfl<|O.q 1 rfl<|O.nil ?_;exact S.rt results38 rfl hR ⟨congrArg _ (decide_eq_false (EX hi hi2 e)).symm,rfl⟩
  ·have hi:i=xs.length:=by omega
   clear ih;subst hi;rw [List.take_length,e0,List.take_length] at hx2;refine S.exit rfl<|S.seq<|S.region rfl<|O.q 1 rfl<|O.nil ?_;exact S.rt results38 rfl hR ⟨by simp [hx2],rfl⟩
 ·
  refine S.seq<|S.region rfl<|O.q 1 rfl<|O.nil<|S.seq<|S.seq<|S.region rfl<|O.q 1 rfl<|O.op (.p rfl) (.len rfl underlying22 rfl)<|O.q 1 rfl<|O.op (.p rfl) (.len rfl underlying22 rfl)<|O.op (.p rfl) (.neq rfl rfl)<|O.sT 10 rfl (by exact decide_eq_true ah) ?_;refine O.nil<|S.bx rfl<|S.seq<|S.region rfl<|O.q 1 rfl<|O.nil ?_;exact S.rt results38 rfl hR ⟨congrArg _ (decide_eq_false (fun h=>e0 (by rw [h]))).symm,rfl⟩
theorem KQ {x y:aG} (h0:x.1=y.1) (h1:x.2.1=y.2.1):x=y:=by
 obtain ⟨a0,a1,⟨⟩⟩:=x;obtain ⟨b0,b1,⟨⟩⟩:=y
 simp_all
theorem KP {r:Fr} {cs ds:List Value} {x y:aG} (hx:bW.rel r cs x) (hy:bW.rel r ds y) :
  ay prog 100 #[.agg cs.toArray,.agg ds.toArray] r [] (aL fun v U=>v=.bool (decide (x=y))∧U=[]):=by
 obtain ⟨sH,sJ,rfl,XG,wh⟩:=bW.sh hx;obtain ⟨XK,XL,rfl,XO,wi⟩:=bW.sh hy;refine ay.of (n:=17) _ rfl func100 rfl rfl rfl fun g hg R hR=>?_;have wh:=wh.mono hg;have wi:=wi.mono hg;refine S.seq<|S.region rfl<|O.aM (.p rfl) (.box (cs:=[_,_]) rfl rfl) ?_;rintro _ _ ⟨b2,rfl,rfl⟩;refine O.aM (.p rfl) (.box (cs:=[_,_]) rfl rfl) ?_;rintro _ _ ⟨b3,rfl,rfl⟩;refine O.q 1 rfl<|O.nil<|S.seq<|S.region rfl<|O.op (.p rfl) (.aD eA rfl)<|O.op (.p rfl) (.lo bL) ?_;refine O.op (.p rfl) (.aD eA rfl)<|O.op (.p rfl) (.lo bL) ?_;refine O.op (.p rfl) (.kV rfl rfl)<|O.q 1 rfl ?_
 first|refine O.dx 10 rfl (fun h10=>?_) (fun h10=>?_)|refine O.c_ 10 rfl (fun h10=>?_) (fun h10=>?_)
 ·refine O.op (.g rfl rfl) (.aD fG rfl)<|O.op (.g rfl rfl) (.lo ew) ?_
  refine O.op (.g rfl rfl) (.aD fG rfl)<|O.op (.g rfl rfl) (.lo ew) ?_;refine O.aB (.g rfl rfl) rfl aa rfl rfl (VY (by first|assumption|exact aj.mono hg zE|exact aj.left zE|exact aj.left (aj.mono hg zE)) (by first|assumption|exact aj.mono hg zE|exact aj.left zE|exact aj.left (aj.mono hg zE))) ?_;rintro _ _ ⟨rfl,rfl⟩
  try simp only [an,aq,au]
  refine O.q 2 rfl<|O.nil<|S.ret results100 rfl fun w hw=>Holds.end_ hR hw ?_
  first|exact ⟨_,⟨congrArg _ (decide_eq_false (fun e=>by subst e;exact absurd rfl zE)).symm,rfl⟩,by repeat (first|exact aS|exact aU|(apply aT;focus (repeat (first|exact aR|apply zt)))|apply aV)⟩|exact ⟨_,⟨congrArg _ (decide_eq_decide.2 ⟨fun e=>KQ (nR zE) e,fun e=>by rw [e]⟩),rfl⟩,by repeat (first|exact aS|exact aU|(apply aT;focus (repeat (first|exact aR|apply zt)))|apply aV)⟩
 ·refine O.q 7 rfl<|O.nil<|S.ret results100 rfl fun w hw=>Holds.end_ hR hw ?_
  first|exact ⟨_,⟨congrArg _ (decide_eq_false (fun e=>by subst e;exact absurd rfl zE)).symm,rfl⟩,by repeat (first|exact aS|exact aU|(apply aT;focus (repeat (first|exact aR|apply zt)))|apply aV)⟩|exact ⟨_,⟨congrArg _ (decide_eq_decide.2 ⟨fun e=>KQ (nR zE) e,fun e=>by rw [e]⟩),rfl⟩,by repeat (first|exact aS|exact aU|(apply aT;focus (repeat (first|exact aR|apply zt)))|apply aV)⟩
theorem VX {r:Fr} {va je:Value} {xs ys:List aG} (ha:aj bW r va xs) (hb:aj bW r je ys) :
  ay prog 36 #[va,je] r [] (aL fun v U=>v=.bool (decide (xs=ys))∧U=[]):=by
 have har:=ha;have rT:=hb;refine ay.of (n:=27) _ rfl func36 rfl rfl rfl fun g hg R hR=>?_;have ha:=ha.mono hg;have hb:=hb.mono hg;have hbd:=ha.bound;obtain ⟨a1,c1,rfl⟩:=ha.shape;obtain ⟨a2,c2,rfl⟩:=hb.shape
 by_cases e0:xs.length=ys.length
 ·
  refine S.seq<|S.region rfl<|O.q 1 rfl<|O.nil<|S.seq<|S.seq<|S.region rfl<|O.q 1 rfl<|O.op (.p rfl) (.len rfl underlying25 rfl)<|O.q 1 rfl<|O.op (.p rfl) (.len rfl underlying25 rfl)<|O.op (.p rfl) (.neq rfl rfl)<|O.aN 10 rfl (by exact decide_eq_false ah) ?_;refine O.nil<|S.aQ rfl<|S.skip<|S.seq<|S.seq<|S.region rfl<|O.q 1 rfl<|O.nil<|S.block<|S.e6 (ι:=Nat) (fun i=>i≤xs.length∧xs.take i=ys.take i) (fun i=>[(5,.int .i64 (i:Int))]) [(0,_),(1,_)] (fun i=>[]) (fun i=>xs.length - i) (0) bI (.cons rfl (.nil)) (.cons rfl (.cons rfl (.nil))) rfl fun i hx ih=>?_;have aX:=cL (g:=g);obtain ⟨hx1,hx2⟩:=hx;refine S.seq<|S.seq<|S.region rfl<|O.q 2 rfl<|O.op (.p rfl) (.len rfl underlying25 rfl)<|O.op (.p rfl) (.lss rfl rfl)<|O.nil ?_
  first|refine S.cc rfl (fun e9=>?_) (fun e9=>?_)|refine S.b7 rfl (fun e9=>?_) (fun e9=>?_)
  ·have hi:i<xs.length:=by omega
   have hi2:i<ys.length:=by omega
   by_cases e:xs[i]=ys[i]
   ·
    refine S.skip<|S.seq<|S.block<|S.seq<|S.bB (L:=[0,1,2,3,4,5,6,7,8,9]) bA aa<|af.q 2 rfl<|af.ib (.p rfl) underlying25 di rfl rfl rfl har hg (h:=fun sr sZ ki pF=>?_);have gq:=ag.rel.mono pF hg;obtain ⟨SI,SM,rfl,DL,OC⟩:=bW.sh gq;refine .quiet (.p rfl) rfl (fun _=>.bz isAgg31 aa rfl ki) ?_;refine af.q 2 rfl<|af.ib (.p rfl) underlying25 di rfl rfl rfl rT hg (h:=fun vS u9 nH pG=>?_);have k4:=ag.rel.mono pG hg;obtain ⟨SJ,SN,rfl,DM,OD⟩:=bW.sh k4;refine .quiet (.p rfl) rfl (fun _=>.bz isAgg31 aa rfl nH) ?_;refine af.aB (.p rfl) aa rfl aa rfl rfl ((KP gq k4)) ?_;rintro _ _ ⟨rfl,rfl⟩
    try simp only [an,aq,au]
    refine af.sT 25 rfl (by exact decide_eq_true e) ?_;refine .quiet (.p rfl) rfl (fun _=>.not rfl)<|aI.nil<|S.aQ rfl<|S.skip<|S.inBlock<|S.region rfl<|O.q 1 rfl<|O.op (.p rfl) (.add rfl rfl (IntWalk.i64_in _ ah))<|O.q 1 rfl<|O.nil ?_;exact S.dz (ih (i+1) (by exact ⟨by omega,FN hi hi2 hx2 e⟩) ah)
   ·
    refine S.skip<|S.seq<|S.block<|S.seq<|S.bB (L:=[0,1,2,3,4,5,6,7,8,9]) bA aa<|af.q 2 rfl<|af.ib (.p rfl) underlying25 di rfl rfl rfl har hg (h:=fun sr sZ ki pF=>?_);have gq:=ag.rel.mono pF hg;obtain ⟨SI,SM,rfl,DL,OC⟩:=bW.sh gq;refine .quiet (.p rfl) rfl (fun _=>.bz isAgg31 aa rfl ki) ?_;refine af.q 2 rfl<|af.ib (.p rfl) underlying25 di rfl rfl rfl rT hg (h:=fun vS u9 nH pG=>?_);have k4:=ag.rel.mono pG hg;obtain ⟨SJ,SN,rfl,DM,OD⟩:=bW.sh k4;refine .quiet (.p rfl) rfl (fun _=>.bz isAgg31 aa rfl nH) ?_;refine af.aB (.p rfl) aa rfl aa rfl rfl ((KP gq k4)) ?_;rintro _ _ ⟨rfl,rfl⟩
    try simp only [an,aq,au]
    refine af.aN 25 rfl (by exact decide_eq_false e) ?_;refine .quiet (.p rfl) rfl (fun _=>.not rfl)<|aI.nil<|S.bx rfl<|S.seq<|S.region rfl<|O.q 1 rfl<|O.nil ?_;exact S.rt results36 rfl hR ⟨congrArg _ (decide_eq_false (EX hi hi2 e)).symm,rfl⟩
  ·have hi:i=xs.length:=by omega
   clear ih;subst hi;rw [List.take_length,e0,List.take_length] at hx2;refine S.exit rfl<|S.seq<|S.region rfl<|O.q 1 rfl<|O.nil ?_;exact S.rt results36 rfl hR ⟨by simp [hx2],rfl⟩
 ·
  refine S.seq<|S.region rfl<|O.q 1 rfl<|O.nil<|S.seq<|S.seq<|S.region rfl<|O.q 1 rfl<|O.op (.p rfl) (.len rfl underlying25 rfl)<|O.q 1 rfl<|O.op (.p rfl) (.len rfl underlying25 rfl)<|O.op (.p rfl) (.neq rfl rfl)<|O.sT 10 rfl (by exact decide_eq_true ah) ?_;refine O.nil<|S.bx rfl<|S.seq<|S.region rfl<|O.q 1 rfl<|O.nil ?_;exact S.rt results36 rfl hR ⟨congrArg _ (decide_eq_false (fun h=>e0 (by rw [h]))).symm,rfl⟩
theorem Bd {x y:UInt8} (h:(x.toNat:Int)=(y.toNat:Int)):x=y:=UInt8.toNat_inj.1 ah
theorem A4 {x y:dJ} (h0:x.1=y.1) (h1:x.2.1=y.2.1) (h2:x.2.2.1=y.2.2.1) (h3:x.2.2.2.1=y.2.2.2.1):x=y:=by
 obtain ⟨a0,a1,a2,a3,⟨⟩⟩:=x;obtain ⟨b0,b1,b2,b3,⟨⟩⟩:=y
 simp_all
theorem KR {r:Fr} {cs ds:List Value} {x y:dJ} (hx:gv.rel r cs x) (hy:gv.rel r ds y) :
  ay prog 35 #[.agg cs.toArray,.agg ds.toArray] r [] (aL fun v U=>v=.bool (decide (x=y))∧U=[]):=by
 obtain ⟨sH,uA,gI,sJ,uB,gJ,rfl,wh,F2,yH⟩:=gv.sh hx;obtain ⟨XK,aaP,sM,XL,aaQ,sN,rfl,wi,F4,yI⟩:=gv.sh hy;refine ay.of (n:=31) _ rfl func35 rfl rfl rfl fun g hg R hR=>?_;have wh:=wh.mono hg;have F2:=F2.mono hg;have yH:=yH.mono hg;have wi:=wi.mono hg;have F4:=F4.mono hg;have yI:=yI.mono hg;refine S.seq<|S.region rfl<|O.aM (.p rfl) (.box (cs:=[_,_,_,_]) rfl rfl) ?_;rintro _ _ ⟨b2,rfl,rfl⟩;refine O.aM (.p rfl) (.box (cs:=[_,_,_,_]) rfl rfl) ?_;rintro _ _ ⟨b3,rfl,rfl⟩;refine O.q 1 rfl<|O.nil<|S.seq<|S.region rfl<|O.op (.p rfl) (.aD ez rfl)<|O.op (.p rfl) (.lo ey) ?_;refine O.op (.p rfl) (.aD ez rfl)<|O.op (.p rfl) (.lo ey) ?_;refine O.op (.p rfl) (.eql rfl rfl)<|O.q 1 rfl ?_
 first|refine O.dx 10 rfl (fun h10=>?_) (fun h10=>?_)|refine O.c_ 10 rfl (fun h10=>?_) (fun h10=>?_)
 ·refine O.op (.g rfl rfl) (.aD lX rfl)<|O.op (.g rfl rfl) (.lo bc) ?_
  refine O.op (.g rfl rfl) (.aD lX rfl)<|O.op (.g rfl rfl) (.lo bc) ?_;refine O.aB (.g rfl rfl) rfl aa rfl rfl (wu (by first|assumption|exact aj.mono hg zE|exact aj.left zE|exact aj.left (aj.mono hg zE)) (by first|assumption|exact aj.mono hg zE|exact aj.left zE|exact aj.left (aj.mono hg zE))) ?_;rintro _ _ ⟨rfl,rfl⟩
  try simp only [an,aq,au]
  refine O.q 2 rfl ?_
  first|refine O.dx 17 rfl (fun gx=>?_) (fun gx=>?_)|refine O.c_ 17 rfl (fun gx=>?_) (fun gx=>?_)
  ·refine O.op (.g rfl rfl) (.aD lY rfl)<|O.op (.g rfl rfl) (.lo bc) ?_
   refine O.op (.g rfl rfl) (.aD lY rfl)<|O.op (.g rfl rfl) (.lo bc) ?_;refine O.aB (.g rfl rfl) rfl aa rfl rfl (wu (by first|assumption|exact aj.mono hg zE|exact aj.left zE|exact aj.left (aj.mono hg zE)) (by first|assumption|exact aj.mono hg zE|exact aj.left zE|exact aj.left (aj.mono hg zE))) ?_;rintro _ _ ⟨rfl,rfl⟩
   try simp only [an,aq,au]
   refine O.q 2 rfl ?_
   first|refine O.dx 24 rfl (fun gy=>?_) (fun gy=>?_)|refine O.c_ 24 rfl (fun gy=>?_) (fun gy=>?_)
   ·refine O.op (.g rfl rfl) (.aD lZ rfl)<|O.op (.g rfl rfl) (.lo dK) ?_
    refine O.op (.g rfl rfl) (.aD lZ rfl)<|O.op (.g rfl rfl) (.lo dK) ?_;refine O.aB (.g rfl rfl) rfl aa rfl rfl (VX (by first|assumption|exact aj.mono hg zE|exact aj.left zE|exact aj.left (aj.mono hg zE)) (by first|assumption|exact aj.mono hg zE|exact aj.left zE|exact aj.left (aj.mono hg zE))) ?_;rintro _ _ ⟨rfl,rfl⟩
    try simp only [an,aq,au]
    refine O.q 2 rfl<|O.nil<|S.ret results35 rfl fun w hw=>Holds.end_ hR hw ?_
    first|exact ⟨_,⟨congrArg _ (decide_eq_false (fun e=>by subst e;exact absurd rfl zE)).symm,rfl⟩,by repeat (first|exact aS|exact aU|(apply aT;focus (repeat (first|exact aR|apply zt)))|apply aV)⟩|exact ⟨_,⟨congrArg _ (decide_eq_decide.2 ⟨fun e=>A4 (x:=x) (y:=y) (Bd zE) zE zE e,fun e=>by rw [e]⟩),rfl⟩,by repeat (first|exact aS|exact aU|(apply aT;focus (repeat (first|exact aR|apply zt)))|apply aV)⟩
   ·refine O.q 7 rfl<|O.nil<|S.ret results35 rfl fun w hw=>Holds.end_ hR hw ?_
    first|exact ⟨_,⟨congrArg _ (decide_eq_false (fun e=>by subst e;exact absurd rfl zE)).symm,rfl⟩,by repeat (first|exact aS|exact aU|(apply aT;focus (repeat (first|exact aR|apply zt)))|apply aV)⟩|exact ⟨_,⟨congrArg _ (decide_eq_decide.2 ⟨fun e=>A4 (x:=x) (y:=y) (Bd zE) zE zE e,fun e=>by rw [e]⟩),rfl⟩,by repeat (first|exact aS|exact aU|(apply aT;focus (repeat (first|exact aR|apply zt)))|apply aV)⟩
  ·refine O.q 14 rfl<|O.nil<|S.ret results35 rfl fun w hw=>Holds.end_ hR hw ?_
   first|exact ⟨_,⟨congrArg _ (decide_eq_false (fun e=>by subst e;exact absurd rfl zE)).symm,rfl⟩,by repeat (first|exact aS|exact aU|(apply aT;focus (repeat (first|exact aR|apply zt)))|apply aV)⟩|exact ⟨_,⟨congrArg _ (decide_eq_decide.2 ⟨fun e=>A4 (x:=x) (y:=y) (Bd zE) zE zE e,fun e=>by rw [e]⟩),rfl⟩,by repeat (first|exact aS|exact aU|(apply aT;focus (repeat (first|exact aR|apply zt)))|apply aV)⟩
 ·refine O.q 21 rfl<|O.nil<|S.ret results35 rfl fun w hw=>Holds.end_ hR hw ?_
  first|exact ⟨_,⟨congrArg _ (decide_eq_false (fun e=>by subst e;exact absurd rfl zE)).symm,rfl⟩,by repeat (first|exact aS|exact aU|(apply aT;focus (repeat (first|exact aR|apply zt)))|apply aV)⟩|exact ⟨_,⟨congrArg _ (decide_eq_decide.2 ⟨fun e=>A4 (x:=x) (y:=y) (Bd zE) zE zE e,fun e=>by rw [e]⟩),rfl⟩,by repeat (first|exact aS|exact aU|(apply aT;focus (repeat (first|exact aR|apply zt)))|apply aV)⟩
def pick (x n:Int):Int:=if n<1 then 0 else if x.tmod n<0 then x.tmod n+n else x.tmod n
theorem LZ {r:Fr} (x n:Int) (hn:cG n):ay prog 28 #[.int .i64 x,.int .i64 n] r [] (aL fun v U=>v=.int .i64 (pick x n)∧U=[]):=by
 refine ay.of (n:=16) _ rfl func28 rfl rfl rfl fun g hg R hR=>?_;unfold cG at hn;refine S.seq<|S.region rfl<|O.q 1 rfl<|O.nil<|S.seq<|S.seq<|S.region rfl<|O.q 1 rfl<|O.op (.p rfl) (.lss rfl rfl)<|O.nil ?_
 first|refine S.cc rfl (fun h6=>?_) (fun h6=>?_)|refine S.b7 rfl (fun h6=>?_) (fun h6=>?_)
 ·refine S.seq<|S.region rfl<|O.q 1 rfl<|O.nil<|S.ret results28 rfl fun w hw=>hR _ _ w ?_ hw
  exact ⟨by simp [pick,h6],rfl⟩
 ·have b1:=Int.tmod_lt_of_pos x (show 0<n by omega)
  have b2:=Int.lt_tmod_of_pos x (show 0<n by omega);refine S.skip<|S.seq<|S.region rfl<|O.q 2 rfl<|O.op (.p rfl) (.rem rfl rfl ah)<|O.q 1 rfl<|O.nil<|S.seq<|S.seq<|S.region rfl<|O.q 1 rfl<|O.op (.p rfl) (.lss rfl rfl)<|O.nil ?_
  first|refine S.cc rfl (fun h11=>?_) (fun h11=>?_)|refine S.b7 rfl (fun h11=>?_) (fun h11=>?_)
  ·refine S.region rfl<|O.q 2 rfl<|O.op (.p rfl) (.add rfl rfl (IntWalk.i64_in _ ah))<|O.q 1 rfl<|O.nil<|S.seq<|S.region rfl<|O.q 2 rfl<|O.nil<|S.ret results28 rfl fun w hw=>hR _ _ w ?_ hw
   exact ⟨by simp [pick,h6,h11],rfl⟩
  ·refine S.skip<|S.seq<|S.region rfl<|O.q 2 rfl<|O.nil<|S.ret results28 rfl fun w hw=>hR _ _ w ?_ hw
   exact ⟨by simp [pick,h6,h11],rfl⟩
attribute [local irreducible] fQ
theorem Ub (x:Int) {n:Nat} (hn:0<n):∃ k:Nat,pick x n=(k:Int)∧k<n:=by
 have b1:=Int.tmod_lt_of_pos x (show 0<(n:Int) by omega);have b2:=Int.lt_tmod_of_pos x (show 0<(n:Int) by omega);have b3:0≤pick x n∧pick x n<n:=by
  unfold pick
  split
  ·omega
  ·split<;>omega
 exact ⟨(pick x n).toNat,by omega,by omega⟩
theorem S6 {α:Type} {G:bN α} {e:TypeId} {v:Value} {xs:List α} {m:Fr} (h:Sat [cH G e v xs] m):aj G.jd m v xs:=by
 obtain ⟨m1,_,_,s1,_,o,_⟩:=h;exact (cH.arr o).mono s1
theorem Lj (L:List aG) (p:List UInt8):(bw L p).2.2.2.1=[]∨(bw L p).2.2.2.1=dO p L:=by
 unfold bw;exact JU _ _ _
theorem WS (L:List aG) {p:List UInt8} (hp:p.length≤510):((bw L p).1=3→p.length<510)∧((bw L p).1=4→p.length=510):=by
 rcases Nat.lt_or_ge (dO p L).length 2 with q|q
 ·match e:dO p L with
  |[]=>rw [FP e];exact ⟨fun h=>absurd (show (1:UInt8)=3 from h) aC,fun h=>absurd (show (1:UInt8)=4 from h) aC⟩
  |[x]=>rw [FQ e];exact ⟨fun h=>absurd (show (2:UInt8)=3 from h) aC,fun h=>absurd (show (2:UInt8)=4 from h) aC⟩
  |x::y::l=>rw [e] at q;simp at q;omega
 ·rcases Nat.lt_or_ge p.length 510 with u|u
  ·rw [FT q u];exact ⟨fun _=>u,fun h=>absurd (show (3:UInt8)=4 from h) aC⟩
  ·have u:p.length=510:=by omega
   rw [Ll q u];exact ⟨fun h=>absurd (show (4:UInt8)=3 from h) aC,fun _=>u⟩
theorem WV {L:List aG} {p:List UInt8} (hp:p.length≤510) (h3:(bw L p).1=3):bZ L (p++[48])=(bw L p).2.1∧bZ L (p++[49])=(bw L p).2.2.1:=by
 have hl:=(WS L hp).1 h3
 rcases Nat.lt_or_ge (dO p L).length 2 with q|q
 ·match e:dO p L with
  |[]=>rw [FP e] at h3;exact absurd (show (1:UInt8)=3 from h3) aC
  |[x]=>rw [FQ e] at h3;exact absurd (show (2:UInt8)=3 from h3) aC
  |x::y::l=>rw [e] at q;simp at q;omega
 ·rw [FT q hl];exact ⟨rfl,rfl⟩
theorem WG (L:List aG):uv L []=bZ L []:=by unfold uv;rw [if_pos ⟨by simp,fun c hc=>by cases hc⟩]
theorem WY {L:List aG} (h1:L.length≤1000) (h2:∀ y∈L,y.2.1.length≤1000) (p:List UInt8):(bw L p).2.2.2.1.length≤100000∧∀ y∈(bw L p).2.2.2.1,y.2.1.length≤100000:=by
 rcases Lj L p with q|q
 ·rw [q];exact ⟨Nat.zero_le _,fun y hy=>by cases hy⟩
 ·rw [q]
  have:=(yC p L).length_le;exact ⟨by omega,fun y hy=>by have:=h2 y ((List.mem_filter.1 hy).1);omega⟩
theorem Fg (s:Nat) (l:List aG):iv s (if jt s l=0 then fQ [] l else []):=by
 split
 ·rename_i q;exact iv.Fh (iv.nil s) (Fe.1 q)
 ·exact iv.nil s
theorem Ff (s:Nat) {l:List aG} (h1:l.length≤20) (h2:∀ y∈l,y.2.1.length≤60):(if jt s l=0 then fQ [] l else []).length≤20∧∀ y∈(if jt s l=0 then fQ [] l else []),y.2.1.length≤60:=by
 have:=Fi l [];rw [List.length_nil] at this
 split
 ·exact ⟨by omega,Ki l [] (fun _ h=>by cases h) h2⟩
 ·exact ⟨by simp,fun _ h=>by cases h⟩
theorem wG {L:List aG} (h:L.length≤20∧∀ y∈L,y.2.1.length≤60):L.length≤10000000∧∀ y∈L,y.2.1.length≤10000000:=⟨by omega,fun y hy=>by have:=h.2 y hy;omega⟩
theorem Vv {p:Int} {s:Nat} {t:List UInt8} (hp:1≤p∧p≤7) (hs:s<4) (ht:t.length=64):oE ((p,(s:Int),1,t,List.replicate 64 0,()):j5)=true :=
 AX.2 ⟨AY.2 ⟨hp.1,hp.2,by show (0:Int)≤s;omega,by show (s:Int)<4;omega,(by decide:(1:Int)≤1),(by decide:(1:Int)≤1073741824),ht⟩,List.length_replicate ..⟩
theorem Mf (L:List aG) (F:List UInt8→List UInt8) (p:List UInt8):dh L F [p]=[]∨dh L F [p]=[p]:=by
 unfold dh;rw [List.filter_cons];split
 ·exact .inr rfl
 ·exact .inl rfl
theorem WI (L:List aG):jX L []=bZ L []:=WG L
theorem YB (xs:List UInt8):[xs].flatten=xs:=by simp
end Go.Proofs.YtojafegjlahajaaGreatDoor
