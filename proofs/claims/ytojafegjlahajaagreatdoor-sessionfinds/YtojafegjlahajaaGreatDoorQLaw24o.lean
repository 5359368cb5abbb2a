/- Texts of this proof. -/
import Derived.Test.YtojafegjlahajaaGreatDoorQPut3
import Derived.Test.YtojafegjlahajaaGreatDoorQSes8
open Go Go.Sp Go.Proofs.Tryz
set_option maxRecDepth 100000
set_option maxHeartbeats 1000000
attribute [local irreducible] obj Own av
namespace Go.Proofs.YtojafegjlahajaaGreatDoor
attribute [local irreducible] bN bw
theorem Xx {d:Fr} {b s:Nat} {L:List aD} {m:Fr} (h:Sat [aY aF d b s L] m):fh aF d b s L L m:=by
 obtain ⟨m1,_,_,s1,_,o,_⟩:=h;obtain ⟨x,hx⟩:=aY.z o;exact ⟨x,Sat.mono s1 hx⟩
theorem AW {s:Nat}:∀ {l:List aD} {i:Nat} (hi:i<l.length),(∀ x∈l.take i,uq s x)→mT s l[i]≠0→jy s l=mT s l[i]
 |x::l,0,_,_,ne=>by unfold jy;rw [if_neg (by simpa using ne)];rfl
 |x::l,i+1,hi,h,ne=>by
  have h0:mT s x=0:=FB.2 (h x bL);have:jy s (x::l)=jy s l:=by
   show (if mT s x=0 then jy s l else mT s x)=jy s l
   rw [if_pos h0]
  rw [this];exact AW (l:=l) (i:=i) (by simpa using hi) (fun y hy=>h y (by simp [hy])) (by simpa using ne)
theorem LO {α:Type} {P:α→Prop} {l:List α} {i:Nat} (hi:i<l.length) (h:∀ x∈l.take i,P x) (hp:P l[i]):∀ x∈l.take (i+1),P x:=fun x hx=>by
 rw [List.take_succ_eq_append_getElem hi] at hx
 rcases List.mem_append.1 hx with q|q
 ·exact h x q
 ·rw [List.mem_singleton.1 q];exact hp
theorem FE:∀ (l L:List aD),(fN L l).length≤L.length+l.length
 |[],L=>Nat.le_refl _
 |x::l,L=>by
  have h1:=FE l (gK L x);have h2:=U1 L x;have e:fN L (x::l)=fN (gK L x) l:=rfl;rw [e,List.length_cons];omega
theorem KO {N:Nat}:∀ (l L:List aD),(∀ z∈L,z.2.1.length≤N)→(∀ z∈l,z.2.1.length≤N)→∀ z∈fN L l,z.2.1.length≤N
 |[],_,h,_=>h
 |x::l,L,h,hl=>KO l (gK L x) (U2 h (hl x bL)) fun z hz=>hl z (by simp [hz])
theorem KJ {s:Nat} {x:aD} (h:¬ (mQ x.1∧pQ x.1=s)):mT s x=22:=by unfold mT;rw [if_pos h]
theorem U0 {s:Nat} {x:aD} (h:mQ x.1∧pQ x.1=s) (k:¬ nQ x.1 x.2.1):mT s x=4:=by unfold mT;rw [if_neg (by simp [h]),if_pos k]
set_option maxHeartbeats 800000 in
theorem LN {r d:Fr} {b s:Nat} {L l:List aD} {va:Value} (hT:fR r d s L) (ha:aj bP r va l) (hl:L.length+l.length≤10000000) (tY:∀ y∈l,y.2.1.length≤10000000) :
  ay prog 30 #[.pointer (some ⟨b,0,none⟩),va] r [aY aF d b s L] (aL fun u U=>u=.int .i64 (jy s l)∧U=[aY aF d b s (if jy s l=0 then fN L l else L)]):=by
 obtain ⟨a1,c1,rfl⟩:=ha.shape;refine ay.of (n:=79) _ rfl func30 rfl rfl rfl fun g hg R hR=>?_;have hT:=hT.mono hg;have ha:=ha.mono hg;refine S.seq<|S.region rfl<|O.q 1 rfl<|O.nil<|S.seq<|S.seq<|S.region rfl<|O.q 1 rfl<|O.c4 (.p rfl) rfl aa rfl rfl (bs:=[aY aF d b s L]) aW (fun m hm hd=>qm (aY.gY hT.hd hd hm)) ?_;rintro _ _ ⟨rfl,rfl⟩
 try simp only [an,aq,au]
 refine O.sT 12 rfl aK ?_;refine O.op (.p rfl) (.not rfl)<|O.nil<|S.aQ rfl<|S.skip<|S.seq<|S.seq<|S.region rfl<|O.q 1 rfl<|O.op (.p rfl) (.len rfl underlying25 rfl)<|O.q 1 rfl<|O.nil<|S.block<|S.eM (ι:=Nat) (fun i=>i≤l.length∧∀ x∈l.take i,uq s x) (fun i=>[(16,.int .i64 (i:Int))]) [(0,_),(1,_),(14,_),(15,_)] (fun i=>[aY aF d b s L]) (fun i=>l.length - i) (0) (by exact ⟨Nat.zero_le _,fun x hx=>by cases hx⟩) (.cons rfl (.nil)) (.cons rfl (.cons rfl (.cons rfl (.cons rfl (.nil))))) rfl fun i hx ih=>?_;have bh:=cH (g:=g);obtain ⟨hx1,hx2⟩:=hx;refine S.seq<|S.region rfl<|O.op (.p rfl) (.lss rfl rfl)<|O.nil (S.seq ?_)
 first|refine S.cm rfl (fun iV=>?_) (fun iV=>?_)|refine S.b_ rfl (fun iV=>?_) (fun iV=>?_)
 ·have hi:i<l.length:=by omega
  have DW:=tY _ (List.getElem_mem hi)
  by_cases k1:mQ l[i].1
  ·have k0:l[i].1.length≤64:=k1.2
   by_cases k2:pQ l[i].1=s
   ·by_cases bk:nQ l[i].1 l[i].2.1
    ·
     refine S.skip<|S.seq<|S.block<|S.seq<|S.region rfl<|O.bR (.p rfl) underlying25 cQ rfl rfl (show _=(((i):Nat):Int) by omega) (by first|assumption|exact aj.mono hg zE|exact aj.left zE|exact aj.left (aj.mono hg zE)) (h:=fun AO zj l8 mb=>?_);obtain ⟨E1,E2,rfl,z8,nG⟩:=bP.sh mb;refine O.op (.p rfl) (.bE isAgg31 aa rfl l8) ?_;refine O.aN (.p rfl) (.alloc (cs:=[.string ⟨#[]⟩,.slice none 0 0]) zeroValue31 rfl) ?_;rintro _ _ ⟨fU,rfl,rfl⟩;refine O.bB rfl (.c9 aa rfl rfl rfl rfl ai aX) ?_;refine O.nil<|S.block<|S.seq<|S.seq<|S.de ai fun g hs hm h6=>?_;replace hg:=Fr.aI hg hs;replace hR:=bu hR hm
     try replace hT:=hT.mono hs
     try replace ha:=ha.mono hs
     try replace l8:=l8.mono hs
     try replace nG:=nG.mono hs
     try replace mb:=mb.mono hs
     replace bh:=dQ bh hm;clear hs hm;refine S.region rfl<|O.op (.p rfl) (.fieldAddr ef rfl)<|O.op (.p rfl) (.loadAt bQ rfl h6 rfl) ?_;refine O.aC (.p rfl) rfl aa rfl rfl ((qc ah)) ?_;rintro _ _ ⟨rfl,rfl⟩
     try simp only [an,aq,au]
     refine O.sT 23 rfl (by exact decide_eq_true k1) ?_;refine O.op (.p rfl) (.not rfl)<|O.q 1 rfl<|O.nil<|S.aQ rfl<|S.bC (L:=[0,1,3,4,5,2,6,7,8]) bz aa ?_;refine .quiet (.p rfl) rfl (fun _=>.fieldAddr ef rfl)<|.quiet (.p rfl) rfl (fun _=>.loadAt bQ rfl h6 rfl) ?_;refine af.q 1 rfl<|.quiet (.p rfl) rfl (fun _=>.nilCheck rfl)<|.quiet (.p rfl) rfl (fun _=>.fieldAddr vj rfl)<|af.e4 2 6 [6,7,8] [2,7,8] aa rfl rfl ?_ ?_
     ·refine bT.aC (.p rfl) aa rfl aa rfl rfl ((sG hT.hH hT.hK ah)) ?_
      rintro _ _ ⟨rfl,rfl⟩
      try simp only [an,aq,au]
      refine af.cC (.p rfl) aa (fun _=>.sL cz aK ai) ?_;refine .quiet (.p rfl) rfl (fun _=>.neq rfl rfl)<|af.aM 32 rfl (by exact decide_eq_false ah) ?_;refine af.q 1 rfl<|aJ.nil<|S.aQ rfl<|S.seq<|S.region rfl<|O.op (.p rfl) (.fieldAddr ef rfl)<|O.op (.p rfl) (.loadAt bQ rfl h6 rfl) ?_;refine O.op (.p rfl) (.fieldAddr eA rfl)<|O.op (.p rfl) (.loadAt dO rfl (h6.drop 1) rfl) ?_;refine O.aC (.p rfl) rfl aa rfl rfl ((sq nG ah)) ?_;rintro _ _ ⟨rfl,rfl⟩
      try simp only [an,aq,au]
      refine O.sT 38 rfl (by exact decide_eq_true bk) ?_;refine O.op (.p rfl) (.not rfl)<|O.q 1 rfl<|O.nil<|S.aQ rfl<|S.skip<|S.inBlock<|S.inBlock<|S.region rfl<|O.op (.p rfl) (.add rfl rfl (IntWalk.i64_in _ ah))<|O.q 1 rfl<|O.nil ?_;exact S.iA bh (S.dD (ih (i+1) (by exact ⟨by omega,LO hi hx2 ⟨⟨k1,k2⟩,bk⟩⟩) ah))
     ·refine bT.cC (.p rfl) aa (fun _=>.sL cz aK ai) ?_
      refine af.aC (.p rfl) aa rfl aa rfl rfl ((sG hT.hH hT.hK ah)) ?_;rintro _ _ ⟨rfl,rfl⟩
      try simp only [an,aq,au]
      refine .quiet (.p rfl) rfl (fun _=>.neq rfl rfl)<|af.aM 32 rfl (by exact decide_eq_false ah) ?_;refine af.q 1 rfl<|aJ.nil<|S.aQ rfl<|S.seq<|S.region rfl<|O.op (.p rfl) (.fieldAddr ef rfl)<|O.op (.p rfl) (.loadAt bQ rfl h6 rfl) ?_;refine O.op (.p rfl) (.fieldAddr eA rfl)<|O.op (.p rfl) (.loadAt dO rfl (h6.drop 1) rfl) ?_;refine O.aC (.p rfl) rfl aa rfl rfl ((sq nG ah)) ?_;rintro _ _ ⟨rfl,rfl⟩
      try simp only [an,aq,au]
      refine O.sT 38 rfl (by exact decide_eq_true bk) ?_;refine O.op (.p rfl) (.not rfl)<|O.q 1 rfl<|O.nil<|S.aQ rfl<|S.skip<|S.inBlock<|S.inBlock<|S.region rfl<|O.op (.p rfl) (.add rfl rfl (IntWalk.i64_in _ ah))<|O.q 1 rfl<|O.nil ?_;exact S.iA bh (S.dD (ih (i+1) (by exact ⟨by omega,LO hi hx2 ⟨⟨k1,k2⟩,bk⟩⟩) ah))
    ·have fm:=U0 ⟨k1,k2⟩ bk
     have hE:jy s l=4:=(AW hi hx2 (by rw [fm];decide)).trans fm;rw [hE,if_neg aB] at hR;refine S.skip<|S.seq<|S.block<|S.seq<|S.region rfl<|O.bR (.p rfl) underlying25 cQ rfl rfl (show _=(((i):Nat):Int) by omega) (by first|assumption|exact aj.mono hg zE|exact aj.left zE|exact aj.left (aj.mono hg zE)) (h:=fun AO zj l8 mb=>?_);obtain ⟨E1,E2,rfl,z8,nG⟩:=bP.sh mb;refine O.op (.p rfl) (.bE isAgg31 aa rfl l8) ?_;refine O.aN (.p rfl) (.alloc (cs:=[.string ⟨#[]⟩,.slice none 0 0]) zeroValue31 rfl) ?_;rintro _ _ ⟨fU,rfl,rfl⟩;refine O.bB rfl (.c9 aa rfl rfl rfl rfl ai aX) ?_;refine O.nil<|S.block<|S.seq<|S.seq<|S.de ai fun g hs hm h6=>?_;replace hg:=Fr.aI hg hs;replace hR:=bu hR hm
     try replace hT:=hT.mono hs
     try replace ha:=ha.mono hs
     try replace l8:=l8.mono hs
     try replace nG:=nG.mono hs
     try replace mb:=mb.mono hs
     replace bh:=dQ bh hm;clear hs hm;refine S.region rfl<|O.op (.p rfl) (.fieldAddr ef rfl)<|O.op (.p rfl) (.loadAt bQ rfl h6 rfl) ?_;refine O.aC (.p rfl) rfl aa rfl rfl ((qc ah)) ?_;rintro _ _ ⟨rfl,rfl⟩
     try simp only [an,aq,au]
     refine O.sT 23 rfl (by exact decide_eq_true k1) ?_;refine O.op (.p rfl) (.not rfl)<|O.q 1 rfl<|O.nil<|S.aQ rfl<|S.bC (L:=[0,1,3,4,5,2,6,7,8]) bz aa ?_;refine .quiet (.p rfl) rfl (fun _=>.fieldAddr ef rfl)<|.quiet (.p rfl) rfl (fun _=>.loadAt bQ rfl h6 rfl) ?_;refine af.q 1 rfl<|.quiet (.p rfl) rfl (fun _=>.nilCheck rfl)<|.quiet (.p rfl) rfl (fun _=>.fieldAddr vj rfl)<|af.e4 2 6 [6,7,8] [2,7,8] aa rfl rfl ?_ ?_
     ·refine bT.aC (.p rfl) aa rfl aa rfl rfl ((sG hT.hH hT.hK ah)) ?_
      rintro _ _ ⟨rfl,rfl⟩
      try simp only [an,aq,au]
      refine af.cC (.p rfl) aa (fun _=>.sL cz aK ai) ?_;refine .quiet (.p rfl) rfl (fun _=>.neq rfl rfl)<|af.aM 32 rfl (by exact decide_eq_false ah) ?_;refine af.q 1 rfl<|aJ.nil<|S.aQ rfl<|S.seq<|S.region rfl<|O.op (.p rfl) (.fieldAddr ef rfl)<|O.op (.p rfl) (.loadAt bQ rfl h6 rfl) ?_;refine O.op (.p rfl) (.fieldAddr eA rfl)<|O.op (.p rfl) (.loadAt dO rfl (h6.drop 1) rfl) ?_;refine O.aC (.p rfl) rfl aa rfl rfl ((sq nG ah)) ?_;rintro _ _ ⟨rfl,rfl⟩
      try simp only [an,aq,au]
      refine O.aM 38 rfl (by exact decide_eq_false bk) ?_;refine O.op (.p rfl) (.not rfl)<|O.q 1 rfl<|O.nil<|S.bx rfl<|S.seq<|S.region rfl<|O.q 1 rfl<|O.nil ?_;exact S.rt results30 rfl hR ⟨rfl,rfl⟩
     ·refine bT.cC (.p rfl) aa (fun _=>.sL cz aK ai) ?_
      refine af.aC (.p rfl) aa rfl aa rfl rfl ((sG hT.hH hT.hK ah)) ?_;rintro _ _ ⟨rfl,rfl⟩
      try simp only [an,aq,au]
      refine .quiet (.p rfl) rfl (fun _=>.neq rfl rfl)<|af.aM 32 rfl (by exact decide_eq_false ah) ?_;refine af.q 1 rfl<|aJ.nil<|S.aQ rfl<|S.seq<|S.region rfl<|O.op (.p rfl) (.fieldAddr ef rfl)<|O.op (.p rfl) (.loadAt bQ rfl h6 rfl) ?_;refine O.op (.p rfl) (.fieldAddr eA rfl)<|O.op (.p rfl) (.loadAt dO rfl (h6.drop 1) rfl) ?_;refine O.aC (.p rfl) rfl aa rfl rfl ((sq nG ah)) ?_;rintro _ _ ⟨rfl,rfl⟩
      try simp only [an,aq,au]
      refine O.aM 38 rfl (by exact decide_eq_false bk) ?_;refine O.op (.p rfl) (.not rfl)<|O.q 1 rfl<|O.nil<|S.bx rfl<|S.seq<|S.region rfl<|O.q 1 rfl<|O.nil ?_;exact S.rt results30 rfl hR ⟨rfl,rfl⟩
   ·have fm:=KJ (s:=s) (x:=l[i]) (fun q=>k2 q.2)
    have hE:jy s l=22:=(AW hi hx2 (by rw [fm];decide)).trans fm;rw [hE,if_neg aB] at hR;refine S.skip<|S.seq<|S.block<|S.seq<|S.region rfl<|O.bR (.p rfl) underlying25 cQ rfl rfl (show _=(((i):Nat):Int) by omega) (by first|assumption|exact aj.mono hg zE|exact aj.left zE|exact aj.left (aj.mono hg zE)) (h:=fun AO zj l8 mb=>?_);obtain ⟨E1,E2,rfl,z8,nG⟩:=bP.sh mb;refine O.op (.p rfl) (.bE isAgg31 aa rfl l8) ?_;refine O.aN (.p rfl) (.alloc (cs:=[.string ⟨#[]⟩,.slice none 0 0]) zeroValue31 rfl) ?_;rintro _ _ ⟨fU,rfl,rfl⟩;refine O.bB rfl (.c9 aa rfl rfl rfl rfl ai aX) ?_;refine O.nil<|S.block<|S.seq<|S.seq<|S.de ai fun g hs hm h6=>?_;replace hg:=Fr.aI hg hs;replace hR:=bu hR hm
    try replace hT:=hT.mono hs
    try replace ha:=ha.mono hs
    try replace l8:=l8.mono hs
    try replace nG:=nG.mono hs
    try replace mb:=mb.mono hs
    replace bh:=dQ bh hm;clear hs hm;refine S.region rfl<|O.op (.p rfl) (.fieldAddr ef rfl)<|O.op (.p rfl) (.loadAt bQ rfl h6 rfl) ?_;refine O.aC (.p rfl) rfl aa rfl rfl ((qc ah)) ?_;rintro _ _ ⟨rfl,rfl⟩
    try simp only [an,aq,au]
    refine O.sT 23 rfl (by exact decide_eq_true k1) ?_;refine O.op (.p rfl) (.not rfl)<|O.q 1 rfl<|O.nil<|S.aQ rfl<|S.bC (L:=[0,1,3,4,5,2,6,7,8]) bz aa ?_;refine .quiet (.p rfl) rfl (fun _=>.fieldAddr ef rfl)<|.quiet (.p rfl) rfl (fun _=>.loadAt bQ rfl h6 rfl) ?_;refine af.q 1 rfl<|.quiet (.p rfl) rfl (fun _=>.nilCheck rfl)<|.quiet (.p rfl) rfl (fun _=>.fieldAddr vj rfl)<|af.e4 2 6 [6,7,8] [2,7,8] aa rfl rfl ?_ ?_
    ·refine bT.aC (.p rfl) aa rfl aa rfl rfl ((sG hT.hH hT.hK ah)) ?_
     rintro _ _ ⟨rfl,rfl⟩
     try simp only [an,aq,au]
     refine af.cC (.p rfl) aa (fun _=>.sL cz aK ai) ?_;refine .quiet (.p rfl) rfl (fun _=>.neq rfl rfl)<|af.sT 32 rfl (by exact decide_eq_true ah) ?_;refine af.q 1 rfl<|aJ.nil<|S.bx rfl<|S.seq<|S.region rfl<|O.q 1 rfl<|O.nil ?_;exact S.rt results30 rfl hR ⟨rfl,rfl⟩
    ·refine bT.cC (.p rfl) aa (fun _=>.sL cz aK ai) ?_
     refine af.aC (.p rfl) aa rfl aa rfl rfl ((sG hT.hH hT.hK ah)) ?_;rintro _ _ ⟨rfl,rfl⟩
     try simp only [an,aq,au]
     refine .quiet (.p rfl) rfl (fun _=>.neq rfl rfl)<|af.sT 32 rfl (by exact decide_eq_true ah) ?_;refine af.q 1 rfl<|aJ.nil<|S.bx rfl<|S.seq<|S.region rfl<|O.q 1 rfl<|O.nil ?_;exact S.rt results30 rfl hR ⟨rfl,rfl⟩
  ·have fm:=KJ (s:=s) (x:=l[i]) (fun q=>k1 q.1)
   have hE:jy s l=22:=(AW hi hx2 (by rw [fm];decide)).trans fm;rw [hE,if_neg aB] at hR;refine S.skip<|S.seq<|S.block<|S.seq<|S.region rfl<|O.bR (.p rfl) underlying25 cQ rfl rfl (show _=(((i):Nat):Int) by omega) (by first|assumption|exact aj.mono hg zE|exact aj.left zE|exact aj.left (aj.mono hg zE)) (h:=fun AO zj l8 mb=>?_);obtain ⟨E1,E2,rfl,z8,nG⟩:=bP.sh mb;refine O.op (.p rfl) (.bE isAgg31 aa rfl l8) ?_;refine O.aN (.p rfl) (.alloc (cs:=[.string ⟨#[]⟩,.slice none 0 0]) zeroValue31 rfl) ?_;rintro _ _ ⟨fU,rfl,rfl⟩;refine O.bB rfl (.c9 aa rfl rfl rfl rfl ai aX) ?_;refine O.nil<|S.block<|S.seq<|S.seq<|S.region rfl<|O.op (.p rfl) (.aH ef rfl)<|O.op (.p rfl) (.lo bQ) ?_;refine O.aC (.p rfl) rfl aa rfl rfl ((qc z8)) ?_;rintro _ _ ⟨rfl,rfl⟩
   try simp only [an,aq,au]
   refine O.aM 23 rfl (by exact decide_eq_false k1) ?_;refine O.op (.p rfl) (.not rfl)<|O.q 1 rfl<|O.nil<|S.bx rfl<|S.skip<|S.bx rfl<|S.seq<|S.region rfl<|O.q 1 rfl<|O.nil ?_;exact S.rt results30 rfl hR ⟨rfl,rfl⟩
 ·clear ih
  have hi:i=l.length:=by omega
  subst hi;rw [List.take_length] at hx2;have hE:jy s l=0:=FC.2 hx2;rw [hE,if_pos rfl] at hR;refine S.imp (ax :=[aY aF d b s (fN L (l.take 0))]) (fun m h=>h) ?_;refine S.exit rfl<|S.seq<|S.seq<|S.region rfl<|O.q 1 rfl<|O.op (.p rfl) (.len rfl underlying25 rfl)<|O.q 1 rfl<|O.nil<|S.block<|S.eM (ι:=Nat) (fun i=>i≤l.length) (fun i=>[(43,.int .i64 (i:Int))]) [(0,_),(41,_),(42,_)] (fun i=>[aY aF d b s (fN L (l.take i))]) (fun i=>l.length - i) (0) bL (.cons rfl (.nil)) (.cons rfl (.cons rfl (.cons rfl (.nil)))) rfl fun i hx ih=>?_;have hm2:=cH (g:=g);refine S.seq<|S.region rfl<|O.op (.p rfl) (.lss rfl rfl)<|O.nil (S.seq ?_)
  first|refine S.cm rfl (fun De=>?_) (fun De=>?_)|refine S.b_ rfl (fun De=>?_) (fun De=>?_)
  ·have hi:i<l.length:=by omega
   have DW:=tY _ (List.getElem_mem hi);have kH:=hx2 _ (List.getElem_mem hi);have k0:l[i].1.length≤64:=kH.1.1.2;have Dt:gu s (fN L (l.take i)):=gu.FD hT.ok (fun x hx=>hx2 x (List.mem_of_mem_take hx));have hn:=FE (l.take i) L;have jx:(l.take i).length=i:=by simp;omega
   have eW:fN L (l.take (i+1))=gK (fN L (l.take i)) (l[i].1,l[i].2.1,()):=U7 hi;generalize fN L (l.take i)=uU at Dt hn eW ⊢;refine S.skip<|S.seq<|S.block<|S.seq<|S.region rfl<|O.bR (.p rfl) underlying25 cQ rfl rfl (show _=(((i):Nat):Int) by omega) (by first|assumption|exact aj.mono hg zE|exact aj.left zE|exact aj.left (aj.mono hg zE)) (h:=fun aa4 Y2 Ed EB=>?_);obtain ⟨aaz,aaG,rfl,Z2,Dz⟩:=bP.sh EB;refine O.op (.p rfl) (.bE isAgg31 aa rfl Ed) ?_;refine O.aN (.p rfl) (.alloc (cs:=[.string ⟨#[]⟩,.slice none 0 0]) zeroValue31 rfl) ?_;rintro _ _ ⟨j0,rfl,rfl⟩;refine O.bB rfl (.c9 aa rfl rfl rfl rfl ai aX) ?_;refine O.nil<|S.seq<|S.de ai fun g hs hm h8=>?_;replace hg:=Fr.aI hg hs;replace hR:=bu hR hm
   try replace hT:=hT.mono hs
   try replace ha:=ha.mono hs
   try replace Ed:=Ed.mono hs
   try replace Dz:=Dz.mono hs
   try replace EB:=EB.mono hs
   replace bh:=dQ bh hm;replace hm2:=dQ hm2 hm;clear hs hm;refine S.ct (A:=fh aF d b s uU uU) (bs:=[aY aF d b s uU]) aW (fun m h=>Xx h) ?_;refine S.bC (L:=[0,1,2,3,4,6,7,5,8,9,10]) bz aa ?_;refine af.q 1 rfl<|.quiet (.p rfl) rfl (fun _=>.nilCheck rfl)<|.quiet (.p rfl) rfl (fun _=>.fieldAddr lu rfl)<|.quiet (.p rfl) rfl (fun _=>.fieldAddr ef rfl)<|.quiet (.p rfl) rfl (fun _=>.loadAt bQ rfl h8 rfl) ?_;refine .quiet (.p rfl) rfl (fun _=>.fieldAddr eA rfl)<|.quiet (.p rfl) rfl (fun _=>.loadAt dO rfl (h8.drop 1) rfl) ?_;refine af.aC (.p rfl) aa rfl aa rfl rfl ((Lf ah)) ?_;rintro _ _ ⟨rfl,rfl⟩
   try simp only [an,aq,au]
   refine af.aC (.p rfl) aa rfl aa rfl rfl ((yh Dz kH.2.1 ah)) ?_;rintro _ _ ⟨a55,M_,rfl,rfl⟩
   try simp only [an,aq,au]
   refine .quiet (.p rfl) rfl (fun _=>.build (cs:=[_,_]) underlying31 rfl rfl rfl rfl rfl)<|af.eO (.p rfl) aa rfl aa rfl rfl (bs:=[fh aF d b s uU uU,cD (dr b8) 102 (.slice a55 l[i].2.1.length M_) l[i].2.1]) aW (Xe hT.hd Dt.2 ah ah hT.hH hT.hK) ?_;rintro _ _ ⟨rfl,rfl⟩
   try simp only [an,aq,au]
   refine aJ.nil<|S.seq<|S.region rfl<|O.op (.p rfl) (.fieldAddr ef rfl)<|O.op (.p rfl) (.loadAt bQ rfl h8 rfl) ?_;refine O.aC (.p rfl) rfl aa rfl rfl ((nU hT.hH hT.hK ah)) ?_;rintro _ _ ⟨rfl,rfl⟩
   try simp only [an,aq,au]
   refine O.q 1 rfl<|O.nil (S.seq ?_);rw [← eW];refine S.open (bs:=fun x:bU d uU=>bU.pU aF b s x (fN L (l.take (i+1)))) ai (fun m h=>fh.jc h) fun x=>?_;obtain ⟨k,dm,dn,mid,M,d_,wf,ok⟩:=x;simp only [bU.pU,List.cons_append,List.nil_append];refine S.region rfl<|O.q 1 rfl<|O.op (.p rfl) (.nilCheck rfl)<|O.op (.p rfl) (.aH p5 rfl)<|O.op (.p rfl) (.lo lW) ?_;refine O.aN (.p rfl) (.FI underlying75 rfl ai) ?_;rintro _ _ ⟨JF,rfl,rfl⟩;refine O.nil<|S.block<|S.pk (ζ:=[jr (K:=List UInt8) JF mid d_ [],cu encS mid M d_,jq k,obj b 77 [dm,dn,.int .i64 (s:Int),.map (some mid)],av (ag.fZ d k bP) 31 dm (fN L (l.take (i+1))),av ag.str 9 dn ((fN L (l.take (i+1))).map fun y=>bq y.1)]) jf ?_
   refine S.Ax (ι:=List (cr (List UInt8))) (dJ:=List (cr (List UInt8))) (jC:=List (cr (List UInt8))) (fun bf jR cur=>nk M (fun p=>p.isPrefixOf (bq l[i].1)) d_ bf jR cur) (fun bf jR cur=>[]) [(0,_),(9,_),(41,_),(42,_),(43,_),(65,_)] (fun bf jR cur=>[jr JF mid d_ bf,cu encS mid cur d_,jq k,obj b 77 [dm,dn,.int .i64 (s:Int),.map (some mid)],av (ag.fZ d k bP) 31 dm (fN L (l.take (i+1))),av ag.str 9 dn ((fN L (l.take (i+1))).map fun y=>bq y.1)]) (fun bf jR cur=>jR.length) ([]) (M) (M) (by exact nk.start wf) (.nil) (.cons rfl (.cons rfl (.cons rfl (.cons rfl (.cons rfl (.cons rfl (.nil))))))) (by with_reducible rfl) fun bf jR cur hx ih=>?_;have DY:=cH (g:=g);refine S.seq<|S.region rfl<|O.TX (.p rfl) rfl hx.uF hx.hp hx.wf hx.sub hx.left ai ai (fun Dj=>?_) (fun sR t166 t266 Dj=>?_)
   ·clear ih
    subst Dj;have Ud:iL d k (fN L (l.take (i+1))) cur:=by rw [eW];exact ok.thin Dt.2 hx
    refine O.q 1 rfl<|O.nil<|S.seq<|S.aQ rfl<|S.exit rfl<|S.inBlock<|S.ct (A:=aY aF d b s (fN L (l.take (i+1)))) (bs:=bU.ws aF b s ⟨k,dm,dn,mid,cur,d_,hx.wf,Ud⟩) aW (fun m h=>aY.fold _ h) ?_;refine S.region rfl<|O.op (.p rfl) (.add rfl rfl (IntWalk.i64_in _ ah))<|O.q 1 rfl<|O.nil ?_;exact S.iA hm2 (S.pw (ih (i+1) ah ah))
   ·subst Dj
    have hmem:sR∈cur:=hx.left _ bL;have nN:sR.1.length≤510:=(ok sR.1 sR.2.1 (vm wf.2.2 (hx.sub _ hmem))).1.1;refine O.q 1 rfl<|O.nil<|S.seq<|S.bx rfl<|S.skip<|S.block<|S.seq<|S.region rfl<|O.op (.p rfl) (.CM rfl hx.wf hmem ai ai) ?_;refine O.q 2 rfl<|O.nil (S.seq ?_)
    by_cases KQ:sR.1.isPrefixOf (bq l[i].1)=true
    ·
     refine S.region rfl<|O.q 2 rfl<|O.aC (.p rfl) rfl aa rfl rfl ((xe (by rw [kO];decide) ah)) ?_;rintro _ _ ⟨rfl,rfl⟩
     try simp only [an,aq,au]
     refine O.sT 72 rfl (by exact KQ) ?_;refine O.nil<|S.bx rfl<|S.region rfl<|O.q 1 rfl<|O.op (.p rfl) (.nilCheck rfl)<|O.op (.p rfl) (.aH p5 rfl)<|O.op (.p rfl) (.lo lW) ?_;refine O.q 1 rfl<|O.HP rfl underlying75 (q3 underlying9) rfl rfl ai ?_;refine O.nil (S.inBlock ?_);exact S.pw (ih (bf++[sR]) (t166++t266) (gQ cur sR.1) (by exact hx.drop) bL)
    ·have KR :=Bool.eq_false_iff.2 KQ
     refine S.region rfl<|O.q 2 rfl<|O.aC (.p rfl) rfl aa rfl rfl ((xe (by rw [kO];decide) ah)) ?_;rintro _ _ ⟨rfl,rfl⟩
     try simp only [an,aq,au]
     refine O.aM 72 rfl (by exact KR) ?_;refine O.nil<|S.aQ rfl<|S.skip (S.inBlock ?_);exact S.pw (ih (bf++[sR]) (t166++t266) (cur) (by exact hx.keep KR) bL)
  ·clear ih
   have hi:i=l.length:=by omega
   subst hi;rw [List.take_length];refine S.exit rfl<|S.seq<|S.region rfl<|O.q 1 rfl<|O.nil ?_;exact S.rt results30 rfl hR ⟨rfl,rfl⟩
theorem N5 {x y:dz} (h:(x.1,x.2.1)=(y.1,y.2.1)):x=y:=by
 obtain ⟨a,b,⟨⟩⟩:=x;obtain ⟨c,d,⟨⟩⟩:=y
 simp_all
theorem WC {r:Fr} {va je:Value} {xs ys:List dz} (ha:aj c_ r va xs) (hb:aj c_ r je ys) :
  ay prog 154 #[va,je] r [] (aL fun v U=>v=.bool (decide (xs=ys))∧U=[]):=by
 have har:=ha;have rV:=hb;refine ay.of (n:=26) _ rfl func154 rfl rfl rfl fun g hg R hR=>?_;have ha:=ha.mono hg;have hb:=hb.mono hg;have hbd:=ha.bound;obtain ⟨a1,c1,rfl⟩:=ha.shape;obtain ⟨a2,c2,rfl⟩:=hb.shape
 by_cases e0:xs.length=ys.length
 ·
  refine S.seq<|S.region rfl<|O.q 1 rfl<|O.nil<|S.seq<|S.seq<|S.region rfl<|O.q 1 rfl<|O.op (.p rfl) (.len rfl underlying100 rfl)<|O.q 1 rfl<|O.op (.p rfl) (.len rfl underlying100 rfl)<|O.op (.p rfl) (.neq rfl rfl)<|O.aM 10 rfl (by exact decide_eq_false ah) ?_;refine O.nil<|S.aQ rfl<|S.skip<|S.seq<|S.seq<|S.region rfl<|O.q 1 rfl<|O.nil<|S.block<|S.eM (ι:=Nat) (fun i=>i≤xs.length∧xs.take i=ys.take i) (fun i=>[(5,.int .i64 (i:Int))]) [(0,_),(1,_)] (fun i=>[]) (fun i=>xs.length - i) (0) bL (.cons rfl (.nil)) (.cons rfl (.cons rfl (.nil))) rfl fun i hx ih=>?_;have bh:=cH (g:=g);obtain ⟨hx1,hx2⟩:=hx;refine S.seq<|S.seq<|S.region rfl<|O.q 2 rfl<|O.op (.p rfl) (.len rfl underlying100 rfl)<|O.op (.p rfl) (.lss rfl rfl)<|O.nil ?_
  first|refine S.cm rfl (fun e_=>?_) (fun e_=>?_)|refine S.b_ rfl (fun e_=>?_) (fun e_=>?_)
  ·have hi:i<xs.length:=by omega
   have hi2:i<ys.length:=by omega
   by_cases e:xs[i]=ys[i]
   ·
    refine S.skip<|S.seq<|S.block<|S.seq<|S.bC (L:=[0,1,2,3,4,5,6,7,8]) bz aa<|af.q 2 rfl<|af.ib (.p rfl) underlying100 oG rfl rfl rfl har hg (h:=fun sx s_ j8 pE=>?_);have gp:=ag.rel.mono pE hg;obtain ⟨rfl,PZ,P4⟩:=c_.open gp;refine .quiet (.p rfl) rfl (fun _=>.bE isAgg191 aa rfl j8) ?_;refine af.q 2 rfl<|af.ib (.p rfl) underlying100 oG rfl rfl rfl rV hg (h:=fun vT u_ nM pF=>?_);have k3:=ag.rel.mono pF hg;obtain ⟨rfl,P0,P5⟩:=c_.open k3;refine .quiet (.p rfl) rfl (fun _=>.bE isAgg191 aa rfl nM) ?_;refine .quiet (.p rfl) rfl (fun _=>.Kb underlying191 underlying3 rfl rfl rfl rfl aB aB aa aa rfl rfl)<|af.aM 25 rfl (by exact decide_eq_false (not_not_intro (by rw [e]))) ?_;refine aJ.nil<|S.aQ rfl<|S.skip<|S.inBlock<|S.region rfl<|O.q 1 rfl<|O.op (.p rfl) (.add rfl rfl (IntWalk.i64_in _ ah))<|O.q 1 rfl<|O.nil ?_;exact S.dD (ih (i+1) (by exact ⟨by omega,F_ hi hi2 hx2 e⟩) ah)
   ·
    refine S.skip<|S.seq<|S.block<|S.seq<|S.bC (L:=[0,1,2,3,4,5,6,7,8]) bz aa<|af.q 2 rfl<|af.ib (.p rfl) underlying100 oG rfl rfl rfl har hg (h:=fun sx s_ j8 pE=>?_);have gp:=ag.rel.mono pE hg;obtain ⟨rfl,PZ,P4⟩:=c_.open gp;refine .quiet (.p rfl) rfl (fun _=>.bE isAgg191 aa rfl j8) ?_;refine af.q 2 rfl<|af.ib (.p rfl) underlying100 oG rfl rfl rfl rV hg (h:=fun vT u_ nM pF=>?_);have k3:=ag.rel.mono pF hg;obtain ⟨rfl,P0,P5⟩:=c_.open k3;refine .quiet (.p rfl) rfl (fun _=>.bE isAgg191 aa rfl nM) ?_;refine .quiet (.p rfl) rfl (fun _=>.Kb underlying191 underlying3 rfl rfl rfl rfl aB aB aa aa rfl rfl)<|af.sT 25 rfl (by exact decide_eq_true (fun q=>e (N5 q))) ?_;refine aJ.nil<|S.bx rfl<|S.seq<|S.region rfl<|O.q 1 rfl<|O.nil ?_;exact S.rt results154 rfl hR ⟨congrArg _ (decide_eq_false (Fi hi hi2 e)).symm,rfl⟩
  ·have hi:i=xs.length:=by omega
   clear ih;subst hi;rw [List.take_length,e0,List.take_length] at hx2;refine S.exit rfl<|S.seq<|S.region rfl<|O.q 1 rfl<|O.nil ?_;exact S.rt results154 rfl hR ⟨by simp [hx2],rfl⟩
 ·
  refine S.seq<|S.region rfl<|O.q 1 rfl<|O.nil<|S.seq<|S.seq<|S.region rfl<|O.q 1 rfl<|O.op (.p rfl) (.len rfl underlying100 rfl)<|O.q 1 rfl<|O.op (.p rfl) (.len rfl underlying100 rfl)<|O.op (.p rfl) (.neq rfl rfl)<|O.sT 10 rfl (by exact decide_eq_true ah) ?_;refine O.nil<|S.bx rfl<|S.seq<|S.region rfl<|O.q 1 rfl<|O.nil ?_;exact S.rt results154 rfl hR ⟨congrArg _ (decide_eq_false (fun h=>e0 (by rw [h]))).symm,rfl⟩
theorem uy {x y:aP} (h0:x.1=y.1) (h1:x.2.1=y.2.1) (h2:x.2.2.1=y.2.2.1) (h3:x.2.2.2.1=y.2.2.2.1) (h4:x.2.2.2.2.1=y.2.2.2.2.1) (h5:x.2.2.2.2.2.1=y.2.2.2.2.2.1) (h6:x.2.2.2.2.2.2.1=y.2.2.2.2.2.2.1):x=y:=by
 obtain ⟨a0,a1,a2,a3,a4,a5,a6,⟨⟩⟩:=x;obtain ⟨b0,b1,b2,b3,b4,iN,fU,⟨⟩⟩:=y
 simp_all
theorem Bd {r:Fr} {cs ds:List Value} {x y:aP} (hx:cv.rel r cs x) (hy:cv.rel r ds y) :
  ay prog 85 #[.agg cs.toArray,.agg ds.toArray] r [] (aL fun v U=>v=.bool (decide (x=y))∧U=[]):=by
 obtain ⟨iH,pV,oJ,iI,pW,oK,rfl,Yo,Gm,abJ,Ma,Mb,Mc⟩:=cv.sh hx;obtain ⟨uH,uI,uJ,uK,uL,uM,rfl,Yu,Gp,abM,Md,Me,Mf⟩:=cv.sh hy;refine ay.of (n:=52) _ rfl func85 rfl rfl rfl fun g hg R hR=>?_;have Ma:=Ma.mono hg;have Mb:=Mb.mono hg;have Mc:=Mc.mono hg;have Md:=Md.mono hg;have Me:=Me.mono hg;have Mf:=Mf.mono hg;refine S.seq<|S.region rfl<|O.aN (.p rfl) (.box (cs:=[_,_,_,_,_,_,_]) rfl rfl) ?_;rintro _ _ ⟨b2,rfl,rfl⟩;refine O.aN (.p rfl) (.box (cs:=[_,_,_,_,_,_,_]) rfl rfl) ?_;rintro _ _ ⟨b3,rfl,rfl⟩;refine O.q 1 rfl<|O.nil<|S.seq<|S.region rfl<|O.op (.p rfl) (.aH e6 rfl)<|O.op (.p rfl) (.lo bQ) ?_;refine O.op (.p rfl) (.aH e6 rfl)<|O.op (.p rfl) (.lo bQ) ?_;refine O.op (.p rfl) (.kU rfl rfl)<|O.q 1 rfl ?_
 first|refine O.dK 10 rfl (fun h10=>?_) (fun h10=>?_)|refine O.dA 10 rfl (fun h10=>?_) (fun h10=>?_)
 ·refine O.op (.g rfl rfl) (.aH vf rfl)<|O.op (.g rfl rfl) (.lo cz) ?_
  refine O.op (.g rfl rfl) (.aH vf rfl)<|O.op (.g rfl rfl) (.lo cz) ?_;refine O.op (.g rfl rfl) (.eql rfl rfl)<|O.q 2 rfl ?_
  first|refine O.dK 17 rfl (fun iV=>?_) (fun iV=>?_)|refine O.dA 17 rfl (fun iV=>?_) (fun iV=>?_)
  ·refine O.op (.g rfl rfl) (.aH vg rfl)<|O.op (.g rfl rfl) (.lo cz) ?_
   refine O.op (.g rfl rfl) (.aH vg rfl)<|O.op (.g rfl rfl) (.lo cz) ?_;refine O.op (.g rfl rfl) (.eql rfl rfl)<|O.q 2 rfl ?_
   first|refine O.dK 24 rfl (fun iW=>?_) (fun iW=>?_)|refine O.dA 24 rfl (fun iW=>?_) (fun iW=>?_)
   ·refine O.op (.g rfl rfl) (.aH fF rfl)<|O.op (.g rfl rfl) (.lo eU) ?_
    refine O.op (.g rfl rfl) (.aH fF rfl)<|O.op (.g rfl rfl) (.lo eU) ?_;refine O.aC (.g rfl rfl) rfl aa rfl rfl (WC (by first|assumption|exact aj.mono hg zE|exact aj.left zE|exact aj.left (aj.mono hg zE)) (by first|assumption|exact aj.mono hg zE|exact aj.left zE|exact aj.left (aj.mono hg zE))) ?_;rintro _ _ ⟨rfl,rfl⟩
    try simp only [an,aq,au]
    refine O.q 2 rfl ?_
    first|refine O.dK 31 rfl (fun gR=>?_) (fun gR=>?_)|refine O.dA 31 rfl (fun gR=>?_) (fun gR=>?_)
    ·refine O.op (.g rfl rfl) (.aH vh rfl)<|O.op (.g rfl rfl) (.lo iv) ?_
     refine O.op (.g rfl rfl) (.aH vh rfl)<|O.op (.g rfl rfl) (.lo iv) ?_;refine O.op (.g rfl rfl) (.Oh underlying4 rfl rfl)<|O.q 2 rfl ?_
     first|refine O.dK 38 rfl (fun tu=>?_) (fun tu=>?_)|refine O.dA 38 rfl (fun tu=>?_) (fun tu=>?_)
     ·refine O.op (.g rfl rfl) (.aH gj rfl)<|O.op (.g rfl rfl) (.lo bl) ?_
      refine O.op (.g rfl rfl) (.aH gj rfl)<|O.op (.g rfl rfl) (.lo bl) ?_;refine O.aC (.g rfl rfl) rfl aa rfl rfl (yV (by first|assumption|exact aj.mono hg zE|exact aj.left zE|exact aj.left (aj.mono hg zE)) (by first|assumption|exact aj.mono hg zE|exact aj.left zE|exact aj.left (aj.mono hg zE))) ?_;rintro _ _ ⟨rfl,rfl⟩
      try simp only [an,aq,au]
      refine O.q 2 rfl ?_
      first|refine O.dK 45 rfl (fun Df=>?_) (fun Df=>?_)|refine O.dA 45 rfl (fun Df=>?_) (fun Df=>?_)
      ·refine O.op (.g rfl rfl) (.aH iS rfl)<|O.op (.g rfl rfl) (.lo bl) ?_
       refine O.op (.g rfl rfl) (.aH iS rfl)<|O.op (.g rfl rfl) (.lo bl) ?_;refine O.aC (.g rfl rfl) rfl aa rfl rfl (yV (by first|assumption|exact aj.mono hg zE|exact aj.left zE|exact aj.left (aj.mono hg zE)) (by first|assumption|exact aj.mono hg zE|exact aj.left zE|exact aj.left (aj.mono hg zE))) ?_;rintro _ _ ⟨rfl,rfl⟩
       try simp only [an,aq,au]
       refine O.q 2 rfl<|O.nil<|S.ret results85 rfl fun w hw=>Holds.end_ hR hw ?_
       first|exact ⟨_,⟨congrArg _ (decide_eq_false (fun e=>by subst e;exact absurd rfl zE)).symm,rfl⟩,by repeat (first|exact aS|exact aU|(apply aT;focus (repeat (first|exact aR|apply zt)))|apply aV)⟩|exact ⟨_,⟨congrArg _ (decide_eq_decide.2 ⟨fun e=>uy (nV zE) zE zE zE zE zE e,fun e=>by rw [e]⟩),rfl⟩,by repeat (first|exact aS|exact aU|(apply aT;focus (repeat (first|exact aR|apply zt)))|apply aV)⟩
      ·refine O.q 7 rfl<|O.nil<|S.ret results85 rfl fun w hw=>Holds.end_ hR hw ?_
       first|exact ⟨_,⟨congrArg _ (decide_eq_false (fun e=>by subst e;exact absurd rfl zE)).symm,rfl⟩,by repeat (first|exact aS|exact aU|(apply aT;focus (repeat (first|exact aR|apply zt)))|apply aV)⟩|exact ⟨_,⟨congrArg _ (decide_eq_decide.2 ⟨fun e=>uy (nV zE) zE zE zE zE zE e,fun e=>by rw [e]⟩),rfl⟩,by repeat (first|exact aS|exact aU|(apply aT;focus (repeat (first|exact aR|apply zt)))|apply aV)⟩
     ·refine O.q 14 rfl<|O.nil<|S.ret results85 rfl fun w hw=>Holds.end_ hR hw ?_
      first|exact ⟨_,⟨congrArg _ (decide_eq_false (fun e=>by subst e;exact absurd rfl zE)).symm,rfl⟩,by repeat (first|exact aS|exact aU|(apply aT;focus (repeat (first|exact aR|apply zt)))|apply aV)⟩|exact ⟨_,⟨congrArg _ (decide_eq_decide.2 ⟨fun e=>uy (nV zE) zE zE zE zE zE e,fun e=>by rw [e]⟩),rfl⟩,by repeat (first|exact aS|exact aU|(apply aT;focus (repeat (first|exact aR|apply zt)))|apply aV)⟩
    ·refine O.q 21 rfl<|O.nil<|S.ret results85 rfl fun w hw=>Holds.end_ hR hw ?_
     first|exact ⟨_,⟨congrArg _ (decide_eq_false (fun e=>by subst e;exact absurd rfl zE)).symm,rfl⟩,by repeat (first|exact aS|exact aU|(apply aT;focus (repeat (first|exact aR|apply zt)))|apply aV)⟩|exact ⟨_,⟨congrArg _ (decide_eq_decide.2 ⟨fun e=>uy (nV zE) zE zE zE zE zE e,fun e=>by rw [e]⟩),rfl⟩,by repeat (first|exact aS|exact aU|(apply aT;focus (repeat (first|exact aR|apply zt)))|apply aV)⟩
   ·refine O.q 28 rfl<|O.nil<|S.ret results85 rfl fun w hw=>Holds.end_ hR hw ?_
    first|exact ⟨_,⟨congrArg _ (decide_eq_false (fun e=>by subst e;exact absurd rfl zE)).symm,rfl⟩,by repeat (first|exact aS|exact aU|(apply aT;focus (repeat (first|exact aR|apply zt)))|apply aV)⟩|exact ⟨_,⟨congrArg _ (decide_eq_decide.2 ⟨fun e=>uy (nV zE) zE zE zE zE zE e,fun e=>by rw [e]⟩),rfl⟩,by repeat (first|exact aS|exact aU|(apply aT;focus (repeat (first|exact aR|apply zt)))|apply aV)⟩
  ·refine O.q 35 rfl<|O.nil<|S.ret results85 rfl fun w hw=>Holds.end_ hR hw ?_
   first|exact ⟨_,⟨congrArg _ (decide_eq_false (fun e=>by subst e;exact absurd rfl zE)).symm,rfl⟩,by repeat (first|exact aS|exact aU|(apply aT;focus (repeat (first|exact aR|apply zt)))|apply aV)⟩|exact ⟨_,⟨congrArg _ (decide_eq_decide.2 ⟨fun e=>uy (nV zE) zE zE zE zE zE e,fun e=>by rw [e]⟩),rfl⟩,by repeat (first|exact aS|exact aU|(apply aT;focus (repeat (first|exact aR|apply zt)))|apply aV)⟩
 ·refine O.q 42 rfl<|O.nil<|S.ret results85 rfl fun w hw=>Holds.end_ hR hw ?_
  first|exact ⟨_,⟨congrArg _ (decide_eq_false (fun e=>by subst e;exact absurd rfl zE)).symm,rfl⟩,by repeat (first|exact aS|exact aU|(apply aT;focus (repeat (first|exact aR|apply zt)))|apply aV)⟩|exact ⟨_,⟨congrArg _ (decide_eq_decide.2 ⟨fun e=>uy (nV zE) zE zE zE zE zE e,fun e=>by rw [e]⟩),rfl⟩,by repeat (first|exact aS|exact aU|(apply aT;focus (repeat (first|exact aR|apply zt)))|apply aV)⟩
theorem FY {r:Fr} {va je:Value} {xs ys:List aP} (ha:aj cv r va xs) (hb:aj cv r je ys) :
  ay prog 38 #[va,je] r [] (aL fun v U=>v=.bool (decide (xs=ys))∧U=[]):=by
 have har:=ha;have rV:=hb;refine ay.of (n:=27) _ rfl func38 rfl rfl rfl fun g hg R hR=>?_;have ha:=ha.mono hg;have hb:=hb.mono hg;have hbd:=ha.bound;obtain ⟨a1,c1,rfl⟩:=ha.shape;obtain ⟨a2,c2,rfl⟩:=hb.shape
 by_cases e0:xs.length=ys.length
 ·
  refine S.seq<|S.region rfl<|O.q 1 rfl<|O.nil<|S.seq<|S.seq<|S.region rfl<|O.q 1 rfl<|O.op (.p rfl) (.len rfl underlying22 rfl)<|O.q 1 rfl<|O.op (.p rfl) (.len rfl underlying22 rfl)<|O.op (.p rfl) (.neq rfl rfl)<|O.aM 10 rfl (by exact decide_eq_false ah) ?_;refine O.nil<|S.aQ rfl<|S.skip<|S.seq<|S.seq<|S.region rfl<|O.q 1 rfl<|O.nil<|S.block<|S.eM (ι:=Nat) (fun i=>i≤xs.length∧xs.take i=ys.take i) (fun i=>[(5,.int .i64 (i:Int))]) [(0,_),(1,_)] (fun i=>[]) (fun i=>xs.length - i) (0) bL (.cons rfl (.nil)) (.cons rfl (.cons rfl (.nil))) rfl fun i hx ih=>?_;have bh:=cH (g:=g);obtain ⟨hx1,hx2⟩:=hx;refine S.seq<|S.seq<|S.region rfl<|O.q 2 rfl<|O.op (.p rfl) (.len rfl underlying22 rfl)<|O.op (.p rfl) (.lss rfl rfl)<|O.nil ?_
  first|refine S.cm rfl (fun e_=>?_) (fun e_=>?_)|refine S.b_ rfl (fun e_=>?_) (fun e_=>?_)
  ·have hi:i<xs.length:=by omega
   have hi2:i<ys.length:=by omega
   by_cases e:xs[i]=ys[i]
   ·
    refine S.skip<|S.seq<|S.block<|S.seq<|S.bC (L:=[0,1,2,3,4,5,6,7,8,9]) bz aa<|af.q 2 rfl<|af.ib (.p rfl) underlying22 mz rfl rfl rfl har hg (h:=fun sx s_ j8 pE=>?_);have gp:=ag.rel.mono pE hg;obtain ⟨Vk,Vo,Vs,Vx,VB,VF,rfl,D3,Qj,Qn,O_,Pj,Po⟩:=cv.sh gp;refine .quiet (.p rfl) rfl (fun _=>.bE isAgg102 aa rfl j8) ?_;refine af.q 2 rfl<|af.ib (.p rfl) underlying22 mz rfl rfl rfl rV hg (h:=fun vT u_ nM pF=>?_);have k3:=ag.rel.mono pF hg;obtain ⟨Vl,Vp,Vt,Vy,VC,VG,rfl,D4,Qk,Qo,Pa,Pk,Pp⟩:=cv.sh k3;refine .quiet (.p rfl) rfl (fun _=>.bE isAgg102 aa rfl nM) ?_;refine af.aC (.p rfl) aa rfl aa rfl rfl ((Bd gp k3)) ?_;rintro _ _ ⟨rfl,rfl⟩
    try simp only [an,aq,au]
    refine af.sT 25 rfl (by exact decide_eq_true e) ?_;refine .quiet (.p rfl) rfl (fun _=>.not rfl)<|aJ.nil<|S.aQ rfl<|S.skip<|S.inBlock<|S.region rfl<|O.q 1 rfl<|O.op (.p rfl) (.add rfl rfl (IntWalk.i64_in _ ah))<|O.q 1 rfl<|O.nil ?_;exact S.dD (ih (i+1) (by exact ⟨by omega,F_ hi hi2 hx2 e⟩) ah)
   ·
    refine S.skip<|S.seq<|S.block<|S.seq<|S.bC (L:=[0,1,2,3,4,5,6,7,8,9]) bz aa<|af.q 2 rfl<|af.ib (.p rfl) underlying22 mz rfl rfl rfl har hg (h:=fun sx s_ j8 pE=>?_);have gp:=ag.rel.mono pE hg;obtain ⟨Vk,Vo,Vs,Vx,VB,VF,rfl,D3,Qj,Qn,O_,Pj,Po⟩:=cv.sh gp;refine .quiet (.p rfl) rfl (fun _=>.bE isAgg102 aa rfl j8) ?_;refine af.q 2 rfl<|af.ib (.p rfl) underlying22 mz rfl rfl rfl rV hg (h:=fun vT u_ nM pF=>?_);have k3:=ag.rel.mono pF hg;obtain ⟨Vl,Vp,Vt,Vy,VC,VG,rfl,D4,Qk,Qo,Pa,Pk,Pp⟩:=cv.sh k3;refine .quiet (.p rfl) rfl (fun _=>.bE isAgg102 aa rfl nM) ?_;refine af.aC (.p rfl) aa rfl aa rfl rfl ((Bd gp k3)) ?_;rintro _ _ ⟨rfl,rfl⟩
    try simp only [an,aq,au]
    refine af.aM 25 rfl (by exact decide_eq_false e) ?_;refine .quiet (.p rfl) rfl (fun _=>.not rfl)<|aJ.nil<|S.bx rfl<|S.seq<|S.region rfl<|O.q 1 rfl<|O.nil ?_;exact S.rt results38 rfl hR ⟨congrArg _ (decide_eq_false (Fi hi hi2 e)).symm,rfl⟩
  ·have hi:i=xs.length:=by omega
   clear ih;subst hi;rw [List.take_length,e0,List.take_length] at hx2;refine S.exit rfl<|S.seq<|S.region rfl<|O.q 1 rfl<|O.nil ?_;exact S.rt results38 rfl hR ⟨by simp [hx2],rfl⟩
 ·
  refine S.seq<|S.region rfl<|O.q 1 rfl<|O.nil<|S.seq<|S.seq<|S.region rfl<|O.q 1 rfl<|O.op (.p rfl) (.len rfl underlying22 rfl)<|O.q 1 rfl<|O.op (.p rfl) (.len rfl underlying22 rfl)<|O.op (.p rfl) (.neq rfl rfl)<|O.sT 10 rfl (by exact decide_eq_true ah) ?_;refine O.nil<|S.bx rfl<|S.seq<|S.region rfl<|O.q 1 rfl<|O.nil ?_;exact S.rt results38 rfl hR ⟨congrArg _ (decide_eq_false (fun h=>e0 (by rw [h]))).symm,rfl⟩
theorem Lm {x y:aD} (h0:x.1=y.1) (h1:x.2.1=y.2.1):x=y:=by
 obtain ⟨a0,a1,⟨⟩⟩:=x;obtain ⟨b0,b1,⟨⟩⟩:=y
 simp_all
theorem Ll {r:Fr} {cs ds:List Value} {x y:aD} (hx:bP.rel r cs x) (hy:bP.rel r ds y) :
  ay prog 100 #[.agg cs.toArray,.agg ds.toArray] r [] (aL fun v U=>v=.bool (decide (x=y))∧U=[]):=by
 obtain ⟨yN,yO,rfl,Yo,Gm⟩:=bP.sh hx;obtain ⟨abK,abL,rfl,Yu,Gp⟩:=bP.sh hy;refine ay.of (n:=17) _ rfl func100 rfl rfl rfl fun g hg R hR=>?_;have Gm:=Gm.mono hg;have Gp:=Gp.mono hg;refine S.seq<|S.region rfl<|O.aN (.p rfl) (.box (cs:=[_,_]) rfl rfl) ?_;rintro _ _ ⟨b2,rfl,rfl⟩;refine O.aN (.p rfl) (.box (cs:=[_,_]) rfl rfl) ?_;rintro _ _ ⟨b3,rfl,rfl⟩;refine O.q 1 rfl<|O.nil<|S.seq<|S.region rfl<|O.op (.p rfl) (.aH ef rfl)<|O.op (.p rfl) (.lo bQ) ?_;refine O.op (.p rfl) (.aH ef rfl)<|O.op (.p rfl) (.lo bQ) ?_;refine O.op (.p rfl) (.kU rfl rfl)<|O.q 1 rfl ?_
 first|refine O.dK 10 rfl (fun h10=>?_) (fun h10=>?_)|refine O.dA 10 rfl (fun h10=>?_) (fun h10=>?_)
 ·refine O.op (.g rfl rfl) (.aH eA rfl)<|O.op (.g rfl rfl) (.lo dO) ?_
  refine O.op (.g rfl rfl) (.aH eA rfl)<|O.op (.g rfl rfl) (.lo dO) ?_;refine O.aC (.g rfl rfl) rfl aa rfl rfl (FY (by first|assumption|exact aj.mono hg zE|exact aj.left zE|exact aj.left (aj.mono hg zE)) (by first|assumption|exact aj.mono hg zE|exact aj.left zE|exact aj.left (aj.mono hg zE))) ?_;rintro _ _ ⟨rfl,rfl⟩
  try simp only [an,aq,au]
  refine O.q 2 rfl<|O.nil<|S.ret results100 rfl fun w hw=>Holds.end_ hR hw ?_
  first|exact ⟨_,⟨congrArg _ (decide_eq_false (fun e=>by subst e;exact absurd rfl zE)).symm,rfl⟩,by repeat (first|exact aS|exact aU|(apply aT;focus (repeat (first|exact aR|apply zt)))|apply aV)⟩|exact ⟨_,⟨congrArg _ (decide_eq_decide.2 ⟨fun e=>Lm (nV zE) e,fun e=>by rw [e]⟩),rfl⟩,by repeat (first|exact aS|exact aU|(apply aT;focus (repeat (first|exact aR|apply zt)))|apply aV)⟩
 ·refine O.q 7 rfl<|O.nil<|S.ret results100 rfl fun w hw=>Holds.end_ hR hw ?_
  first|exact ⟨_,⟨congrArg _ (decide_eq_false (fun e=>by subst e;exact absurd rfl zE)).symm,rfl⟩,by repeat (first|exact aS|exact aU|(apply aT;focus (repeat (first|exact aR|apply zt)))|apply aV)⟩|exact ⟨_,⟨congrArg _ (decide_eq_decide.2 ⟨fun e=>Lm (nV zE) e,fun e=>by rw [e]⟩),rfl⟩,by repeat (first|exact aS|exact aU|(apply aT;focus (repeat (first|exact aR|apply zt)))|apply aV)⟩
theorem Ln {r:Fr} {va je:Value} {xs ys:List aD} (ha:aj bP r va xs) (hb:aj bP r je ys) :
  ay prog 36 #[va,je] r [] (aL fun v U=>v=.bool (decide (xs=ys))∧U=[]):=by
 have har:=ha;have rV:=hb;refine ay.of (n:=27) _ rfl func36 rfl rfl rfl fun g hg R hR=>?_;have ha:=ha.mono hg;have hb:=hb.mono hg;have hbd:=ha.bound;obtain ⟨a1,c1,rfl⟩:=ha.shape;obtain ⟨a2,c2,rfl⟩:=hb.shape
 by_cases e0:xs.length=ys.length
 ·
  refine S.seq<|S.region rfl<|O.q 1 rfl<|O.nil<|S.seq<|S.seq<|S.region rfl<|O.q 1 rfl<|O.op (.p rfl) (.len rfl underlying25 rfl)<|O.q 1 rfl<|O.op (.p rfl) (.len rfl underlying25 rfl)<|O.op (.p rfl) (.neq rfl rfl)<|O.aM 10 rfl (by exact decide_eq_false ah) ?_;refine O.nil<|S.aQ rfl<|S.skip<|S.seq<|S.seq<|S.region rfl<|O.q 1 rfl<|O.nil<|S.block<|S.eM (ι:=Nat) (fun i=>i≤xs.length∧xs.take i=ys.take i) (fun i=>[(5,.int .i64 (i:Int))]) [(0,_),(1,_)] (fun i=>[]) (fun i=>xs.length - i) (0) bL (.cons rfl (.nil)) (.cons rfl (.cons rfl (.nil))) rfl fun i hx ih=>?_;have bh:=cH (g:=g);obtain ⟨hx1,hx2⟩:=hx;refine S.seq<|S.seq<|S.region rfl<|O.q 2 rfl<|O.op (.p rfl) (.len rfl underlying25 rfl)<|O.op (.p rfl) (.lss rfl rfl)<|O.nil ?_
  first|refine S.cm rfl (fun e_=>?_) (fun e_=>?_)|refine S.b_ rfl (fun e_=>?_) (fun e_=>?_)
  ·have hi:i<xs.length:=by omega
   have hi2:i<ys.length:=by omega
   by_cases e:xs[i]=ys[i]
   ·
    refine S.skip<|S.seq<|S.block<|S.seq<|S.bC (L:=[0,1,2,3,4,5,6,7,8,9]) bz aa<|af.q 2 rfl<|af.ib (.p rfl) underlying25 cQ rfl rfl rfl har hg (h:=fun sx s_ j8 pE=>?_);have gp:=ag.rel.mono pE hg;obtain ⟨Tg,Tk,rfl,D3,O5⟩:=bP.sh gp;refine .quiet (.p rfl) rfl (fun _=>.bE isAgg31 aa rfl j8) ?_;refine af.q 2 rfl<|af.ib (.p rfl) underlying25 cQ rfl rfl rfl rV hg (h:=fun vT u_ nM pF=>?_);have k3:=ag.rel.mono pF hg;obtain ⟨Th,Tl,rfl,D4,O6⟩:=bP.sh k3;refine .quiet (.p rfl) rfl (fun _=>.bE isAgg31 aa rfl nM) ?_;refine af.aC (.p rfl) aa rfl aa rfl rfl ((Ll gp k3)) ?_;rintro _ _ ⟨rfl,rfl⟩
    try simp only [an,aq,au]
    refine af.sT 25 rfl (by exact decide_eq_true e) ?_;refine .quiet (.p rfl) rfl (fun _=>.not rfl)<|aJ.nil<|S.aQ rfl<|S.skip<|S.inBlock<|S.region rfl<|O.q 1 rfl<|O.op (.p rfl) (.add rfl rfl (IntWalk.i64_in _ ah))<|O.q 1 rfl<|O.nil ?_;exact S.dD (ih (i+1) (by exact ⟨by omega,F_ hi hi2 hx2 e⟩) ah)
   ·
    refine S.skip<|S.seq<|S.block<|S.seq<|S.bC (L:=[0,1,2,3,4,5,6,7,8,9]) bz aa<|af.q 2 rfl<|af.ib (.p rfl) underlying25 cQ rfl rfl rfl har hg (h:=fun sx s_ j8 pE=>?_);have gp:=ag.rel.mono pE hg;obtain ⟨Tg,Tk,rfl,D3,O5⟩:=bP.sh gp;refine .quiet (.p rfl) rfl (fun _=>.bE isAgg31 aa rfl j8) ?_;refine af.q 2 rfl<|af.ib (.p rfl) underlying25 cQ rfl rfl rfl rV hg (h:=fun vT u_ nM pF=>?_);have k3:=ag.rel.mono pF hg;obtain ⟨Th,Tl,rfl,D4,O6⟩:=bP.sh k3;refine .quiet (.p rfl) rfl (fun _=>.bE isAgg31 aa rfl nM) ?_;refine af.aC (.p rfl) aa rfl aa rfl rfl ((Ll gp k3)) ?_;rintro _ _ ⟨rfl,rfl⟩
    try simp only [an,aq,au]
    refine af.aM 25 rfl (by exact decide_eq_false e) ?_;refine .quiet (.p rfl) rfl (fun _=>.not rfl)<|aJ.nil<|S.bx rfl<|S.seq<|S.region rfl<|O.q 1 rfl<|O.nil ?_;exact S.rt results36 rfl hR ⟨congrArg _ (decide_eq_false (Fi hi hi2 e)).symm,rfl⟩
  ·have hi:i=xs.length:=by omega
   clear ih;subst hi;rw [List.take_length,e0,List.take_length] at hx2;refine S.exit rfl<|S.seq<|S.region rfl<|O.q 1 rfl<|O.nil ?_;exact S.rt results36 rfl hR ⟨by simp [hx2],rfl⟩
 ·
  refine S.seq<|S.region rfl<|O.q 1 rfl<|O.nil<|S.seq<|S.seq<|S.region rfl<|O.q 1 rfl<|O.op (.p rfl) (.len rfl underlying25 rfl)<|O.q 1 rfl<|O.op (.p rfl) (.len rfl underlying25 rfl)<|O.op (.p rfl) (.neq rfl rfl)<|O.sT 10 rfl (by exact decide_eq_true ah) ?_;refine O.nil<|S.bx rfl<|S.seq<|S.region rfl<|O.q 1 rfl<|O.nil ?_;exact S.rt results36 rfl hR ⟨congrArg _ (decide_eq_false (fun h=>e0 (by rw [h]))).symm,rfl⟩
def pick (x n:Int):Int:=if n<1 then 0 else if x.tmod n<0 then x.tmod n+n else x.tmod n
theorem GF {r:Fr} (x n:Int) (hn:cK n):ay prog 28 #[.int .i64 x,.int .i64 n] r [] (aL fun v U=>v=.int .i64 (pick x n)∧U=[]):=by
 refine ay.of (n:=16) _ rfl func28 rfl rfl rfl fun g hg R hR=>?_;unfold cK at hn;refine S.seq<|S.region rfl<|O.q 1 rfl<|O.nil<|S.seq<|S.seq<|S.region rfl<|O.q 1 rfl<|O.op (.p rfl) (.lss rfl rfl)<|O.nil ?_
 first|refine S.cm rfl (fun h6=>?_) (fun h6=>?_)|refine S.b_ rfl (fun h6=>?_) (fun h6=>?_)
 ·refine S.seq<|S.region rfl<|O.q 1 rfl<|O.nil<|S.ret results28 rfl fun w hw=>hR _ _ w ?_ hw
  exact ⟨by simp [pick,h6],rfl⟩
 ·have b1:=Int.tmod_lt_of_pos x (show 0<n by omega)
  have b2:=Int.lt_tmod_of_pos x (show 0<n by omega);refine S.skip<|S.seq<|S.region rfl<|O.q 2 rfl<|O.op (.p rfl) (.rem rfl rfl ah)<|O.q 1 rfl<|O.nil<|S.seq<|S.seq<|S.region rfl<|O.q 1 rfl<|O.op (.p rfl) (.lss rfl rfl)<|O.nil ?_
  first|refine S.cm rfl (fun h11=>?_) (fun h11=>?_)|refine S.b_ rfl (fun h11=>?_) (fun h11=>?_)
  ·refine S.region rfl<|O.q 2 rfl<|O.op (.p rfl) (.add rfl rfl (IntWalk.i64_in _ ah))<|O.q 1 rfl<|O.nil<|S.seq<|S.region rfl<|O.q 2 rfl<|O.nil<|S.ret results28 rfl fun w hw=>hR _ _ w ?_ hw
   exact ⟨by simp [pick,h6,h11],rfl⟩
  ·refine S.skip<|S.seq<|S.region rfl<|O.q 2 rfl<|O.nil<|S.ret results28 rfl fun w hw=>hR _ _ w ?_ hw
   exact ⟨by simp [pick,h6,h11],rfl⟩
attribute [local irreducible] fN
theorem KG (x:Int) {n:Nat} (hn:0<n):∃ k:Nat,pick x n=(k:Int)∧k<n:=by
 have b1:=Int.tmod_lt_of_pos x (show 0<(n:Int) by omega);have b2:=Int.lt_tmod_of_pos x (show 0<(n:Int) by omega);have b3:0≤pick x n∧pick x n<n:=by
  unfold pick
  split
  ·omega
  ·split<;>omega
 exact ⟨(pick x n).toNat,by omega,by omega⟩
theorem x6 {α:Type} {G:bS α} {e:TypeId} {v:Value} {xs:List α} {m:Fr} (h:Sat [cD G e v xs] m):aj G.iF m v xs:=by
 obtain ⟨m1,_,_,s1,_,o,_⟩:=h;exact (cD.arr o).mono s1
theorem X6 {s:Nat} {L:List aD} (h:gu s L) {p:List UInt8} {e:aD} (he:e∈di p L):mZ s p e.1=true:=by
 obtain ⟨h1,h2⟩:=List.mem_filter.1 he;unfold mZ;rw [decide_eq_true (h.1 e h1).2,Bool.true_and];exact h2
theorem Bl (L:List aD) (p:List UInt8):(bN L p).2.2.2.1=[]∨(bN L p).2.2.2.1=di p L:=by
 unfold bN;exact Kh _ _ _
theorem Gb (L:List aD) {p:List UInt8} (hp:p.length≤510):((bN L p).1=3→p.length<510)∧((bN L p).1=4→p.length=510):=by
 rcases Nat.lt_or_ge (di p L).length 2 with q|q
 ·match e:di p L with
  |[]=>rw [yF e];exact ⟨fun h=>absurd (show (1:UInt8)=3 from h) aB,fun h=>absurd (show (1:UInt8)=4 from h) aB⟩
  |[x]=>rw [yG e];exact ⟨fun h=>absurd (show (2:UInt8)=3 from h) aB,fun h=>absurd (show (2:UInt8)=4 from h) aB⟩
  |x::y::l=>rw [e] at q;simp at q;omega
 ·rcases Nat.lt_or_ge p.length 510 with u|u
  ·rw [Bn q u];exact ⟨fun _=>u,fun h=>absurd (show (3:UInt8)=4 from h) aB⟩
  ·have u:p.length=510:=by omega
   rw [Bm q u];exact ⟨fun h=>absurd (show (4:UInt8)=3 from h) aB,fun _=>u⟩
theorem Xy {s:Nat} {L:List aD} (h:gu s L) {p:List UInt8} (hp:p.length≤510):rN s p (bw L p) (bN L p):=by
 obtain ⟨bk,sg⟩:=Gb L hp;refine ⟨Gc h p,LR L p,fun q=>by have:=bk q.1;omega,fun q=>q.2 (sg q.1),fun e he=>?_⟩
 rcases Bl L p with q|q
 ·rw [q] at he;cases he
 ·rw [q] at he;exact X6 h he
theorem LS {L:List aD} {p:List UInt8} (hp:p.length≤510) (h3:(bN L p).1=3):bw L (p++[48])=(bN L p).2.1∧bw L (p++[49])=(bN L p).2.2.1:=by
 have hl:=(Gb L hp).1 h3
 rcases Nat.lt_or_ge (di p L).length 2 with q|q
 ·match e:di p L with
  |[]=>rw [yF e] at h3;exact absurd (show (1:UInt8)=3 from h3) aB
  |[x]=>rw [yG e] at h3;exact absurd (show (2:UInt8)=3 from h3) aB
  |x::y::l=>rw [e] at q;simp at q;omega
 ·rw [Bn q hl];exact ⟨rfl,rfl⟩
theorem Xl (L:List aD):ry L []=bw L []:=by unfold ry;rw [if_pos ⟨by simp,fun c hc=>by cases hc⟩]
theorem XB {L:List aD} (h1:L.length≤1000) (h2:∀ y∈L,y.2.1.length≤1000) (p:List UInt8):(bN L p).2.2.2.1.length≤100000∧∀ y∈(bN L p).2.2.2.1,y.2.1.length≤100000:=by
 rcases Bl L p with q|q
 ·rw [q];exact ⟨Nat.zero_le _,fun y hy=>by cases hy⟩
 ·rw [q]
  have:=(v8 p L).length_le;exact ⟨by omega,fun y hy=>by have:=h2 y ((List.mem_filter.1 hy).1);omega⟩
theorem KN (s:Nat) (l:List aD):gu s (if jy s l=0 then fN [] l else []):=by
 split
 ·rename_i q;exact gu.FD (gu.nil s) (FC.1 q)
 ·exact gu.nil s
theorem KL (s:Nat) {l:List aD} (h1:l.length≤20) (h2:∀ y∈l,y.2.1.length≤60):(if jy s l=0 then fN [] l else []).length≤20∧∀ y∈(if jy s l=0 then fN [] l else []),y.2.1.length≤60:=by
 have:=FE l [];rw [List.length_nil] at this
 split
 ·exact ⟨by omega,KO l [] (fun _ h=>by cases h) h2⟩
 ·exact ⟨by simp,fun _ h=>by cases h⟩
theorem Ca {L:List aD} (h:L.length≤20∧∀ y∈L,y.2.1.length≤60):L.length≤10000000∧∀ y∈L,y.2.1.length≤10000000:=⟨by omega,fun y hy=>by have:=h.2 y hy;omega⟩
theorem V_ {p:Int} {s:Nat} {t:List UInt8} (hp:1≤p∧p≤7) (hs:s<4) (ht:t.length=64):oF ((p,(s:Int),1,t,List.replicate 64 0,()):jX)=true :=
 A7.2 ⟨A8.2 ⟨hp.1,hp.2,by show (0:Int)≤s;omega,by show (s:Int)<4;omega,(by decide:(1:Int)≤1),(by decide:(1:Int)≤1073741824),ht⟩,List.length_replicate ..⟩
theorem Xn (L:List aD):jB L []=bw L []:=Xl L
theorem Zn (xs:List UInt8):[xs].flatten=xs:=by simp
end Go.Proofs.YtojafegjlahajaaGreatDoor
