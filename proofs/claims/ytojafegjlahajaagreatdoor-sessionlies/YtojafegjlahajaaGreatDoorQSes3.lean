/- Texts of this proof. -/
import Derived.Test.YtojafegjlahajaaGreatDoorQTree9
open Go Go.Sp Go.Proofs.Tryz
set_option maxRecDepth 100000
set_option maxHeartbeats 1000000
attribute [local irreducible] obj Own av
namespace Go.Proofs.YtojafegjlahajaaGreatDoor
attribute [local irreducible] bw bZ
theorem JZ {d:Fr} {s:Nat} {L:List aG} {n:Nat} (hs:∀ k,n=k+1→wv d s L k):Bz d s L n:=by
 intro r b p va a hT xF hp ha dm hal od
 obtain ⟨a1,c1,rfl⟩:=ha.shape;have hlen:(dO p L).length=a.length:=by rw [← od];exact yU dm
 refine ay.of (n:=73) _ rfl func99 rfl rfl rfl fun g hg R hR=>?_;have hT:=hT.mono hg;have ha:=ha.mono hg;have hps:(str p).size=p.length:=uu p;refine S.seq<|S.region rfl<|O.aM (.p rfl) (.box (cs:=[_]) rfl rfl) ?_;rintro _ _ ⟨b3,rfl,rfl⟩;refine O.aM (.p rfl) (.box (cs:=[_]) rfl rfl) ?_;rintro _ _ ⟨b4,rfl,rfl⟩;refine O.aM (.p rfl) (.box (cs:=[_]) rfl rfl) ?_;rintro _ _ ⟨gU,rfl,rfl⟩;refine O.aM (.p rfl) (.alloc (cs:=[.int .u8 0,.slice none 0 0,.slice none 0 0,.slice none 0 0]) zeroValue27 rfl) ?_;rintro _ _ ⟨fW,rfl,rfl⟩;refine O.nil<|S.seq<|S.d_ (A:=obj b3 42 [.pointer (some ⟨b,0,none⟩)]) ai fun g hs hm ⟨_,x',s'⟩=>?_;have h3:=(fun s x=>(gf x).mono s) s' x';clear x' s';replace hg:=Fr.aH hg hs;replace hR:=bp hR hm
 try replace hT:=hT.mono hs
 try replace ha:=ha.mono hs
 clear hs hm;refine S.d_ (A:=obj b4 9 [.string (str p)]) ai fun g hs hm ⟨_,x',s'⟩=>?_;have h4:=(fun s x=>(gf x).mono s) s' x';clear x' s';replace hg:=Fr.aH hg hs;replace hR:=bp hR hm
 try replace hT:=hT.mono hs
 try replace ha:=ha.mono hs
 try replace h3:=h3.mono hs
 clear hs hm;refine S.d_ (A:=obj gU 104 [.slice a1 a.length c1]) ai fun g hs hm ⟨_,x',s'⟩=>?_;have h5:=(fun s x=>(gf x).mono s) s' x';clear x' s';replace hg:=Fr.aH hg hs;replace hR:=bp hR hm
 try replace hT:=hT.mono hs
 try replace ha:=ha.mono hs
 try replace h3:=h3.mono hs
 try replace h4:=h4.mono hs
 clear hs hm;refine S.region rfl<|O.aM (.p rfl) (.JH (T:=ag.cells 2) (c:=2) underlying25 lp rfl rfl rfl rfl aC aC) ?_;rintro _ _ ⟨k9,nZ,rfl,rfl⟩;refine O.q 1 rfl<|O.nil<|S.seq<|S.seq<|S.cB (A:=cH (en cD) 31 (.slice k9 0 nZ) []) (bs:=[av (ag.cells 2) 31 (.slice k9 0 nZ) []]) bf (fun m h=>S5 rfl h) ?_
 by_cases h2:2≤a.length∧p.length<510
 ·obtain ⟨k,hk⟩:∃ k,n=k+1:=⟨n - 1,by omega⟩
  have hsk:wv d s L k:=hs k hk;have hx:=FT (L:=L) (p:=p) ah h2.2;have HV:=qn hT.ok (p++[48]);have HW:=qn hT.ok (p++[49]);rw [hx] at hR;refine S.region rfl<|O.op (.p rfl) (.loadAt ny rfl h5 rfl) ?_;refine O.op (.p rfl) (.len rfl underlying104 rfl)<|O.op (.p rfl) (.lss rfl rfl)<|O.aN 14 rfl (by exact decide_eq_false ah) ?_;refine O.q 1 rfl<|O.op (.g rfl rfl) (.loadAt bL rfl h4 rfl) ?_;refine O.op (.g rfl rfl) (.c6 rfl underlying9 rfl)<|O.op (.g rfl rfl) (.eql rfl rfl)<|O.aN 18 rfl (by exact decide_eq_false ah) ?_;refine O.q 1 rfl<|O.nil<|S.aQ rfl<|S.skip<|S.seq<|S.block<|S.seq<|S.region rfl<|O.op (.p rfl) (.loadAt ny rfl h5 rfl) ?_;refine O.op (.p rfl) (.len rfl underlying104 rfl)<|O.op (.p rfl) (.eql rfl rfl)<|O.aN 53 rfl (by exact decide_eq_false ah) ?_;refine O.q 1 rfl<|O.nil<|S.aQ rfl<|S.seq<|S.region rfl<|O.op (.p rfl) (.loadAt ny rfl h5 rfl) ?_;refine O.op (.p rfl) (.len rfl underlying104 rfl)<|O.op (.p rfl) (.eql rfl rfl)<|O.aN 58 rfl (by exact decide_eq_false ah) ?_;refine O.q 1 rfl<|O.nil<|S.aQ rfl<|S.seq<|S.region rfl<|O.op (.p rfl) (.loadAt bL rfl h4 rfl) ?_;refine O.op (.p rfl) (.c6 rfl underlying9 rfl)<|O.op (.p rfl) (.eql rfl rfl)<|O.aN 64 rfl (by exact decide_eq_false ah) ?_
  refine O.q 1 rfl<|O.nil<|S.aQ rfl<|S.skip<|S.inBlock<|S.seq<|S.region rfl<|O.op (.p rfl) (.jc rfl rfl)<|O.q 1 rfl<|O.nil<|S.seq<|S.region rfl<|O.q 1 rfl<|O.bM (.p rfl) rfl aa rfl rfl ai (Ii hsk (.inl rfl) hT ah hp ha dm hal od h3 h4 h5) ?_;rintro _ _ ⟨Gs,GW,rfl,rfl⟩
  try simp only [an,aq,au]
  refine O.q 1 rfl<|O.bM (.p rfl) rfl aa rfl rfl ai (Ii hsk (.inr rfl) hT ah hp ha dm hal od h3 h4 h5) ?_;rintro _ _ ⟨L4,MR,rfl,rfl⟩
  try simp only [an,aq,au]
  refine O.op (.p rfl) (.build (cs:=[_,_,_,_]) underlying27 rfl rfl rfl rfl rfl)<|O.bu rfl (.cZ aa rfl rfl rfl rfl ai aW) ?_;refine O.nil<|S.r9 (en cD) 31 ?_;refine S.vX results99 isAgg27 aa rfl ai fun w hw=>Holds.end_ hR hw ?_;exact pk ⟨Gs,GW,L4,MR,none,0,by rw [HV,HW];rfl,by rw [HV,HW]⟩
 ·have hall:a.length<2∨p.length=510:=by omega
  obtain ⟨lv,hlv⟩:∃ lv,lv=gi L a:=⟨_,rfl⟩;have O0:lv.length=a.length:=by rw [hlv];exact yU dm
  have tE:∀ i (h:i<a.length) (h' :i<lv.length),lv[i]=L[a[i]]'(dm _ (List.getElem_mem h)):=by subst hlv;exact fun i h h' =>GD dm i h
  have om:dO p L=lv:=by rw [hlv,od]
  refine S.zc (fun (v:Option Addr × Nat)=>True) (fun (v:Option Addr × Nat)=>[(7,.slice v.1 lv.length v.2)]) [(3,_),(4,_),(5,_),(6,_)] (fun (v:Option Addr × Nat)=>[cH (en cD) 31 (.slice v.1 lv.length v.2) lv,obj fW 27 [.int .u8 0,.slice none 0 0,.slice none 0 0,.slice none 0 0],bl aJ d b s L]) (.cons rfl (.cons rfl (.cons rfl (.cons rfl (.nil))))) (fun key=>?_) (fun v hx=>?_)
  ·have aX:=cL (g:=g)
   by_cases q2:a.length<2
   ·
    refine S.region rfl<|O.op (.p rfl) (.loadAt ny rfl h5 rfl) ?_;refine O.op (.p rfl) (.len rfl underlying104 rfl)<|O.op (.p rfl) (.lss rfl rfl)<|O.sT 14 rfl (by exact decide_eq_true ah) ?_;refine O.q 5 rfl<|O.nil<|S.bx rfl<|S.seq<|S.region rfl<|O.op (.p rfl) (.loadAt ny rfl h5 rfl) ?_;refine O.op (.p rfl) (.len rfl underlying104 rfl)<|O.q 1 rfl<|O.nil<|S.block<|S.jT (ι:=Nat) (dI:=Option Addr × Nat) (fun i u=>i≤a.length) (fun i u=>[(22,.int .i64 (i:Int)),(7,.slice u.1 (lv.take i).length u.2)]) [(3,_),(4,_),(5,_),(6,_),(20,_),(21,_)] (fun i u=>[cH (en cD) 31 (.slice u.1 (lv.take i).length u.2) (lv.take i),obj fW 27 [.int .u8 0,.slice none 0 0,.slice none 0 0,.slice none 0 0],bl aJ d b s L]) (fun i u=>a.length - i) (0) ((k9,nZ)) bI (.cons rfl (.cons rfl (.nil))) (.cons rfl (.cons rfl (.cons rfl (.cons rfl (.cons rfl (.cons rfl (.nil))))))) rfl fun i u hx ih=>?_;have hm2:=cL (g:=g);refine S.seq<|S.region rfl<|O.op (.p rfl) (.lss rfl rfl)<|O.nil (S.seq ?_)
    first|refine S.cc rfl (fun h23=>?_) (fun h23=>?_)|refine S.b7 rfl (fun h23=>?_) (fun h23=>?_)
    ·have hi:i<a.length:=by omega
     have kJ:i<lv.length:=by omega
     have iZ:=dm _ (List.getElem_mem hi);have hbL:L.length≤10000000:=hT.small.1;have p8:=hT.small.2 _ (List.getElem_mem iZ);have iG:=(hT.ok.1 _ (List.getElem_mem iZ)).1;have Dy:cG ((a[i]:Nat):Int):=⟨by omega,by omega⟩;have Dx:=tE i hi kJ;have eU:lv.take i++[lv[i]]=lv.take (i+1):=(List.take_succ_eq_append_getElem kJ).symm;have jF:(lv.take i).length=i:=by simp;omega
     have xM:(lv.take (i+1)).length=i+1:=by simp;omega
     have fq:=hg;have fp:=hR
     try have qK:=hT
     try have nF:=ha
     try have CU:=h3
     try have CY:=h4
     try have C0:=h5
     refine S.iD (B:=bl aJ d b s L) ai fun go cI ⟨qf,hmo,jE⟩ eT=>?_;replace hg:=Fr.aH hg cI;replace hR:=iy hR eT
     try replace hT:=hT.mono cI
     try replace ha:=ha.mono cI
     try replace h3:=h3.mono cI
     try replace h4:=h4.mono cI
     try replace h5:=h5.mono cI
     have hA:=bl.a hT.hd jE hmo;obtain ⟨cO,cQ,cz,cA,mid,tv,tr,H6⟩:=hA;refine S.x3 (G:=en cD) (k' :=2) rfl ai fun ak eb=>?_;refine S.skip<|S.seq<|S.block<|S.seq<|S.region rfl<|O.b8 (.p rfl) underlying104 uq rfl rfl rfl (by first|assumption|exact aj.mono hg zE|exact aj.left zE|exact aj.left (aj.mono hg zE)) (h:=fun yj wR mb pz=>?_);obtain ⟨rfl,Q7⟩:=pz;refine O.op (.p rfl) (.loadAt cv rfl mb rfl) ?_;refine O.slot 25 (v' :=.int .i64 ((a[i]:Nat):Int)) rfl aK ?_;refine O.q 1 rfl<|O.nil ?_;rw [← eb];refine S.bB (L:=[0,1,2,3,4,5,6,7,8,9,10,11,12,13,14,15,16,17,18,19,20,21,22,23]) bA aa ?_;refine af.q 1 rfl<|.quiet (.p rfl) rfl (fun _=>.loadAt o8 rfl h3 rfl) ?_;refine .quiet (.p rfl) rfl (fun _=>.nilCheck rfl)<|.quiet (.p rfl) rfl (fun _=>.fieldAddr lz rfl)<|.quiet (.p rfl) rfl (fun _=>.fieldAddr gN rfl)<|.quiet (.p rfl) rfl (fun _=>.loadAt dK rfl tv rfl) ?_;refine af.q 1 rfl<|af.b8 (.p rfl) underlying25 di rfl rfl (show _=(((a[i]):Nat):Int) by omega) (tr) (h:=fun E7 Cj tK tN=>?_);obtain ⟨l1,m1,rfl,l2,l3⟩:=bW.sh tN;refine .quiet (.p rfl) rfl (fun _=>.fieldAddr eA rfl)<|.quiet (.p rfl) rfl (fun _=>.loadAt bL rfl tK rfl) ?_;refine .quiet (.p rfl) rfl (fun _=>.loadAt o8 rfl h3 rfl) ?_
     refine .quiet (.p rfl) rfl (fun _=>.nilCheck rfl)<|.quiet (.p rfl) rfl (fun _=>.fieldAddr lz rfl)<|.quiet (.p rfl) rfl (fun _=>.fieldAddr gN rfl)<|.quiet (.p rfl) rfl (fun _=>.loadAt dK rfl tv rfl) ?_;refine af.q 1 rfl<|af.b8 (.p rfl) underlying25 di rfl rfl (show _=(((a[i]):Nat):Int) by omega) (tr) (h:=fun T7 Nv DV Ee=>?_);obtain ⟨l4,m4,rfl,Jo,Ag⟩:=bW.sh Ee;refine .quiet (.p rfl) rfl (fun _=>.fieldAddr fG rfl)<|.quiet (.p rfl) rfl (fun _=>.loadAt ew rfl (DV.drop 1) rfl) ?_;refine af.aB (.p rfl) aa rfl aa rfl rfl ((yg Ag iG.2.1 ah)) ?_;rintro _ _ ⟨a45,wL,rfl,rfl⟩
     try simp only [an,aq,au]
     refine .quiet (.p rfl) rfl (fun _=>.build (cs:=[_,_]) underlying31 rfl rfl rfl rfl rfl)<|af.ct (T:=(ag.cells 2)) (ys:=[_]) (.p rfl) aa underlying25 lp aC rfl rfl ⟨⟨rfl,rfl,by first|(simp;done)|(intro v hv;simp [Value.cells] at hv;rcases hv with rfl|rfl<;>rfl)|(refine List.forall_mem_cons.2 ⟨rfl,?_⟩;repeat (first|exact (fun _ h=>absurd h List.not_mem_nil)|refine List.forall_mem_cons.2 ⟨rfl,?_⟩))⟩,trivial⟩ aC (fun wC wM=>?_);refine af.gT (.p rfl) aa (T:=(ag.cells 2)) underlying25 lp aC rfl rfl ai ai bJ bJ (fun rB rH=>?_);refine af.q 1 rfl<|aI.nil<|S.inBlock<|S.back eT ?_;replace hg:=fq;replace hR:=fp
     try replace hT:=qK
     try replace ha:=nF
     try replace h3:=CU
     try replace h4:=CY
     try replace h5:=C0
     clear fq fp;rw [Dx] at eU;refine S.cB (A:=(en cD).own [.string (str (L[a[i]]'iZ).1),.slice a45 (L[a[i]]'iZ).2.1.length wL] ((L[a[i]]'iZ).1,(L[a[i]]'iZ).2.1,())) (bs:=[cH (ef cD) 102 (.slice a45 (L[a[i]]'iZ).2.1.length wL) (L[a[i]]'iZ).2.1]) bf (fun m h=>en.mk (by have:=iG.1.2;omega) h) ?_;refine S.x4 (G:=en cD) (k' :=2) rfl ai ai ai ?_;rw [show ((L[a[i]]'iZ).1,(L[a[i]]'iZ).2.1,())=L[a[i]]'iZ from rfl,eU];refine S.slot 7 (v' :=.slice rB (lv.take (i+1)).length rH) rfl (by rw [eb,jF,xM];rfl) ?_;simp only [List.length_singleton];rw [show ak.length+1=(lv.take (i+1)).length by omega];refine S.region rfl<|O.op (.p rfl) (.add rfl rfl (IntWalk.i64_in _ ah))<|O.q 1 rfl<|O.nil ?_;exact S.pw (ih (i+1) ((rB,rH)) ah ah)
    ·clear ih
     have hi:i=a.length:=by omega
     subst hi;rw [List.take_of_length_le ah];refine S.exit rfl<|S.pk ?_ (S.weaken ?_ (key (u) (by trivial)))
     ·repeat (first|exact aS|exact aU|(apply aT;focus (repeat (first|exact aR|apply zt)))|apply aV)
     repeat (first|exact Sub.nil|refine Sub.cons rfl ?_)
   ·
    refine S.region rfl<|O.op (.p rfl) (.loadAt ny rfl h5 rfl) ?_;refine O.op (.p rfl) (.len rfl underlying104 rfl)<|O.op (.p rfl) (.lss rfl rfl)<|O.aN 14 rfl (by exact decide_eq_false ah) ?_;refine O.q 1 rfl<|O.op (.g rfl rfl) (.loadAt bL rfl h4 rfl) ?_;refine O.op (.g rfl rfl) (.c6 rfl underlying9 rfl)<|O.op (.g rfl rfl) (.eql rfl rfl)<|O.sT 18 rfl (by exact decide_eq_true ah) ?_;refine O.q 1 rfl<|O.nil<|S.bx rfl<|S.seq<|S.region rfl<|O.op (.p rfl) (.loadAt ny rfl h5 rfl) ?_;refine O.op (.p rfl) (.len rfl underlying104 rfl)<|O.q 1 rfl<|O.nil<|S.block<|S.jT (ι:=Nat) (dI:=Option Addr × Nat) (fun i u=>i≤a.length) (fun i u=>[(22,.int .i64 (i:Int)),(7,.slice u.1 (lv.take i).length u.2)]) [(3,_),(4,_),(5,_),(6,_),(20,_),(21,_)] (fun i u=>[cH (en cD) 31 (.slice u.1 (lv.take i).length u.2) (lv.take i),obj fW 27 [.int .u8 0,.slice none 0 0,.slice none 0 0,.slice none 0 0],bl aJ d b s L]) (fun i u=>a.length - i) (0) ((k9,nZ)) bI (.cons rfl (.cons rfl (.nil))) (.cons rfl (.cons rfl (.cons rfl (.cons rfl (.cons rfl (.cons rfl (.nil))))))) rfl fun i u hx ih=>?_;have hm2:=cL (g:=g);refine S.seq<|S.region rfl<|O.op (.p rfl) (.lss rfl rfl)<|O.nil (S.seq ?_)
    first|refine S.cc rfl (fun h23=>?_) (fun h23=>?_)|refine S.b7 rfl (fun h23=>?_) (fun h23=>?_)
    ·have hi:i<a.length:=by omega
     have kJ:i<lv.length:=by omega
     have iZ:=dm _ (List.getElem_mem hi);have hbL:L.length≤10000000:=hT.small.1;have p8:=hT.small.2 _ (List.getElem_mem iZ);have iG:=(hT.ok.1 _ (List.getElem_mem iZ)).1;have Dy:cG ((a[i]:Nat):Int):=⟨by omega,by omega⟩;have Dx:=tE i hi kJ;have eU:lv.take i++[lv[i]]=lv.take (i+1):=(List.take_succ_eq_append_getElem kJ).symm;have jF:(lv.take i).length=i:=by simp;omega
     have xM:(lv.take (i+1)).length=i+1:=by simp;omega
     have fq:=hg;have fp:=hR
     try have qK:=hT
     try have nF:=ha
     try have CU:=h3
     try have CY:=h4
     try have C0:=h5
     refine S.iD (B:=bl aJ d b s L) ai fun go cI ⟨qf,hmo,jE⟩ eT=>?_;replace hg:=Fr.aH hg cI;replace hR:=iy hR eT
     try replace hT:=hT.mono cI
     try replace ha:=ha.mono cI
     try replace h3:=h3.mono cI
     try replace h4:=h4.mono cI
     try replace h5:=h5.mono cI
     have hA:=bl.a hT.hd jE hmo;obtain ⟨cO,cQ,cz,cA,mid,tv,tr,H6⟩:=hA;refine S.x3 (G:=en cD) (k' :=2) rfl ai fun ak eb=>?_;refine S.skip<|S.seq<|S.block<|S.seq<|S.region rfl<|O.b8 (.p rfl) underlying104 uq rfl rfl rfl (by first|assumption|exact aj.mono hg zE|exact aj.left zE|exact aj.left (aj.mono hg zE)) (h:=fun yj wR mb pz=>?_);obtain ⟨rfl,Q7⟩:=pz;refine O.op (.p rfl) (.loadAt cv rfl mb rfl) ?_;refine O.slot 25 (v' :=.int .i64 ((a[i]:Nat):Int)) rfl aK ?_;refine O.q 1 rfl<|O.nil ?_;rw [← eb];refine S.bB (L:=[0,1,2,3,4,5,6,7,8,9,10,11,12,13,14,15,16,17,18,19,20,21,22,23]) bA aa ?_;refine af.q 1 rfl<|.quiet (.p rfl) rfl (fun _=>.loadAt o8 rfl h3 rfl) ?_;refine .quiet (.p rfl) rfl (fun _=>.nilCheck rfl)<|.quiet (.p rfl) rfl (fun _=>.fieldAddr lz rfl)<|.quiet (.p rfl) rfl (fun _=>.fieldAddr gN rfl)<|.quiet (.p rfl) rfl (fun _=>.loadAt dK rfl tv rfl) ?_;refine af.q 1 rfl<|af.b8 (.p rfl) underlying25 di rfl rfl (show _=(((a[i]):Nat):Int) by omega) (tr) (h:=fun E7 Cj tK tN=>?_);obtain ⟨l1,m1,rfl,l2,l3⟩:=bW.sh tN;refine .quiet (.p rfl) rfl (fun _=>.fieldAddr eA rfl)<|.quiet (.p rfl) rfl (fun _=>.loadAt bL rfl tK rfl) ?_;refine .quiet (.p rfl) rfl (fun _=>.loadAt o8 rfl h3 rfl) ?_
     refine .quiet (.p rfl) rfl (fun _=>.nilCheck rfl)<|.quiet (.p rfl) rfl (fun _=>.fieldAddr lz rfl)<|.quiet (.p rfl) rfl (fun _=>.fieldAddr gN rfl)<|.quiet (.p rfl) rfl (fun _=>.loadAt dK rfl tv rfl) ?_;refine af.q 1 rfl<|af.b8 (.p rfl) underlying25 di rfl rfl (show _=(((a[i]):Nat):Int) by omega) (tr) (h:=fun T7 Nv DV Ee=>?_);obtain ⟨l4,m4,rfl,Jo,Ag⟩:=bW.sh Ee;refine .quiet (.p rfl) rfl (fun _=>.fieldAddr fG rfl)<|.quiet (.p rfl) rfl (fun _=>.loadAt ew rfl (DV.drop 1) rfl) ?_;refine af.aB (.p rfl) aa rfl aa rfl rfl ((yg Ag iG.2.1 ah)) ?_;rintro _ _ ⟨a45,wL,rfl,rfl⟩
     try simp only [an,aq,au]
     refine .quiet (.p rfl) rfl (fun _=>.build (cs:=[_,_]) underlying31 rfl rfl rfl rfl rfl)<|af.ct (T:=(ag.cells 2)) (ys:=[_]) (.p rfl) aa underlying25 lp aC rfl rfl ⟨⟨rfl,rfl,by first|(simp;done)|(intro v hv;simp [Value.cells] at hv;rcases hv with rfl|rfl<;>rfl)|(refine List.forall_mem_cons.2 ⟨rfl,?_⟩;repeat (first|exact (fun _ h=>absurd h List.not_mem_nil)|refine List.forall_mem_cons.2 ⟨rfl,?_⟩))⟩,trivial⟩ aC (fun wC wM=>?_);refine af.gT (.p rfl) aa (T:=(ag.cells 2)) underlying25 lp aC rfl rfl ai ai bJ bJ (fun rB rH=>?_);refine af.q 1 rfl<|aI.nil<|S.inBlock<|S.back eT ?_;replace hg:=fq;replace hR:=fp
     try replace hT:=qK
     try replace ha:=nF
     try replace h3:=CU
     try replace h4:=CY
     try replace h5:=C0
     clear fq fp;rw [Dx] at eU;refine S.cB (A:=(en cD).own [.string (str (L[a[i]]'iZ).1),.slice a45 (L[a[i]]'iZ).2.1.length wL] ((L[a[i]]'iZ).1,(L[a[i]]'iZ).2.1,())) (bs:=[cH (ef cD) 102 (.slice a45 (L[a[i]]'iZ).2.1.length wL) (L[a[i]]'iZ).2.1]) bf (fun m h=>en.mk (by have:=iG.1.2;omega) h) ?_;refine S.x4 (G:=en cD) (k' :=2) rfl ai ai ai ?_;rw [show ((L[a[i]]'iZ).1,(L[a[i]]'iZ).2.1,())=L[a[i]]'iZ from rfl,eU];refine S.slot 7 (v' :=.slice rB (lv.take (i+1)).length rH) rfl (by rw [eb,jF,xM];rfl) ?_;simp only [List.length_singleton];rw [show ak.length+1=(lv.take (i+1)).length by omega];refine S.region rfl<|O.op (.p rfl) (.add rfl rfl (IntWalk.i64_in _ ah))<|O.q 1 rfl<|O.nil ?_;exact S.pw (ih (i+1) ((rB,rH)) ah ah)
    ·clear ih
     have hi:i=a.length:=by omega
     subst hi;rw [List.take_of_length_le ah];refine S.exit rfl<|S.pk ?_ (S.weaken ?_ (key (u) (by trivial)))
     ·repeat (first|exact aS|exact aU|(apply aT;focus (repeat (first|exact aR|apply zt)))|apply aV)
     repeat (first|exact Sub.nil|refine Sub.cons rfl ?_)
  ·
   by_cases q0:a.length=0
   ·have hx:=FP (L:=L) (p:=p) (List.eq_nil_of_length_eq_zero ah)
    have hl0:lv=[]:=List.eq_nil_of_length_eq_zero ah;rw [hx] at hR;refine S.seq<|S.block<|S.seq<|S.region rfl<|O.op (.p rfl) (.loadAt ny rfl h5 rfl) ?_;refine O.op (.p rfl) (.len rfl underlying104 rfl)<|O.op (.p rfl) (.eql rfl rfl)<|O.sT 53 rfl (by exact decide_eq_true ah) ?_;refine O.q 1 rfl<|O.nil<|S.bx rfl<|S.seq<|S.region rfl<|O.op (.p rfl) (.build (cs:=[_,_,_,_]) underlying27 rfl rfl rfl rfl rfl)<|O.bu rfl (.cZ aa rfl rfl rfl rfl ai aW) ?_;refine O.nil<|S.r9 (en cD) 31 ?_;refine S.gh (T:=ag.u8) (e:=5) ?_;refine S.gh (T:=ag.u8) (e:=5) ?_;refine S.vX results99 isAgg27 aa rfl ai fun w hw=>Holds.end_ hR hw ?_;exact pk ⟨none,0,none,0,none,0,rfl,rfl⟩
   ·by_cases q1:a.length=1
    ·obtain ⟨x,hx1⟩:=List.length_eq_one_iff.1 (show lv.length=1 by omega)
     have hx:=FQ (L:=L) (p:=p) (x:=x) (by rw [om,hx1]);subst hx1;rw [hx] at hR;refine S.seq<|S.block<|S.seq<|S.region rfl<|O.op (.p rfl) (.loadAt ny rfl h5 rfl) ?_;refine O.op (.p rfl) (.len rfl underlying104 rfl)<|O.op (.p rfl) (.eql rfl rfl)<|O.aN 53 rfl (by exact decide_eq_false ah) ?_;refine O.q 1 rfl<|O.nil<|S.aQ rfl<|S.seq<|S.region rfl<|O.op (.p rfl) (.loadAt ny rfl h5 rfl) ?_;refine O.op (.p rfl) (.len rfl underlying104 rfl)<|O.op (.p rfl) (.eql rfl rfl)<|O.sT 58 rfl (by exact decide_eq_true ah) ?_;refine O.q 1 rfl<|O.nil<|S.bx rfl<|S.seq<|S.region rfl<|O.q 1 rfl<|O.op (.p rfl) (.build (cs:=[_,_,_,_]) underlying27 rfl rfl rfl rfl rfl)<|O.bu rfl (.cZ aa rfl rfl rfl rfl ai aW) ?_;refine O.nil<|S.gh (T:=ag.u8) (e:=5) ?_;refine S.gh (T:=ag.u8) (e:=5) ?_;refine S.vX results99 isAgg27 aa rfl ai fun w hw=>Holds.end_ hR hw ?_;exact pk ⟨none,0,none,0,v.1,v.2,rfl,rfl⟩
    ·have hx:=Ll (L:=L) (p:=p) ah ah
     rw [om] at hx;rw [hx] at hR;refine S.seq<|S.block<|S.seq<|S.region rfl<|O.op (.p rfl) (.loadAt ny rfl h5 rfl) ?_;refine O.op (.p rfl) (.len rfl underlying104 rfl)<|O.op (.p rfl) (.eql rfl rfl)<|O.aN 53 rfl (by exact decide_eq_false ah) ?_;refine O.q 1 rfl<|O.nil<|S.aQ rfl<|S.seq<|S.region rfl<|O.op (.p rfl) (.loadAt ny rfl h5 rfl) ?_;refine O.op (.p rfl) (.len rfl underlying104 rfl)<|O.op (.p rfl) (.eql rfl rfl)<|O.aN 58 rfl (by exact decide_eq_false ah) ?_;refine O.q 1 rfl<|O.nil<|S.aQ rfl<|S.seq<|S.region rfl<|O.op (.p rfl) (.loadAt bL rfl h4 rfl) ?_;refine O.op (.p rfl) (.c6 rfl underlying9 rfl)<|O.op (.p rfl) (.eql rfl rfl)<|O.sT 64 rfl (by exact decide_eq_true ah) ?_;refine O.q 1 rfl<|O.nil<|S.bx rfl<|S.seq<|S.region rfl<|O.q 1 rfl<|O.op (.p rfl) (.build (cs:=[_,_,_,_]) underlying27 rfl rfl rfl rfl rfl)<|O.bu rfl (.cZ aa rfl rfl rfl rfl ai aW) ?_;refine O.nil<|S.gh (T:=ag.u8) (e:=5) ?_;refine S.gh (T:=ag.u8) (e:=5) ?_;refine S.vX results99 isAgg27 aa rfl ai fun w hw=>Holds.end_ hR hw ?_;exact pk ⟨none,0,none,0,v.1,v.2,rfl,rfl⟩
theorem EU {d:Fr} {s:Nat} {L:List aG}:∀ n,Bz d s L n
 |0=>JZ fun k hk=>by omega
 |n+1=>JZ fun k hk=>by
  have e:k=n:=by omega
  subst e;exact Lc (EU k)
theorem WJ {d:Fr} {s:Nat} {L:List aG} (n:Nat):wv d s L n:=Lc (EU n)
noncomputable def jX (L:List aG) (p:List UInt8):List UInt8:=if js p then bZ L p else []
theorem v8 {r d:Fr} {b s:Nat} {L:List aG} {p:List UInt8} (hT:gK r d s L) (hl:p.length≤9223372036854775807) :
  ay prog 33 #[.pointer (some ⟨b,0,none⟩),.string (str p)] r [bl aJ d b s L] (aL fun v U=>∃ a c,v=.slice a (jX L p).length c∧U=[bl aJ d b s L,av ag.u8 5 (.slice a (jX L p).length c) (jX L p)]):=by
 refine ay.of (n:=26) _ rfl func33 rfl rfl rfl fun g hg R hR=>?_;have hT:=hT.mono hg;have hbL:L.length≤10000000:=hT.small.1
 by_cases hp:js p
 ·have e:jX L p=bZ L p:=by unfold jX;rw [if_pos hp]
  have iE:=qn hT.ok p;have mO:=hp.1;have om:=Be L p (List.range L.length);rw [List.length_range] at om;have od:gi L (fC L p (List.range L.length))=dO p L:=by rw [yV L p _ (vV L),Ko]
  rw [e] at hR;refine S.seq<|S.region rfl<|O.q 1 rfl<|O.nil<|S.seq<|S.seq<|S.region rfl<|O.q 1 rfl<|O.dw (.p rfl) rfl aa rfl rfl (bs:=[bl aJ d b s L]) bf (fun m hm hd=>qm (bl.jG hT.hd hd hm)) ?_;rintro _ _ ⟨rfl,rfl⟩
  try simp only [an,aq,au]
  refine O.sT 6 rfl aK ?_;refine O.op (.p rfl) (.not rfl)<|O.q 2 rfl<|O.aB (.g rfl rfl) rfl aa rfl rfl ((Ap hl)) ?_;rintro _ _ ⟨rfl,rfl⟩
  try simp only [an,aq,au]
  refine O.sT 10 rfl (by exact decide_eq_true hp) ?_;refine O.op (.g rfl rfl) (.not rfl)<|O.q 1 rfl<|O.nil<|S.aQ rfl<|S.skip<|S.seq<|S.bB (L:=[0,1,2,3,4,5,6,7,8,9,10,11,12,13]) bA aa<|af.q 3 rfl<|.quiet (.p rfl) rfl (fun _=>.nilCheck rfl)<|.quiet (.p rfl) rfl (fun _=>.fieldAddr lz rfl)<|af.q 2 rfl<|.quiet (.p rfl) rfl (fun _=>.nilCheck rfl)<|.quiet (.p rfl) rfl (fun _=>.fieldAddr lz rfl)<|af.dw (.p rfl) aa rfl aa rfl rfl (bs:=[bl aJ d b s L]) bf (fun m hm hd=>Gw (bl.jG hT.hd hd hm) hbL) ?_;rintro _ _ ⟨a22,ec,rfl,rfl⟩
  try simp only [an,aq,au]
  refine af.dw (.p rfl) aa rfl aa rfl rfl (bs:=[bl aJ d b s L,av ag.nat 3 (.slice a22 L.length ec) (List.range L.length)]) bf (fun m hm hd=>FW (bl.jG hT.hd hd hm) ((J_ hm).mono (Fr.dL hd)) (vV L) hl b5) ?_;rintro _ _ ⟨a23,BV,rfl,rfl⟩
  try simp only [an,aq,au]
  refine af.e7 (.p rfl) aa rfl aa rfl rfl (bs:=[bl aJ d b s L,av ag.nat 3 (.slice a23 (fC L p (List.range L.length)).length BV) (fC L p (List.range L.length))]) bf (ay.xY (U:=[bl aJ d b s L]) (bs:=[av ag.nat 3 (.slice a23 (fC L p (List.range L.length)).length BV) (fC L p (List.range L.length))]) (fun m hm hd=>WJ (510 - p.length) (hT.mono (Fr.de _ _)) ah hp ((vR hm).mono (Fr.dL hd)) (FU (vV L)) ah od)) ?_;rintro _ _ ⟨a24,k_,rfl,rfl⟩
  try simp only [an,aq,au]
  refine af.dw (.p rfl) aa rfl aa rfl rfl (bs:=[jB aJ d b s L (.slice a24 64 k_) (bZ L p)]) bf (fun m hm hd=>eE (jB.jG hT.hd hd hm) ah) ?_;rintro _ _ ⟨a25,qy,rfl,rfl⟩
  try simp only [an,aq,au]
  refine af.q 1 rfl<|aI.nil<|S.cB (A:=bl aJ d b s L) (bs:=[jB aJ d b s L (.slice a24 64 k_) (bZ L p)]) bf (fun m h=>jB.toX h) ?_;exact S.rt results33 rfl hR ⟨a25,qy,rfl,rfl⟩
 ·have e:jX L p=[]:=by unfold jX;rw [if_neg hp]
  rw [e] at hR;refine S.seq<|S.region rfl<|O.q 1 rfl<|O.nil<|S.seq<|S.seq<|S.region rfl<|O.q 1 rfl<|O.dw (.p rfl) rfl aa rfl rfl (bs:=[bl aJ d b s L]) bf (fun m hm hd=>qm (bl.jG hT.hd hd hm)) ?_;rintro _ _ ⟨rfl,rfl⟩
  try simp only [an,aq,au]
  refine O.sT 6 rfl aK ?_;refine O.op (.p rfl) (.not rfl)<|O.q 2 rfl<|O.aB (.g rfl rfl) rfl aa rfl rfl ((Ap hl)) ?_;rintro _ _ ⟨rfl,rfl⟩
  try simp only [an,aq,au]
  refine O.aN 10 rfl (by exact decide_eq_false hp) ?_;refine O.op (.g rfl rfl) (.not rfl)<|O.q 1 rfl<|O.nil<|S.bx rfl<|S.seq<|S.region rfl<|O.q 1 rfl<|O.nil<|S.gh (T:=ag.u8) (e:=5) ?_;exact S.rt results33 rfl hR ⟨none,0,rfl,rfl⟩
abbrev JT:dJ:=(0,[],[],[],())
noncomputable def lG (L:List aG) (p:List UInt8):dJ:=if js p then bw L p else JT
noncomputable def ya (p:List UInt8):Int:=if js p then 0 else 2
theorem Lf {r d:Fr} {b s:Nat} {L:List aG} {p:List UInt8} (hT:gK r d s L) (hl:p.length≤9223372036854775807) :
  ay prog 34 #[.pointer (some ⟨b,0,none⟩),.string (str p)] r [bl aJ d b s L] (aL fun v U=>∃ a1 k1 a2 k2 a3 bg,v=.tuple #[.agg #[bD (lG L p).1,.slice a1 (lG L p).2.1.length k1,.slice a2 (lG L p).2.2.1.length k2,.slice a3 (lG L p).2.2.2.1.length bg],.int .i64 (ya p)] ∧
   U=[bl aJ d b s L,av ag.u8 5 (.slice a1 (lG L p).2.1.length k1) (lG L p).2.1,av ag.u8 5 (.slice a2 (lG L p).2.2.1.length k2) (lG L p).2.2.1,cH (en cD) 31 (.slice a3 (lG L p).2.2.2.1.length bg) (lG L p).2.2.2.1]):=by
 refine ay.of (n:=28) _ rfl func34 rfl rfl rfl fun g hg R hR=>?_;have hT:=hT.mono hg;have hbL:L.length≤10000000:=hT.small.1
 by_cases hp:js p
 ·have e:lG L p=bw L p:=by unfold lG;rw [if_pos hp]
  have e2:ya p=0:=by unfold ya;rw [if_pos hp]
  have mO:=hp.1;have om:=Be L p (List.range L.length);rw [List.length_range] at om;have od:gi L (fC L p (List.range L.length))=dO p L:=by rw [yV L p _ (vV L),Ko]
  rw [e,e2] at hR;refine S.seq<|S.region rfl<|O.aM (.p rfl) (.alloc (cs:=[.int .u8 0,.slice none 0 0,.slice none 0 0,.slice none 0 0]) zeroValue27 rfl) ?_;rintro _ _ ⟨b4,rfl,rfl⟩;refine O.q 1 rfl<|O.nil<|S.seq<|S.block<|S.seq<|S.region rfl<|O.q 1 rfl<|O.dw (.p rfl) rfl aa rfl rfl (bs:=[bl aJ d b s L]) bf (fun m hm hd=>qm (bl.jG hT.hd hd hm)) ?_;rintro _ _ ⟨rfl,rfl⟩
  try simp only [an,aq,au]
  refine O.sT 8 rfl aK ?_;refine O.op (.p rfl) (.not rfl)<|O.q 1 rfl<|O.nil<|S.aQ rfl<|S.seq<|S.region rfl<|O.q 1 rfl<|O.aB (.p rfl) rfl aa rfl rfl ((Ap hl)) ?_;rintro _ _ ⟨rfl,rfl⟩
  try simp only [an,aq,au]
  refine O.sT 13 rfl (by exact decide_eq_true hp) ?_;refine O.op (.p rfl) (.not rfl)<|O.q 1 rfl<|O.nil<|S.aQ rfl<|S.skip<|S.inBlock<|S.seq<|S.bB (L:=[0,1,2,3,4,5,6,7,8,9,10,11,12,13]) bA aa<|af.q 3 rfl<|.quiet (.p rfl) rfl (fun _=>.nilCheck rfl)<|.quiet (.p rfl) rfl (fun _=>.fieldAddr lz rfl)<|af.q 2 rfl<|.quiet (.p rfl) rfl (fun _=>.nilCheck rfl)<|.quiet (.p rfl) rfl (fun _=>.fieldAddr lz rfl)<|af.dw (.p rfl) aa rfl aa rfl rfl (bs:=[bl aJ d b s L]) bf (fun m hm hd=>Gw (bl.jG hT.hd hd hm) hbL) ?_;rintro _ _ ⟨a25,qy,rfl,rfl⟩
  try simp only [an,aq,au]
  refine af.dw (.p rfl) aa rfl aa rfl rfl (bs:=[bl aJ d b s L,av ag.nat 3 (.slice a25 L.length qy) (List.range L.length)]) bf (fun m hm hd=>FW (bl.jG hT.hd hd hm) ((J_ hm).mono (Fr.dL hd)) (vV L) hl b5) ?_;rintro _ _ ⟨a26,iA,rfl,rfl⟩
  try simp only [an,aq,au]
  refine af.e7 (.p rfl) aa rfl aa rfl rfl (bs:=[bl aJ d b s L,av ag.nat 3 (.slice a26 (fC L p (List.range L.length)).length iA) (fC L p (List.range L.length))]) bf (ay.xY (U:=[bl aJ d b s L]) (bs:=[av ag.nat 3 (.slice a26 (fC L p (List.range L.length)).length iA) (fC L p (List.range L.length))]) (fun m hm hd=>EU (510 - p.length) (hT.mono (Fr.de _ _)) ah hp ((vR hm).mono (Fr.dL hd)) (FU (vV L)) ah od)) ?_;rintro _ _ ⟨q1,d1,q2,d2,cF,d3,rfl,rfl⟩
  try simp only [an,aq,au]
  refine af.cZ rfl aa aa rfl rfl rfl rfl ai aW ?_;refine af.q 1 rfl<|aI.nil<|S.sv results34 rfl rfl ai (fS.agg isAgg27 aa) fun w hw=>Holds.end_ hR hw ?_;exact pk ⟨q1,d1,q2,d2,cF,d3,rfl,rfl⟩
 ·have e:lG L p=JT:=by unfold lG;rw [if_neg hp]
  have e2:ya p=2:=by unfold ya;rw [if_neg hp]
  rw [e,e2] at hR;refine S.seq<|S.region rfl<|O.aM (.p rfl) (.alloc (cs:=[.int .u8 0,.slice none 0 0,.slice none 0 0,.slice none 0 0]) zeroValue27 rfl) ?_;rintro _ _ ⟨b4,rfl,rfl⟩;refine O.q 1 rfl<|O.nil<|S.seq<|S.block<|S.seq<|S.region rfl<|O.q 1 rfl<|O.dw (.p rfl) rfl aa rfl rfl (bs:=[bl aJ d b s L]) bf (fun m hm hd=>qm (bl.jG hT.hd hd hm)) ?_;rintro _ _ ⟨rfl,rfl⟩
  try simp only [an,aq,au]
  refine O.sT 8 rfl aK ?_;refine O.op (.p rfl) (.not rfl)<|O.q 1 rfl<|O.nil<|S.aQ rfl<|S.seq<|S.region rfl<|O.q 1 rfl<|O.aB (.p rfl) rfl aa rfl rfl ((Ap hl)) ?_;rintro _ _ ⟨rfl,rfl⟩
  try simp only [an,aq,au]
  refine O.aN 13 rfl (by exact decide_eq_false hp) ?_;refine O.op (.p rfl) (.not rfl)<|O.q 1 rfl<|O.nil<|S.bx rfl<|S.seq<|S.region rfl<|O.op (.p rfl) (.build (cs:=[_,_,_,_]) underlying27 rfl rfl rfl rfl rfl)<|O.bu rfl (.cZ aa rfl rfl rfl rfl ai aW) ?_;refine O.q 1 rfl<|O.nil<|S.r9 (en cD) 31 ?_;refine S.gh (T:=ag.u8) (e:=5) ?_;refine S.gh (T:=ag.u8) (e:=5) ?_;refine S.sv results34 rfl rfl ai (fS.agg isAgg27 aa) fun w hw=>Holds.end_ hR hw ?_;exact pk ⟨none,0,none,0,none,0,rfl,rfl⟩
theorem FL {r d:Fr} {b s:Nat} {L:List aG} (hT:gK r d s L) (hs4:s<4) :
  ay prog 32 #[.pointer (some ⟨b,0,none⟩)] r [bl aJ d b s L] (aL fun v U=>∃ a c,v=.slice a 64 c∧U=[bl aJ d b s L,av ag.u8 5 (.slice a 64 c) (ek (s:Int) (bZ L []))]):=by
 have e:jX L []=bZ L []:=by unfold jX;rw [if_pos ⟨by simp,fun c hc=>by cases hc⟩]
 have iE:=qn hT.ok [];have ht:(ek (s:Int) (bZ L [])).length=64:=by unfold ek;rw [if_pos ⟨by omega,by omega,iE⟩,qj]
 refine ay.of (n:=13) _ rfl func32 rfl rfl rfl fun g hg R hR=>?_;have hT:=hT.mono hg;refine S.seq<|S.region rfl<|O.q 1 rfl<|O.nil<|S.seq<|S.seq<|S.region rfl<|O.q 1 rfl<|O.dw (.p rfl) rfl aa rfl rfl (bs:=[bl aJ d b s L]) bf (fun m hm hd=>qm (bl.jG hT.hd hd hm)) ?_;rintro _ _ ⟨rfl,rfl⟩
 try simp only [an,aq,au]
 refine O.sT 4 rfl aK ?_;refine O.op (.p rfl) (.not rfl)<|O.nil<|S.aQ rfl<|S.skip<|S.seq<|S.bB (L:=[0,1,2,4,3,5,6,7]) bA aa ?_;refine af.q 1 rfl<|.quiet (.p rfl) rfl (fun _=>.nilCheck rfl)<|.quiet (.p rfl) rfl (fun _=>.fieldAddr vh rfl)<|af.q 1 rfl<|af.eY 3 5 [5,6,7] [3,6,7] aa rfl rfl ?_ ?_
 ·refine bO.cu (.p rfl) aa (fun _=>.sD cv rfl ai) ?_
  refine af.bM (.p rfl) aa rfl aa rfl rfl ai (v8 (p:=[]) hT bI) ?_;rintro _ _ ⟨k9,nZ,rfl,rfl⟩
  try simp only [an,aq,au]
  rw [e,iE];refine af.dw (.p rfl) aa rfl aa rfl rfl (bs:=[av ag.u8 5 (.slice k9 64 nZ) (bZ L [])]) bf (fun m hm hd=>Bb ((vR hm).mono (Fr.dL hd)) (⟨by omega,by omega⟩:cG (s:Int)) (hT.hH.mono (Fr.de _ _)) (hT.hK.mono (Fr.de _ _)) ah) ?_;rintro _ _ ⟨a12,jO,rfl,rfl⟩
  try simp only [an,aq,au]
  rw [ht];refine af.q 1 rfl<|aI.nil ?_;exact S.rt results32 rfl hR ⟨a12,jO,rfl,rfl⟩
 ·refine bO.bM (.p rfl) aa rfl aa rfl rfl ai (v8 (p:=[]) hT bI) ?_
  rintro _ _ ⟨k9,nZ,rfl,rfl⟩
  try simp only [an,aq,au]
  rw [e,iE];refine af.cu (.p rfl) aa (fun _=>.sD cv rfl ai) ?_;refine af.dw (.p rfl) aa rfl aa rfl rfl (bs:=[av ag.u8 5 (.slice k9 64 nZ) (bZ L [])]) bf (fun m hm hd=>Bb ((vR hm).mono (Fr.dL hd)) (⟨by omega,by omega⟩:cG (s:Int)) (hT.hH.mono (Fr.de _ _)) (hT.hK.mono (Fr.de _ _)) ah) ?_;rintro _ _ ⟨a12,jO,rfl,rfl⟩
  try simp only [an,aq,au]
  rw [ht];refine af.q 1 rfl<|aI.nil ?_;exact S.rt results32 rfl hR ⟨a12,jO,rfl,rfl⟩
theorem WX {b mid s:Nat} {m:Fr} (h:Sat [obj b 77 [.slice none 0 0,.slice none 0 0,.int .i64 (s:Int),.map (some mid)],ck encS mid [] 0] m):dX aJ Fr.emp Fr.emp b s [] m:=by
 obtain ⟨m1,m2,d,s1,s2,o,m3,m4,d2,s3,pO,x,_⟩:=h;exact ⟨.slice none 0 0,.slice none 0 0,mid,[],0,⟨gL.nil,iN.nil _ _ _⟩,m1,m2,d,s1,s2,o,Fr.emp,m2,Fr.dZ _,Fr.cV _,Fr.bU _,AD,Fr.emp,m2,Fr.dZ _,Fr.cV _,Fr.bU _,AD,m3,m4,d2,s3,pO,x,trivial⟩
theorem JR {r:Fr} {s:Nat} (hs:s<4):ay prog 29 #[.int .i64 (s:Int)] r [] (aL fun v U=>∃ b mp,v=.pointer (some ⟨b,0,none⟩)∧U=[obj b 77 [.slice none 0 0,.slice none 0 0,.int .i64 (s:Int),.map (some mp)],ck encS mp [] 0]):=by
 refine ay.of (n:=13) _ rfl func29 rfl rfl rfl fun g hg R hR=>?_;refine S.seq<|S.region rfl<|O.q 1 rfl<|O.nil<|S.seq<|S.seq<|S.region rfl<|O.q 1 rfl<|O.op (.p rfl) (.lss rfl rfl)<|O.aN 4 rfl (by exact decide_eq_false ah) ?_;refine O.q 2 rfl<|O.op (.g rfl rfl) (.geq rfl rfl)<|O.aN 7 rfl (by exact decide_eq_false ah) ?_;refine O.q 1 rfl<|O.nil<|S.aQ rfl<|S.skip<|S.seq<|S.region rfl<|O.q 1 rfl<|O.aM (.p rfl) (.pK (enc:=encS)) ?_;rintro _ _ ⟨wF,rfl,rfl⟩;refine O.op (.p rfl) (.build (cs:=[_,_,_,_]) underlying77 rfl rfl rfl rfl rfl)<|O.aM (.p rfl) (.box (cs:=[_,_,_,_]) rfl rfl) ?_;rintro _ _ ⟨nr,rfl,rfl⟩;refine O.q 1 rfl<|O.nil ?_;exact S.rt results29 rfl hR ⟨nr,wF,rfl,rfl⟩
theorem To {r:Fr} {s:Nat} (hs:s<4):ay prog 29 #[.int .i64 (s:Int)] r [] (aL fun v U=>∃ b,v=.pointer (some ⟨b,0,none⟩)∧U=[dX aJ Fr.emp Fr.emp b s []]) :=
 ay.post (JR hs) fun e ax h w g hw=>by
  cases e with
  |returned v =>
   obtain ⟨b,mp,rfl,rfl⟩:=h;exact ⟨[dX aJ Fr.emp Fr.emp b s []],⟨b,rfl,rfl⟩,hw.imp fun m h=>⟨m,Fr.emp,Fr.eZ (Fr.dZ _),Fr.bU _,Fr.cV _,WX h,trivial⟩⟩
  |panicked _=>exact h.elim
  |outgrown=>exact h.elim
theorem F1 {d:Fr} {g:Fr} {b s mid c:Nat} {L:List aG} {c8 c9:Value} {M:List (cg (List UInt8))} {m:Fr} (wf:gL M c) (ok:iN d Fr.emp L M) (hd:d.sub g) (hm:g.cR m)
  (h:Sat (bP.qs aJ b s (⟨Fr.emp,c8,c9,mid,M,c,wf,ok⟩:bP d L)) m):kC (g.add m) b s L :=
 dX.a (k:=Fr.emp) (Fr.aH hd (Fr.de _ _)) (Fr.cV _) (Fr.dL hm) (dX.fold ⟨Fr.emp,c8,c9,mid,M,c,wf,ok⟩ h)
theorem JG {d:Fr} {b s mid c:Nat} {L:List aG} {M:List (cg (List UInt8))} {c8 c9:Value} {m:Fr} (wf:gL M c) (ok:iN d Fr.emp L M)
  (h:Sat [cH (en cD) 31 c8 L,obj b 77 [c8,c9,.int .i64 (s:Int),.map (some mid)],av ag.str 9 c9 (L.map fun y=>bS y.1),ck encS mid M c] m):bl aJ d b s L m:=bl.made (dB:=cD) (aO:=aJ) wf ok h
set_option maxHeartbeats 400000 in
theorem WM {r d:Fr} {b s:Nat} {L:List aG} (hT:gK r d s L) (hs4:s<4) :
  ay prog 41 #[.pointer (some ⟨b,0,none⟩)] r [dX aJ d Fr.emp b s L] (aL fun v U=>∃ b',v=.pointer (some ⟨b',0,none⟩)∧U=[dX aJ d Fr.emp b s L,bl aJ d b' s L]):=by
 have hbL:L.length≤10000000:=hT.small.1;refine ay.of (n:=43) _ rfl func41 rfl rfl rfl fun g hg R hR=>?_;have hT:=hT.mono hg;refine S.open (bs:=fun x:{x:bP d L // x.k=Fr.emp}=>x.1.qs aJ b s) .here (fun m h=>dX.jq h) fun ⟨x,QZ⟩=>?_;obtain ⟨k,c8,c9,mid,M,dY,wf,ok⟩:=x;have hk:k=Fr.emp:=QZ;subst hk;simp only [bP.qs,List.cons_append,List.nil_append];refine S.lV (.there .here) (fun _ y=>y.shape) fun ⟨cO,cQ,hL⟩=>?_;refine S.lV (.there (.there .here)) (fun _ y=>y.shape) fun ⟨cz,cA,hW⟩=>?_;rw [List.length_map] at hW;subst hL hW;have hml:(L.map fun y=>bS y.1).length=L.length:=List.length_map ..;refine S.seq<|S.region rfl<|O.q 1 rfl<|O.nil<|S.seq<|S.seq<|S.region rfl<|O.q 1 rfl<|O.dw (.p rfl) rfl aa rfl rfl (bs:=bP.qs aJ b s (⟨Fr.emp,.slice cO L.length cQ,.slice cz L.length cA,mid,M,dY,wf,ok⟩:bP d L)) bf (fun m hm hd=>qm (F1 wf ok hT.hd hd hm)) ?_;rintro _ _ ⟨rfl,rfl⟩
 try simp only [an,aq,au]
 refine O.sT 7 rfl aK ?_;refine O.op (.p rfl) (.not rfl)<|O.nil<|S.aQ rfl<|S.skip<|S.seq<|S.region rfl<|O.q 1 rfl<|O.op (.p rfl) (.nilCheck rfl)<|O.op (.p rfl) (.aD vh rfl)<|O.op (.p rfl) (.lo cv) ?_;refine O.aB (.p rfl) rfl aa rfl rfl ((JR hs4)) ?_;rintro _ _ ⟨nX,m13,rfl,rfl⟩
 try simp only [an,aq,au]
 refine O.q 1 rfl<|O.nil<|S.seq<|S.bB (L:=[0,1,3,4,5,6,2,7,8,9,10,11,12]) bA aa ?_;refine af.q 3 rfl<|.quiet (.p rfl) rfl (fun _=>.nilCheck rfl)<|.quiet (.p rfl) rfl (fun _=>.aD lz rfl)<|.quiet (.p rfl) rfl (fun _=>.aD jP rfl)<|af.eY 2 7 [7,8,9,10,11,12] [2,8,9,10,11,12] aa rfl rfl ?_ ?_
 ·refine bO.dw (.p rfl) aa rfl aa rfl rfl (bs:=bP.qs aJ b s (⟨Fr.emp,.slice cO L.length cQ,.slice cz L.length cA,mid,M,dY,wf,ok⟩:bP d L)) bf (fun m hm hd=>Le (F1 wf ok hT.hd hd hm) hT.ok hT.small) ?_
  rintro _ _ ⟨ei,ej,rfl,rfl⟩
  try simp only [an,aq,au]
  refine af.cu (.p rfl) aa (fun _=>.cS e8 aK ai aK) ?_;refine af.dw (.p rfl) aa rfl aa rfl rfl (bs:=[av ag.str 9 (.slice cz L.length cA) (L.map fun y=>bS y.1)]) bf (fun m hm hd=>G2 ((Sat.arr hm).mono (Fr.dL hd)) ah) ?_;rintro _ _ ⟨a22,ec,rfl,rfl⟩
  try simp only [an,aq,au]
  refine .quiet (.p rfl) rfl (fun _=>.build (cs:=[_,_]) underlying74 rfl rfl rfl rfl rfl)<|.quiet (.p rfl) rfl (fun _=>.nilCheck rfl)<|.quiet (.p rfl) rfl (fun _=>.fieldAddr lz rfl)<|af.cZ (news:=[.slice ei L.length ej,.slice a22 (L.map fun y=>bS y.1).length ec]) rfl aa aa rfl rfl sO rfl ai aW ?_;refine aI.nil (S.seq (S.seq ?_));rw [hml];refine S.c7 (b:=nX) (cs' :=[.slice ei L.length ej,.slice a22 L.length ec,.int .i64 (s:Int),.map (some m13)]) ai aK ?_;refine S.region rfl<|O.q 1 rfl<|O.op (.p rfl) (.nilCheck rfl)<|O.op (.p rfl) (.aD p6 rfl)<|O.op (.p rfl) (.lo lW) ?_;refine O.aM (.p rfl) (.Fm underlying75 rfl ai) ?_;rintro _ _ ⟨xT,rfl,rfl⟩;refine O.nil<|S.block<|S.pk (ζ:=[jy (K:=List UInt8) xT mid dY [],ck encS mid M dY,ck encS m13 [] 0,obj b 77 [.slice cO L.length cQ,.slice cz L.length cA,.int .i64 (s:Int),.map (some mid)],av (ag.ga d Fr.emp bW) 31 (.slice cO L.length cQ) L,av ag.str 9 (.slice cz L.length cA) (L.map fun y=>bS y.1),cH (en cD) 31 (.slice ei L.length ej) L,obj nX 77 [.slice ei L.length ej,.slice a22 L.length ec,.int .i64 (s:Int),.map (some m13)],av ag.str 9 (.slice a22 L.length ec) (L.map fun y=>bS y.1)]) jx ?_
  refine S.EK (ι:=List (cg (List UInt8))) (dI:=List (cg (List UInt8))) (jI:=List (cg (List UInt8))) (dB:=Nat) (fun aZ jY M2 c2=>M.Perm (aZ++jY)∧gL M2 c2∧iN d Fr.emp L M2) (fun aZ jY M2 c2=>[]) [(3,_),(30,_)] (fun aZ jY M2 c2=>[jy xT mid dY aZ,ck encS mid M dY,ck encS m13 M2 c2,obj b 77 [.slice cO L.length cQ,.slice cz L.length cA,.int .i64 (s:Int),.map (some mid)],av (ag.ga d Fr.emp bW) 31 (.slice cO L.length cQ) L,av ag.str 9 (.slice cz L.length cA) (L.map fun y=>bS y.1),cH (en cD) 31 (.slice ei L.length ej) L,obj nX 77 [.slice ei L.length ej,.slice a22 L.length ec,.int .i64 (s:Int),.map (some m13)],av ag.str 9 (.slice a22 L.length ec) (L.map fun y=>bS y.1)]) (fun aZ jY M2 c2=>jY.length) ([]) (M) ([]) (0) (by exact ⟨List.Perm.refl _,gL.nil,iN.nil _ _ _⟩) (.nil) (.cons rfl (.cons rfl (.nil))) (by with_reducible rfl) fun aZ jY M2 c2 hx ih=>?_;have aX:=cL (g:=g);obtain ⟨hp,yF,vP⟩:=hx;refine S.seq<|S.region rfl<|O.JS (.p rfl) rfl wf hp ai ai (fun fM=>?_) (fun y31 t131 t231 fM=>?_)
  ·clear ih
   refine O.q 1 rfl<|O.nil<|S.seq<|S.aQ rfl<|S.exit rfl<|S.seq<|S.cB (A:=dX aJ d Fr.emp b s L) (bs:=bP.qs aJ b s (⟨Fr.emp,.slice cO L.length cQ,.slice cz L.length cA,mid,M,dY,wf,ok⟩:bP d L)) bf (fun m h=>dX.fold ⟨Fr.emp,.slice cO L.length cQ,.slice cz L.length cA,mid,M,dY,wf,ok⟩ h) ?_;refine S.cB (A:=bl aJ d nX s L) (bs:=[cH (en cD) 31 (.slice ei L.length ej) L,obj nX 77 [.slice ei L.length ej,.slice a22 L.length ec,.int .i64 (s:Int),.map (some m13)],av ag.str 9 (.slice a22 L.length ec) (L.map fun y=>bS y.1),ck encS m13 M2 c2]) bf (by intro m h;exact JG (c8:=.slice ei L.length ej) (c9:=.slice a22 L.length ec) (mid:=m13) (c:=c2) (M:=M2) yF vP h) ?_;refine S.region rfl<|O.q 2 rfl<|O.nil ?_;exact S.rt results41 rfl hR ⟨nX,rfl,rfl⟩
  ·subst fM
   have hmem:y31∈M:=hp.mem_iff.2 bI;have xq:=ok y31.1 y31.2.1 (vk wf.2.2 hmem);have hp2:M.Perm ((aZ++[y31])++(t131++t231)):=hp.trans (by rw [List.append_assoc];exact List.Perm.append_left _ List.perm_middle);refine O.q 1 rfl<|O.nil<|S.seq<|S.bx rfl<|S.skip<|S.block<|S.seq<|S.region rfl<|O.op (.p rfl) (.Ct rfl wf hmem ai ai) ?_;refine O.q 4 rfl<|O.nil<|S.region rfl<|O.q 1 rfl<|O.op (.p rfl) (.nilCheck rfl)<|O.op (.p rfl) (.aD p6 rfl)<|O.op (.p rfl) (.lo lW) ?_;refine O.q 2 rfl<|O.bu rfl (.sg underlying75 (qa underlying9) rfl rfl rfl ai) ?_;refine O.nil (S.inBlock ?_);exact S.pw (ih (aZ++[y31]) (t131++t231) (iI M2 c2 y31.1 y31.2.1) (kT M2 c2 y31.1) (by exact ⟨hp2,AN yF y31.1 y31.2.1,vP.put (c:=c2) xq.1 xq.2⟩) bI)
 ·refine bO.cu (.p rfl) aa (fun _=>.cS e8 aK ai aK) ?_
  refine af.dw (.p rfl) aa rfl aa rfl rfl (bs:=bP.qs aJ b s (⟨Fr.emp,.slice cO L.length cQ,.slice cz L.length cA,mid,M,dY,wf,ok⟩:bP d L)) bf (fun m hm hd=>Le (F1 wf ok hT.hd hd hm) hT.ok hT.small) ?_;rintro _ _ ⟨ei,ej,rfl,rfl⟩
  try simp only [an,aq,au]
  refine af.dw (.p rfl) aa rfl aa rfl rfl (bs:=[av ag.str 9 (.slice cz L.length cA) (L.map fun y=>bS y.1)]) bf (fun m hm hd=>G2 ((Sat.arr hm).mono (Fr.dL hd)) ah) ?_;rintro _ _ ⟨a22,ec,rfl,rfl⟩
  try simp only [an,aq,au]
  refine .quiet (.p rfl) rfl (fun _=>.build (cs:=[_,_]) underlying74 rfl rfl rfl rfl rfl)<|.quiet (.p rfl) rfl (fun _=>.nilCheck rfl)<|.quiet (.p rfl) rfl (fun _=>.fieldAddr lz rfl)<|af.cZ (news:=[.slice ei L.length ej,.slice a22 (L.map fun y=>bS y.1).length ec]) rfl aa aa rfl rfl sO rfl ai aW ?_;refine aI.nil (S.seq (S.seq ?_));rw [hml];refine S.c7 (b:=nX) (cs' :=[.slice ei L.length ej,.slice a22 L.length ec,.int .i64 (s:Int),.map (some m13)]) ai aK ?_;refine S.region rfl<|O.q 1 rfl<|O.op (.p rfl) (.nilCheck rfl)<|O.op (.p rfl) (.aD p6 rfl)<|O.op (.p rfl) (.lo lW) ?_;refine O.aM (.p rfl) (.Fm underlying75 rfl ai) ?_;rintro _ _ ⟨xT,rfl,rfl⟩;refine O.nil<|S.block<|S.pk (ζ:=[jy (K:=List UInt8) xT mid dY [],ck encS mid M dY,ck encS m13 [] 0,obj b 77 [.slice cO L.length cQ,.slice cz L.length cA,.int .i64 (s:Int),.map (some mid)],av (ag.ga d Fr.emp bW) 31 (.slice cO L.length cQ) L,av ag.str 9 (.slice cz L.length cA) (L.map fun y=>bS y.1),cH (en cD) 31 (.slice ei L.length ej) L,obj nX 77 [.slice ei L.length ej,.slice a22 L.length ec,.int .i64 (s:Int),.map (some m13)],av ag.str 9 (.slice a22 L.length ec) (L.map fun y=>bS y.1)]) jx ?_
  refine S.EK (ι:=List (cg (List UInt8))) (dI:=List (cg (List UInt8))) (jI:=List (cg (List UInt8))) (dB:=Nat) (fun aZ jY M2 c2=>M.Perm (aZ++jY)∧gL M2 c2∧iN d Fr.emp L M2) (fun aZ jY M2 c2=>[]) [(3,_),(30,_)] (fun aZ jY M2 c2=>[jy xT mid dY aZ,ck encS mid M dY,ck encS m13 M2 c2,obj b 77 [.slice cO L.length cQ,.slice cz L.length cA,.int .i64 (s:Int),.map (some mid)],av (ag.ga d Fr.emp bW) 31 (.slice cO L.length cQ) L,av ag.str 9 (.slice cz L.length cA) (L.map fun y=>bS y.1),cH (en cD) 31 (.slice ei L.length ej) L,obj nX 77 [.slice ei L.length ej,.slice a22 L.length ec,.int .i64 (s:Int),.map (some m13)],av ag.str 9 (.slice a22 L.length ec) (L.map fun y=>bS y.1)]) (fun aZ jY M2 c2=>jY.length) ([]) (M) ([]) (0) (by exact ⟨List.Perm.refl _,gL.nil,iN.nil _ _ _⟩) (.nil) (.cons rfl (.cons rfl (.nil))) (by with_reducible rfl) fun aZ jY M2 c2 hx ih=>?_;have aX:=cL (g:=g);obtain ⟨hp,yF,vP⟩:=hx;refine S.seq<|S.region rfl<|O.JS (.p rfl) rfl wf hp ai ai (fun fM=>?_) (fun y31 t131 t231 fM=>?_)
  ·clear ih
   refine O.q 1 rfl<|O.nil<|S.seq<|S.aQ rfl<|S.exit rfl<|S.seq<|S.cB (A:=dX aJ d Fr.emp b s L) (bs:=bP.qs aJ b s (⟨Fr.emp,.slice cO L.length cQ,.slice cz L.length cA,mid,M,dY,wf,ok⟩:bP d L)) bf (fun m h=>dX.fold ⟨Fr.emp,.slice cO L.length cQ,.slice cz L.length cA,mid,M,dY,wf,ok⟩ h) ?_;refine S.cB (A:=bl aJ d nX s L) (bs:=[cH (en cD) 31 (.slice ei L.length ej) L,obj nX 77 [.slice ei L.length ej,.slice a22 L.length ec,.int .i64 (s:Int),.map (some m13)],av ag.str 9 (.slice a22 L.length ec) (L.map fun y=>bS y.1),ck encS m13 M2 c2]) bf (by intro m h;exact JG (c8:=.slice ei L.length ej) (c9:=.slice a22 L.length ec) (mid:=m13) (c:=c2) (M:=M2) yF vP h) ?_;refine S.region rfl<|O.q 2 rfl<|O.nil ?_;exact S.rt results41 rfl hR ⟨nX,rfl,rfl⟩
  ·subst fM
   have hmem:y31∈M:=hp.mem_iff.2 bI;have xq:=ok y31.1 y31.2.1 (vk wf.2.2 hmem);have hp2:M.Perm ((aZ++[y31])++(t131++t231)):=hp.trans (by rw [List.append_assoc];exact List.Perm.append_left _ List.perm_middle);refine O.q 1 rfl<|O.nil<|S.seq<|S.bx rfl<|S.skip<|S.block<|S.seq<|S.region rfl<|O.op (.p rfl) (.Ct rfl wf hmem ai ai) ?_;refine O.q 4 rfl<|O.nil<|S.region rfl<|O.q 1 rfl<|O.op (.p rfl) (.nilCheck rfl)<|O.op (.p rfl) (.aD p6 rfl)<|O.op (.p rfl) (.lo lW) ?_;refine O.q 2 rfl<|O.bu rfl (.sg underlying75 (qa underlying9) rfl rfl rfl ai) ?_;refine O.nil (S.inBlock ?_);exact S.pw (ih (aZ++[y31]) (t131++t231) (iI M2 c2 y31.1 y31.2.1) (kT M2 c2 y31.1) (by exact ⟨hp2,AN yF y31.1 y31.2.1,vP.put (c:=c2) xq.1 xq.2⟩) bI)
def uO (r:Fr) (v:Value):Prop:=ay prog 87 #[v] r [] (aL fun u U=>u=.bool false∧U=[])
theorem uO.mono {r r' :Fr} {v:Value} (h:uO r v) (e:r.sub r'):uO r' v:=ay.sub h e
theorem Ts {r:Fr}:uO r (.pointer none):=WQ
theorem Tk {r:Fr} {v:Value} (h:uO r v):ay prog 41 #[v] r [] (aL fun u U=>u=.pointer none∧U=[]):=by
 refine ay.of (n:=43) _ rfl func41 rfl rfl rfl fun g hg R hR=>?_;have h:=h.mono hg;refine S.seq<|S.region rfl<|O.q 1 rfl<|O.nil<|S.seq<|S.seq<|S.region rfl<|O.q 1 rfl<|O.aB (.p rfl) rfl aa rfl rfl (h) ?_;rintro _ _ ⟨rfl,rfl⟩
 try simp only [an,aq,au]
 refine O.aN 7 rfl aK ?_;refine O.op (.p rfl) (.not rfl)<|O.nil<|S.bx rfl<|S.seq<|S.region rfl<|O.q 1 rfl<|O.nil ?_;exact S.rt results41 rfl hR ⟨rfl,rfl⟩
def fD (d:Fr) (bh s:Nat) (L:List aG) (peer:Int) (began:Bool):az:=fun m=>∃ bH mp,Sat [obj bh 89 [.pointer (some ⟨bH,0,none⟩),.map (some mp),.int .i64 0,.int .i64 peer,.bool began],bl aJ d bH s L,ck encS mp [] 0] m
theorem fD.jq {d:Fr} {bh s:Nat} {L:List aG} {peer:Int} {began:Bool} {m:Fr}:fD d bh s L peer began m→∃ x:Nat × Nat,Sat [obj bh 89 [.pointer (some ⟨x.1,0,none⟩),.map (some x.2),.int .i64 0,.int .i64 peer,.bool began],bl aJ d x.1 s L,ck encS x.2 [] 0] m:=fun ⟨bH,mp,h⟩=>⟨(bH,mp),h⟩
theorem fD.fold {d:Fr} {bh bH mp s:Nat} {L:List aG} {peer:Int} {began:Bool} {m:Fr} (h:Sat [obj bh 89 [.pointer (some ⟨bH,0,none⟩),.map (some mp),.int .i64 0,.int .i64 peer,.bool began],bl aJ d bH s L,ck encS mp [] 0] m):fD d bh s L peer began m:=⟨bH,mp,h⟩
theorem uj {r:Fr} {b:Nat} {v0 v1 v2 v4:Value} {peer:Int} (hp:0<peer):ay prog 120 #[.pointer (some ⟨b,0,none⟩)] r [obj b 89 [v0,v1,v2,.int .i64 peer,v4]] (aL fun v U=>v=.bool true∧U=[obj b 89 [v0,v1,v2,.int .i64 peer,v4]]):=by
 refine ay.of (n:=12) _ rfl func120 rfl rfl rfl fun g hg R hR=>?_;refine S.seq<|S.region rfl<|O.q 1 rfl<|O.nil<|S.seq<|S.region rfl<|O.q 1 rfl<|O.op (.p rfl) (.x9 underlying82 rfl rfl)<|O.sT 4 rfl aK ?_;refine O.q 2 rfl<|O.op (.g rfl rfl) (.nilCheck rfl)<|O.op (.g rfl rfl) (.aD zy rfl)<|O.op (.g rfl rfl) (.lo cv) ?_;refine O.op (.g rfl rfl) (.gtr rfl rfl)<|O.sT 10 rfl (by exact decide_eq_true hp) ?_;refine O.q 2 rfl<|O.nil ?_;exact S.rt results120 rfl hR ⟨rfl,rfl⟩
theorem VO {r:Fr} {v:Value} {peer tY:Int} (h:uO r v):ay prog 52 #[v,.int .i64 peer,.int .i64 tY] r [] (aL fun u U=>u=.pointer none∧U=[]):=by
 refine ay.of (n:=31) _ rfl func52 rfl rfl rfl fun g hg R hR=>?_;have h:=h.mono hg;refine S.seq<|S.region rfl<|O.q 1 rfl<|O.nil<|S.seq<|S.region rfl<|O.q 1 rfl<|O.aB (.p rfl) rfl aa rfl rfl ((Tk h)) ?_;rintro _ _ ⟨rfl,rfl⟩
 try simp only [an,aq,au]
 refine O.q 1 rfl<|O.nil<|S.seq<|S.seq<|S.region rfl<|O.q 1 rfl<|O.op (.p rfl) (.rK underlying42 rfl rfl)<|O.sT 11 rfl aK ?_;refine O.q 12 rfl<|O.nil<|S.bx rfl<|S.seq<|S.region rfl<|O.q 1 rfl<|O.nil ?_;exact S.rt results52 rfl hR ⟨rfl,rfl⟩
theorem FA {r d:Fr} {b s:Nat} {L:List aG} {peer tY:Int} (hT:gK r d s L) (hs4:s<4) (hp:1≤peer∧peer≤7) (hn:1≤tY) :
  ay prog 52 #[.pointer (some ⟨b,0,none⟩),.int .i64 peer,.int .i64 tY] r [dX aJ d Fr.emp b s L] (aL fun u U=>∃ bh,u=.pointer (some ⟨bh,0,none⟩)∧U=[dX aJ d Fr.emp b s L,fD d bh s L peer false]):=by
 obtain ⟨hp1,hp2⟩:=hp;refine ay.of (n:=31) _ rfl func52 rfl rfl rfl fun g hg R hR=>?_;have hT:=hT.mono hg;refine S.seq<|S.region rfl<|O.q 1 rfl<|O.nil<|S.seq<|S.region rfl<|O.q 1 rfl<|O.bM (.p rfl) rfl aa rfl rfl ai (WM hT hs4) ?_;rintro _ _ ⟨GI,rfl,rfl⟩
 try simp only [an,aq,au]
 refine O.q 1 rfl<|O.nil<|S.seq<|S.seq<|S.region rfl<|O.q 1 rfl<|O.op (.p rfl) (.rK underlying42 rfl rfl)<|O.aN 11 rfl aK ?_;refine O.q 2 rfl<|O.op (.g rfl rfl) (.lss rfl rfl)<|O.aN 14 rfl (by exact decide_eq_false ah) ?_;refine O.q 3 rfl<|O.op (.g rfl rfl) (.gtr rfl rfl)<|O.aN 18 rfl (by exact decide_eq_false ah) ?_;refine O.q 3 rfl<|O.op (.g rfl rfl) (.lss rfl rfl)<|O.aN 22 rfl (by exact decide_eq_false ah) ?_;refine O.q 1 rfl<|O.nil<|S.aQ rfl<|S.skip<|S.seq<|S.region rfl<|O.q 1 rfl<|O.op (.p rfl) (.build (cs:=[_]) underlying85 rfl rfl rfl rfl rfl)<|O.aM (.p rfl) (.pK (enc:=encS)) ?_;rintro _ _ ⟨GG,rfl,rfl⟩;refine O.op (.p rfl) (.build (cs:=[_,_]) underlying87 rfl rfl rfl rfl rfl)<|O.q 1 rfl<|O.op (.p rfl) (.build (cs:=[_,_,_,_,_]) underlying89 rfl rfl rfl rfl rfl)<|O.aM (.p rfl) (.box (cs:=[_,_,_,_,_]) rfl rfl) ?_;rintro _ _ ⟨BQ,rfl,rfl⟩;refine O.q 1 rfl<|O.nil<|S.cB (A:=fD d BQ s L peer false) (bs:=[obj BQ 89 [.pointer (some ⟨GI,0,none⟩),.map (some GG),.int .i64 0,.int .i64 peer,.bool false],bl aJ d GI s L,ck encS GG [] 0]) bf (fun m h=>fD.fold h) ?_;exact S.rt results52 rfl hR ⟨BQ,rfl,rfl⟩
theorem FB {r d:Fr} {b s:Nat} {L:List aG} {p xs:List UInt8} {va:Value} (hT:gK r d s L) (ha:aj ag.u8 r va xs) (hl:p.length≤9223372036854775807) :
  ay prog 206 #[.agg #[.pointer (some ⟨b,0,none⟩)],.string (str p),va] r [bl aJ d b s L] (aL fun v U=>v=.bool (!decide (jX L p=xs))∧U=[bl aJ d b s L]):=by
 obtain ⟨a1,c1,rfl⟩:=ha.shape;refine ay.of (n:=14) _ rfl func206 rfl rfl rfl fun g hg R hR=>?_;have hT:=hT.mono hg;have ha:=ha.mono hg;refine S.seq<|S.region rfl<|O.aM (.p rfl) (.box (cs:=[_]) rfl rfl) ?_;rintro _ _ ⟨b3,rfl,rfl⟩;refine O.q 1 rfl<|O.nil<|S.seq<|S.region rfl<|O.op (.p rfl) (.aD w5 rfl)<|O.op (.p rfl) (.lo o8) ?_;refine O.q 1 rfl<|O.bM (.p rfl) rfl aa rfl rfl ai (v8 hT hl) ?_;rintro _ _ ⟨oP,oV,rfl,rfl⟩
 try simp only [an,aq,au]
 refine O.q 1 rfl<|O.dw (.p rfl) rfl aa rfl rfl (bs:=[av ag.u8 5 (.slice oP (jX L p).length oV) (jX L p)]) bf (fun m hm hd=>oS ((Sat.arr hm).mono (Fr.dL hd)) (ha.mono (Fr.de _ _))) ?_;rintro _ _ ⟨rfl,rfl⟩
 try simp only [an,aq,au]
 refine O.op (.p rfl) ((by first|exact .lH rfl|exact .not rfl)) ?_;refine O.q 1 rfl<|O.nil ?_;exact S.rt results206 rfl hR ⟨congrArg Value.bool bI,rfl⟩
theorem VM {r d:Fr} {bh s:Nat} {L:List aG} {peer:Int} {cm:Bool} {va yD:Value} {xs:List UInt8} (hT:gK r d s L) (ha:aj (ag.slice ag.u8) r va [xs]) (hp:aj ag.str r yD [[]]) (hxs:jX L []=xs) :
  ay prog 123 #[.pointer (some ⟨bh,0,none⟩),va,yD] r [fD d bh s L peer cm] (aL fun v U=>v=.slice none 0 0∧U=[fD d bh s L peer cm]):=by
 obtain ⟨a1,c1,rfl⟩:=ha.shape;obtain ⟨a2,c2,rfl⟩:=hp.shape;refine ay.of (n:=53) _ rfl func123 rfl rfl rfl fun g hg R hR=>?_;have hT:=hT.mono hg;have ha:=ha.mono hg;have hp:=hp.mono hg;refine S.open (bs:=fun x:Nat × Nat=>[obj bh 89 [.pointer (some ⟨x.1,0,none⟩),.map (some x.2),.int .i64 0,.int .i64 peer,.bool cm],bl aJ d x.1 s L,ck encS x.2 [] 0]) .here (fun m h=>fD.jq h) fun ⟨bH,mp⟩=>?_;simp only [List.cons_append,List.nil_append];refine S.seq<|S.region rfl<|O.q 1 rfl<|O.nil<|S.seq<|S.region rfl<|O.q 1 rfl<|O.nil<|S.seq<|S.seq<|S.region rfl<|O.q 1 rfl<|O.op (.p rfl) (.len rfl underlying53 rfl)<|O.q 1 rfl<|O.nil<|S.block<|S.e6 (ι:=Nat) (fun i=>i≤1) (fun i=>[(12,.int .i64 (i:Int)),(7,.slice none 0 0)]) [(0,_),(1,_),(10,_),(11,_)] (fun i=>[obj bh 89 [.pointer (some ⟨bH,0,none⟩),.map (some mp),.int .i64 0,.int .i64 peer,.bool cm],bl aJ d bH s L,ck encS mp [] 0]) (fun i=>1 - i) (0) bI (.cons rfl (.cons rfl (.nil))) (.cons rfl (.cons rfl (.cons rfl (.cons rfl (.nil))))) rfl fun i hx ih=>?_;have aX:=cL (g:=g);refine S.seq<|S.region rfl<|O.op (.p rfl) (.lss rfl rfl)<|O.nil (S.seq ?_)
 first|refine S.cc rfl (fun iW=>?_) (fun iW=>?_)|refine S.b7 rfl (fun iW=>?_) (fun iW=>?_)
 ·have rV:([[]]:List (List UInt8)).length=1:=rfl
  have hi:i=0:=by omega
  subst hi;refine S.skip<|S.seq<|S.block<|S.seq<|S.region rfl<|O.q 1 rfl<|O.b8 (.p rfl) underlying53 gG rfl rfl (show _=(((0):Nat):Int) by omega) (by first|assumption|exact aj.mono hg zE|exact aj.left zE|exact aj.left (aj.mono hg zE)) (h:=fun yh wQ hU k3=>?_);obtain ⟨rfl,Zw⟩:=k3;refine O.op (.p rfl) (.loadAt bL rfl hU rfl) ?_;refine O.slot 16 (v' :=.string (str [])) rfl aK ?_;refine O.q 2 rfl<|O.nil<|S.seq<|S.bB (L:=[0,1,2,4,5,6,7,8,3,9]) bA aa ?_;refine af.q 1 rfl<|.quiet (.p rfl) rfl (fun _=>.nilCheck rfl)<|.quiet (.p rfl) rfl (fun _=>.aD vj rfl)<|af.q 3 rfl<|af.b8 (.p rfl) underlying109 uo rfl rfl (show _=(((0):Nat):Int) by omega) (by first|assumption|exact aj.mono hg zE|exact aj.left zE|exact aj.left (aj.mono hg zE)) (h:=fun yj wR mb pz=>?_);obtain ⟨v24,rfl,rR⟩:=pz;obtain ⟨a24,k_,rfl⟩:=rR.shape;refine .quiet (.p rfl) rfl (fun _=>.loadAt bc rfl mb rfl) ?_;refine af.cu (.p rfl) aa (fun _=>.r_ (news:=[.pointer (some ⟨bH,0,none⟩)]) isAgg85 aa aK ai aK) ?_;refine af.bM (.p rfl) aa rfl aa rfl rfl ai (FB (p:=[]) (xs:=xs) hT rR bI) ?_;rintro _ _ ⟨rfl,rfl⟩
  try simp only [an,aq,au]
  refine af.aN 26 rfl (by simp [hxs]) ?_;refine aI.nil<|S.aQ rfl<|S.skip<|S.inBlock<|S.region rfl<|O.op (.p rfl) (.add rfl rfl (IntWalk.i64_in _ ah))<|O.q 1 rfl<|O.nil ?_;exact S.pw (ih (1) ah ah)
 ·clear ih
  refine S.exit rfl<|S.seq<|S.region rfl<|O.q 2 rfl<|O.nil<|S.cB (A:=fD d bh s L peer cm) (bs:=[obj bh 89 [.pointer (some ⟨bH,0,none⟩),.map (some mp),.int .i64 0,.int .i64 peer,.bool cm],bl aJ d bH s L,ck encS mp [] 0]) bf (fun m h=>fD.fold h) ?_;exact S.rt results123 rfl hR ⟨rfl,rfl⟩
theorem KJ {r d:Fr} {bh s:Nat} {L:List aG} {peer:Int} {cm:Bool} (hp:0<peer):ay prog 55 #[.pointer (some ⟨bh,0,none⟩)] r [fD d bh s L peer cm] (aL fun v U=>v=.bool cm∧U=[fD d bh s L peer cm]):=by
 refine ay.of (n:=20) _ rfl func55 rfl rfl rfl fun g hg R hR=>?_;refine S.open (bs:=fun x:Nat × Nat=>[obj bh 89 [.pointer (some ⟨x.1,0,none⟩),.map (some x.2),.int .i64 0,.int .i64 peer,.bool cm],bl aJ d x.1 s L,ck encS x.2 [] 0]) .here (fun m h=>fD.jq h) fun ⟨bH,mp⟩=>?_;simp only [List.cons_append,List.nil_append]
 cases cm with
 |false =>
  refine S.seq<|S.region rfl<|O.q 1 rfl<|O.nil<|S.seq<|S.region rfl<|O.q 1 rfl<|O.bM (.p rfl) rfl aa rfl rfl ai (uj hp) ?_;rintro _ _ ⟨rfl,rfl⟩
  try simp only [an,aq,au]
  refine O.sT 4 rfl aK ?_;refine O.q 2 rfl<|O.op (.g rfl rfl) (.nilCheck rfl)<|O.op (.g rfl rfl) (.aD tc rfl)<|O.op (.g rfl rfl) (.lo ji) ?_;refine O.aN 9 rfl aK ?_;refine O.q 11 rfl<|O.nil<|S.cB (A:=fD d bh s L peer false) (bs:=[obj bh 89 [.pointer (some ⟨bH,0,none⟩),.map (some mp),.int .i64 0,.int .i64 peer,.bool false],bl aJ d bH s L,ck encS mp [] 0]) bf (fun m h=>fD.fold h) ?_;exact S.rt results55 rfl hR ⟨rfl,rfl⟩
 |true =>
  refine S.seq<|S.region rfl<|O.q 1 rfl<|O.nil<|S.seq<|S.region rfl<|O.q 1 rfl<|O.bM (.p rfl) rfl aa rfl rfl ai (uj hp) ?_;rintro _ _ ⟨rfl,rfl⟩
  try simp only [an,aq,au]
  refine O.sT 4 rfl aK ?_;refine O.q 2 rfl<|O.op (.g rfl rfl) (.nilCheck rfl)<|O.op (.g rfl rfl) (.aD tc rfl)<|O.op (.g rfl rfl) (.lo ji) ?_;refine O.sT 9 rfl aK ?_;refine O.q 3 rfl<|O.op (.g rfl rfl) (.nilCheck rfl)<|O.op (.g rfl rfl) (.aD rO rfl)<|O.op (.g rfl rfl) (.aD w6 rfl)<|O.op (.g rfl rfl) (.lo lW) ?_;refine O.op (.g rfl rfl) (.SY (l:=[]) underlying75 rfl ai) ?_;refine O.slot 17 (v' :=.int .i64 0) rfl aK ?_;refine O.op (.g rfl rfl) (.eql rfl rfl)<|O.q 2 rfl<|O.nil<|S.cB (A:=fD d bh s L peer true) (bs:=[obj bh 89 [.pointer (some ⟨bH,0,none⟩),.map (some mp),.int .i64 0,.int .i64 peer,.bool true],bl aJ d bH s L,ck encS mp [] 0]) bf (fun m h=>fD.fold h) ?_;exact S.rt results55 rfl hR ⟨rfl,rfl⟩
theorem VQ {r d:Fr} {bh s:Nat} {L:List aG} {cs:List Value} {x:j5} {sj:Value} (hT:gK r d s L) (hs4:s<4) (h:jg.rel r cs x) (hok:oE x=true) (h2:x.2.1=(s:Int)) (hn:aj ag.u8 r sj (bZ L [])) (h3:x.2.2.2.1=ek (s:Int) (bZ L [])) :
  ay prog 53 #[.pointer (some ⟨bh,0,none⟩),.agg cs.toArray,sj] r [fD d bh s L x.1 false] (aL fun u U=>u=.tuple #[.slice none 0 0,.int .i64 0]∧U=[fD d bh s L x.1 true]):=by
 have hpos:0<x.1:=by have:=(AY.1 (AX.1 hok).1).1;omega
 have iE:=qn hT.ok [];have ht:(ek (s:Int) (bZ L [])).length=64:=by unfold ek;rw [if_pos ⟨by omega,by omega,iE⟩,qj]
 have hsum:jX L []=bZ L []:=by unfold jX;rw [if_pos ⟨by simp,fun c hc=>by cases hc⟩]
 obtain ⟨a5,dP,rfl⟩:=hn.shape;obtain ⟨gI,sI,gJ,sK,rfl,k0,k1,k2,bg,vE⟩:=jg.sh h;refine ay.of (n:=54) _ rfl func53 rfl rfl rfl fun g hg R hR=>?_;have hT:=hT.mono hg;have h:=h.mono hg;have hn:=hn.mono hg;have bg:=bg.mono hg;refine S.open (bs:=fun x' :Nat × Nat=>[obj bh 89 [.pointer (some ⟨x'.1,0,none⟩),.map (some x'.2),.int .i64 0,.int .i64 x.1,.bool false],bl aJ d x'.1 s L,ck encS x'.2 [] 0]) .here (fun m h=>fD.jq h) fun ⟨bH,mp⟩=>?_;simp only [List.cons_append,List.nil_append];refine S.seq<|S.region rfl<|O.aM (.p rfl) (.box (cs:=[_,_,_,_,_]) rfl rfl) ?_;rintro _ _ ⟨b4,rfl,rfl⟩;refine O.q 2 rfl<|O.nil<|S.seq<|S.block<|S.seq<|S.d_ (A:=obj b4 81 [.int .i64 x.1,.int .i64 x.2.1,.int .i64 x.2.2.1,.slice gI x.2.2.2.1.length gJ,.slice sI x.2.2.2.2.1.length sK]) ai fun g hs hm ⟨_,x',s'⟩=>?_;have h4:=(fun s x=>(gf x).mono s) s' x';clear x' s';replace hg:=Fr.aH hg hs;replace hR:=bp hR hm
 try replace hT:=hT.mono hs
 try replace h:=h.mono hs
 try replace hn:=hn.mono hs
 try replace bg:=bg.mono hs
 clear hs hm;refine S.region rfl<|O.q 1 rfl<|O.bM (.p rfl) rfl aa rfl rfl ai (uj hpos) ?_;rintro _ _ ⟨rfl,rfl⟩
 try simp only [an,aq,au]
 refine O.sT 10 rfl aK ?_;refine O.op (.p rfl) (.not rfl)<|O.q 1 rfl<|O.nil<|S.aQ rfl<|S.seq<|S.region rfl<|O.q 1 rfl<|O.op (.p rfl) (.nilCheck rfl)<|O.op (.p rfl) (.aD tc rfl)<|O.op (.p rfl) (.lo ji) ?_;refine O.aN 16 rfl aK ?_;refine O.q 1 rfl<|O.nil<|S.aQ rfl<|S.seq<|S.seq<|S.region rfl<|O.op (.p rfl) (.bz isAgg81 aa rfl h4) ?_;refine O.aB (.p rfl) rfl aa rfl rfl ((FK h)) ?_;rintro _ _ ⟨rfl,rfl⟩
 try simp only [an,aq,au]
 refine O.sT 19 rfl (by exact hok) ?_;refine O.op (.p rfl) (.not rfl)<|O.q 1 rfl<|O.nil<|S.aQ rfl<|S.seq<|S.bB (L:=[0,1,2,3,4,5,6,7]) bA aa ?_;refine .quiet (.p rfl) rfl (fun _=>.fieldAddr wZ rfl)<|.quiet (.p rfl) rfl (fun _=>.loadAt cv rfl h4 rfl) ?_;refine af.q 1 rfl<|.quiet (.p rfl) rfl (fun _=>.nilCheck rfl)<|.quiet (.p rfl) rfl (fun _=>.aD zy rfl)<|af.cu (.p rfl) aa (fun _=>.cS cv aK ai aK) ?_;refine .quiet (.p rfl) rfl (fun _=>.neq rfl rfl)<|af.aN 27 rfl (by exact decide_eq_false (fun q=>q rfl)) ?_;refine af.q 1 rfl<|aI.nil<|S.aQ rfl<|S.bB (L:=[0,1,2,3,4,5,6,7,8,9]) bA aa ?_;refine .quiet (.p rfl) rfl (fun _=>.fieldAddr vi rfl)<|.quiet (.p rfl) rfl (fun _=>.loadAt cv rfl (h4.drop 1) rfl) ?_;refine af.q 1 rfl<|.quiet (.p rfl) rfl (fun _=>.nilCheck rfl)<|.quiet (.p rfl) rfl (fun _=>.aD vj rfl)<|.quiet (.p rfl) rfl (fun _=>.aD w5 rfl)<|af.cu (.p rfl) aa (fun _=>.cS o8 aK ai aK) ?_;refine af.dw (.p rfl) aa rfl aa rfl rfl (bs:=[bl aJ d bH s L]) bf (fun m hm hd=>A7 (bl.jG hT.hd hd hm)) ?_;rintro _ _ ⟨rfl,rfl⟩
 try simp only [an,aq,au]
 refine .quiet (.p rfl) rfl (fun _=>.neq rfl rfl)<|af.aN 36 rfl (by exact decide_eq_false ah) ?_;refine af.q 1 rfl<|aI.nil<|S.aQ rfl<|S.seq<|S.bB (L:=[0,1,2,4,5,3,6,7,8]) bA aa<|.quiet (.p rfl) rfl (fun _=>.fieldAddr vi rfl)<|.quiet (.p rfl) rfl (fun _=>.loadAt cv rfl (h4.drop 1) rfl) ?_;refine af.q 1 rfl<|.quiet (.p rfl) rfl (fun _=>.fieldAddr CF rfl)<|.quiet (.p rfl) rfl (fun _=>.loadAt bc rfl (h4.drop 3) rfl) ?_;refine af.aB (.p rfl) aa rfl aa rfl rfl ((Bb hn k1 hT.hH hT.hK ah)) ?_;rintro _ _ ⟨a41,wK,rfl,rfl⟩
 try simp only [an,aq,au]
 refine af.dw (.p rfl) aa rfl aa rfl rfl (bs:=[av ag.u8 5 (.slice a41 (ek x.2.1 (bZ L [])).length wK) (ek x.2.1 (bZ L []))]) bf (fun m hm hd=>oS ((Sat.arr hm).mono (Fr.dL hd)) (bg.mono (Fr.de _ _))) ?_;rintro _ _ ⟨rfl,rfl⟩
 try simp only [an,aq,au]
 refine af.sT 44 rfl (by exact decide_eq_true (by rw [h3,h2])) ?_;refine .quiet (.p rfl) rfl (fun _=>.not rfl)<|af.q 1 rfl<|aI.nil<|S.aQ rfl<|S.skip<|S.inBlock<|S.seq<|S.region rfl<|O.q 1 rfl<|O.op (.p rfl) (.nilCheck rfl)<|O.op (.p rfl) (.aD tc rfl)<|O.bu rfl (.bn ji rfl rfl bq ai aW) ?_;refine O.nil<|S.seq<|S.cB (A:=fD d bh s L x.1 true) (bs:=[obj bh 89 [.pointer (some ⟨bH,0,none⟩),.map (some mp),.int .i64 0,.int .i64 x.1,.bool true],bl aJ d bH s L,ck encS mp [] 0]) bf (fun m h=>fD.fold h) ?_;refine S.region rfl<|O.q 2 rfl<|O.aM (.p rfl) (.ct (T:=ag.cells 1) (ys:=[[.slice a5 (bZ L []).length dP]]) underlying109 iC aC rfl rfl ⟨⟨rfl,rfl,by first|(simp;done)|(intro v hv;simp [Value.cells] at hv;rcases hv with rfl|rfl<;>rfl)|(refine List.forall_mem_cons.2 ⟨rfl,?_⟩;repeat (first|exact (fun _ h=>absurd h List.not_mem_nil)|refine List.forall_mem_cons.2 ⟨rfl,?_⟩))⟩,trivial⟩ aC) ?_;rintro _ _ ⟨a51,y4,rfl,rfl⟩;refine O.fo ai fun g hs hm nE=>?_;replace hg:=Fr.aH hg hs;replace hR:=bp hR hm
 try replace hT:=hT.mono hs
 try replace h:=h.mono hs
 try replace hn:=hn.mono hs
 try replace bg:=bg.mono hs
 try replace h4:=h4.mono hs
 clear hs hm;refine O.aM (.p rfl) (.ct (T:=ag.str) (ys:=[[]]) underlying53 gY aC rfl rfl ⟨⟨rfl,by decide⟩,trivial⟩ aC) ?_;rintro _ _ ⟨kD,kE,rfl,rfl⟩;refine O.fo ai fun g hs hm qL=>?_;replace hg:=Fr.aH hg hs;replace hR:=bp hR hm
 try replace hT:=hT.mono hs
 try replace h:=h.mono hs
 try replace hn:=hn.mono hs
 try replace bg:=bg.mono hs
 try replace h4:=h4.mono hs
 try replace nE:=nE.mono hs
 clear hs hm;refine O.bM (.p rfl) rfl aa rfl rfl ai (VM hT (aj.kO (T:=ag.slice ag.u8) (xs:=[bZ L []]) nE (⟨⟨_,rfl,hn⟩,trivial⟩) rfl) qL hsum) ?_;rintro _ _ ⟨rfl,rfl⟩
 try simp only [an,aq,au]
 refine O.q 2 rfl<|O.nil<|S.mW results53 rfl rfl fun w hw=>Holds.end_ hR hw ?_;exact pk ⟨rfl,rfl⟩
theorem VR {r d:Fr} {bh s:Nat} {L:List aG} {cs:List Value} {x:j5} {peer:Int} {sj:Value} (h:jg.rel r cs x) (hok:oE x=true) (hpos:0<peer) (hne:x.1≠peer) (PK:∃ a n c,sj=.slice a n c) :
  ay prog 53 #[.pointer (some ⟨bh,0,none⟩),.agg cs.toArray,sj] r [fD d bh s L peer false] (aL fun u U=>u=.tuple #[.slice none 0 0,.int .i64 22]∧U=[fD d bh s L peer false]):=by
 obtain ⟨a5,n5,dP,rfl⟩:=PK;obtain ⟨gI,sI,gJ,sK,rfl,k0,k1,k2,bg,vE⟩:=jg.sh h;refine ay.of (n:=54) _ rfl func53 rfl rfl rfl fun g hg R hR=>?_;have h:=h.mono hg;refine S.open (bs:=fun x' :Nat × Nat=>[obj bh 89 [.pointer (some ⟨x'.1,0,none⟩),.map (some x'.2),.int .i64 0,.int .i64 peer,.bool false],bl aJ d x'.1 s L,ck encS x'.2 [] 0]) .here (fun m h=>fD.jq h) fun ⟨bH,mp⟩=>?_;simp only [List.cons_append,List.nil_append];refine S.seq<|S.region rfl<|O.aM (.p rfl) (.box (cs:=[_,_,_,_,_]) rfl rfl) ?_;rintro _ _ ⟨b4,rfl,rfl⟩;refine O.q 2 rfl<|O.nil<|S.seq<|S.block<|S.seq<|S.d_ (A:=obj b4 81 [.int .i64 x.1,.int .i64 x.2.1,.int .i64 x.2.2.1,.slice gI x.2.2.2.1.length gJ,.slice sI x.2.2.2.2.1.length sK]) ai fun g hs hm ⟨_,x',s'⟩=>?_;have h4:=(fun s x=>(gf x).mono s) s' x';clear x' s';replace hg:=Fr.aH hg hs;replace hR:=bp hR hm
 try replace h:=h.mono hs
 clear hs hm;refine S.region rfl<|O.q 1 rfl<|O.bM (.p rfl) rfl aa rfl rfl ai (uj hpos) ?_;rintro _ _ ⟨rfl,rfl⟩
 try simp only [an,aq,au]
 refine O.sT 10 rfl aK ?_;refine O.op (.p rfl) (.not rfl)<|O.q 1 rfl<|O.nil<|S.aQ rfl<|S.seq<|S.region rfl<|O.q 1 rfl<|O.op (.p rfl) (.nilCheck rfl)<|O.op (.p rfl) (.aD tc rfl)<|O.op (.p rfl) (.lo ji) ?_;refine O.aN 16 rfl aK ?_;refine O.q 1 rfl<|O.nil<|S.aQ rfl<|S.seq<|S.seq<|S.region rfl<|O.op (.p rfl) (.bz isAgg81 aa rfl h4) ?_;refine O.aB (.p rfl) rfl aa rfl rfl ((FK h)) ?_;rintro _ _ ⟨rfl,rfl⟩
 try simp only [an,aq,au]
 refine O.sT 19 rfl (by exact hok) ?_;refine O.op (.p rfl) (.not rfl)<|O.q 1 rfl<|O.nil<|S.aQ rfl<|S.seq<|S.bB (L:=[0,1,2,3,4,5,6,7]) bA aa ?_;refine .quiet (.p rfl) rfl (fun _=>.fieldAddr wZ rfl)<|.quiet (.p rfl) rfl (fun _=>.loadAt cv rfl h4 rfl) ?_;refine af.q 1 rfl<|.quiet (.p rfl) rfl (fun _=>.nilCheck rfl)<|.quiet (.p rfl) rfl (fun _=>.aD zy rfl)<|af.cu (.p rfl) aa (fun _=>.cS cv aK ai aK) ?_;refine .quiet (.p rfl) rfl (fun _=>.neq rfl rfl)<|af.sT 27 rfl (by exact decide_eq_true hne) ?_;refine af.q 1 rfl<|aI.nil<|S.bx rfl<|S.skip<|S.bx rfl<|S.seq<|S.region rfl<|O.q 2 rfl<|O.nil<|S.cB (A:=fD d bh s L peer false) (bs:=[obj bh 89 [.pointer (some ⟨bH,0,none⟩),.map (some mp),.int .i64 0,.int .i64 peer,.bool false],bl aJ d bH s L,ck encS mp [] 0]) bf (fun m h=>fD.fold h) ?_;refine S.mW results53 rfl rfl fun w hw=>Holds.end_ hR hw ?_;exact pk ⟨rfl,rfl⟩
theorem Jk {k m g:Fr} (h:m.sub g) (x:jK k m):k.sub g:=by
 have e:m=k:=x;exact e ▸ h
theorem Lm {d k g:Fr} {b s:Nat} {L:List aG} {m:Fr} (hd:d.sub g) (hk:k.sub g) (h:Sat [dX aJ d k b s L] m):dX aJ g Fr.emp b s L m:=by
 obtain ⟨m1,_,_,s1,_,o,_⟩:=h;obtain ⟨c8,c9,mid,M,c,hwf,hs⟩:=dX.TN hd hk o;exact ⟨c8,c9,mid,M,c,hwf,Sat.mono s1 hs⟩
theorem E2 {r:Fr} {peer KY:Int} {a:Option Addr} {n c:Nat}:ay prog 58 #[.int .i64 peer,.int .i64 KY,.slice a n c] r [] (aL fun v U=>∃ a' c',v=.agg #[.int .i64 peer,.int .i64 KY,.int .i64 1,.slice a n c,.slice a' 64 c']∧U=[av ag.u8 5 (.slice a' 64 c') (List.replicate 64 0)]):=by
 refine ay.of (n:=12) _ rfl func58 rfl rfl rfl fun g hg R hR=>?_;refine S.seq<|S.region rfl<|O.aM (.p rfl) (.alloc (cs:=[.int .i64 0,.int .i64 0,.int .i64 0,.slice none 0 0,.slice none 0 0]) zeroValue81 rfl) ?_;rintro _ _ ⟨fW,rfl,rfl⟩;refine O.nil<|S.seq<|S.region rfl<|O.q 3 rfl<|O.aM (.p rfl) (.Am (T:=ag.u8) 0 (m:=64) underlying24 eR aC rfl rfl rfl rfl rfl aC aC) ?_;rintro _ _ ⟨oP,oV,rfl,rfl⟩;refine O.op (.p rfl) (.build (cs:=[_,_,_,_,_]) underlying81 rfl rfl rfl rfl rfl)<|O.bu rfl (.cZ aa rfl rfl rfl rfl ai aW) ?_;refine O.nil<|S.vX results58 isAgg81 aa rfl ai fun w hw=>Holds.end_ hR hw ?_;exact pk ⟨oP,oV,rfl,rfl⟩
theorem KA {p:Int} {t:List UInt8} (hp:1≤p∧p≤7) (ht:t.length=64):oE (p,1,1,t,List.replicate 64 0,())=true :=
 AX.2 ⟨AY.2 ⟨hp.1,hp.2,(by decide:(0:Int)≤1),(by decide:(1:Int)<4),(by decide:(1:Int)≤1),(by decide:(1:Int)≤1073741824),ht⟩,List.length_replicate ..⟩
theorem Mk {r:Fr} (hH:At r ⟨0,0,none⟩ (bR er)) (hK:At r ⟨1,0,none⟩ (bR gr)):ay prog 51 #[] r [] (aL fun v U=>v=.bool true∧U=[]):=by
 refine ay.of (n:=57) _ rfl func51 rfl rfl rfl fun g hg R hR=>?_;have hH:=hH.mono hg;have hK:=hK.mono hg;have iE:(bZ [] []).length=64:=qn (iv.nil 1) [];have I1:(ek ((1:Nat):Int) (bZ [] [])).length=64:=by unfold ek;rw [if_pos ⟨by omega,by omega,iE⟩,qj]
 have QN:jX [] []=bZ [] []:=by unfold jX;rw [if_pos ⟨by simp,fun c hc=>by cases hc⟩]
 have hT:gK g.h Fr.emp 1 []:=⟨Fr.cV _,iv.nil 1,⟨by simp,fun _ h=>by cases h⟩,hH,hK⟩;refine S.seq<|S.region rfl<|O.q 1 rfl<|O.nil<|S.seq<|S.region rfl<|O.aB (.p rfl) rfl aa rfl rfl ((To (s:=1) aC)) ?_;rintro _ _ ⟨j7,rfl,rfl⟩
 try simp only [an,aq,au]
 refine O.q 1 rfl<|O.nil<|S.seq<|S.region rfl<|O.q 1 rfl<|O.bM (.p rfl) rfl aa rfl rfl ai (FA (peer:=3) (tY:=1) hT aC aC aC) ?_;rintro _ _ ⟨wF,rfl,rfl⟩
 try simp only [an,aq,au]
 refine O.q 1 rfl<|O.nil<|S.seq<|S.cB (A:=bl aJ Fr.emp j7 1 []) (bs:=[dX aJ Fr.emp Fr.emp j7 1 []]) bf (fun m h=>dX.toX h) ?_;refine S.region rfl<|O.q 2 rfl<|O.bM (.p rfl) rfl aa rfl rfl ai (FL hT aC) ?_;rintro _ _ ⟨nV,n4,rfl,rfl⟩
 try simp only [an,aq,au]
 refine O.fo ai fun g hs hm l5=>?_;replace hg:=Fr.aH hg hs;replace hR:=bp hR hm
 try replace hH:=hH.mono hs
 try replace hK:=hK.mono hs
 try replace hT:=hT.mono hs
 clear hs hm;refine O.aB (.p rfl) rfl aa rfl rfl ((E2)) ?_;rintro _ _ ⟨wB,wI,rfl,rfl⟩
 try simp only [an,aq,au]
 refine O.fo ai fun g hs hm ph=>?_;replace hg:=Fr.aH hg hs;replace hR:=bp hR hm
 try replace hH:=hH.mono hs
 try replace hK:=hK.mono hs
 try replace hT:=hT.mono hs
 try replace l5:=l5.mono hs
 clear hs hm;refine O.q 1 rfl<|O.bM (.p rfl) rfl aa rfl rfl ai (v8 (p:=[]) hT bI) ?_;rintro _ _ ⟨a17,qx,rfl,rfl⟩
 try simp only [an,aq,au]
 rw [QN];refine O.fo ai fun g hs hm l6=>?_;replace hg:=Fr.aH hg hs;replace hR:=bp hR hm
 try replace hH:=hH.mono hs
 try replace hK:=hK.mono hs
 try replace hT:=hT.mono hs
 try replace l5:=l5.mono hs
 try replace ph:=ph.mono hs
 clear hs hm;refine O.bM (.p rfl) rfl aa rfl rfl ai (VQ (x:=(3,1,1,ek ((1:Nat):Int) (bZ [] []),List.replicate 64 0,())) hT aC (jg.mk ⟨by decide,by decide⟩ ⟨by decide,by decide⟩ ⟨by decide,by decide⟩ l5 ph) (KA aC I1) rfl l6 rfl) ?_;rintro _ _ ⟨rfl,rfl⟩
 try simp only [an,aq,au]
 refine O.q 5 rfl<|O.nil<|S.seq<|S.open (bs:=fun k:Fr=>[jK k,dX aJ Fr.emp k j7 1 []]) ai (fun m x=>x) fun k=>?_;simp only [List.cons_append,List.nil_append];refine S.d_ (A:=jK k) ai fun g hs hm ⟨_,x',s'⟩=>?_;have hk:=Jk s' x';clear x' s';replace hg:=Fr.aH hg hs;replace hR:=bp hR hm
 try replace hH:=hH.mono hs
 try replace hK:=hK.mono hs
 try replace hT:=hT.mono hs
 try replace l5:=l5.mono hs
 try replace ph:=ph.mono hs
 try replace l6:=l6.mono hs
 clear hs hm;obtain ⟨e,he⟩:∃ e:Fr,e=g.h:=⟨_,rfl⟩;have qJ:gK g.h e 1 []:=⟨he ▸ Fr.bU _,iv.nil 1,⟨by simp,fun _ h=>by cases h⟩,hH,hK⟩;refine S.cB (A:=dX aJ e Fr.emp j7 1 []) (bs:=[dX aJ Fr.emp k j7 1 []]) bf (fun m h=>Lm (Fr.cV _) (he ▸ hk) h) ?_;refine S.region rfl<|O.q 1 rfl<|O.bM (.p rfl) rfl aa rfl rfl ai (FA (peer:=3) (tY:=1) qJ aC aC aC) ?_;rintro _ _ ⟨X1,rfl,rfl⟩
 try simp only [an,aq,au]
 refine O.q 1 rfl<|O.nil<|S.seq<|S.cB (A:=bl aJ e j7 1 []) (bs:=[dX aJ e Fr.emp j7 1 []]) bf (fun m h=>dX.toX h) ?_;refine S.region rfl<|O.q 2 rfl<|O.bM (.p rfl) rfl aa rfl rfl ai (FL qJ aC) ?_;rintro _ _ ⟨a26,iA,rfl,rfl⟩
 try simp only [an,aq,au]
 refine O.fo ai fun g hs hm xa=>?_;replace hg:=Fr.aH hg hs;replace hR:=bp hR hm
 try replace hH:=hH.mono hs
 try replace hK:=hK.mono hs
 try replace hT:=hT.mono hs
 try replace l5:=l5.mono hs
 try replace ph:=ph.mono hs
 try replace l6:=l6.mono hs
 try replace hk:=hk.mono hs
 try replace qJ:=qJ.mono hs
 clear hs hm;refine O.aB (.p rfl) rfl aa rfl rfl ((E2)) ?_;rintro _ _ ⟨a27,sX,rfl,rfl⟩
 try simp only [an,aq,au]
 refine O.fo ai fun g hs hm vo=>?_;replace hg:=Fr.aH hg hs;replace hR:=bp hR hm
 try replace hH:=hH.mono hs
 try replace hK:=hK.mono hs
 try replace hT:=hT.mono hs
 try replace l5:=l5.mono hs
 try replace ph:=ph.mono hs
 try replace l6:=l6.mono hs
 try replace hk:=hk.mono hs
 try replace qJ:=qJ.mono hs
 try replace xa:=xa.mono hs
 clear hs hm;refine O.q 1 rfl<|O.bM (.p rfl) rfl aa rfl rfl ai (v8 (p:=[]) qJ bI) ?_;rintro _ _ ⟨a29,BW,rfl,rfl⟩
 try simp only [an,aq,au]
 refine O.fo ai fun g hs hm H_=>?_;replace hg:=Fr.aH hg hs;replace hR:=bp hR hm
 try replace hH:=hH.mono hs
 try replace hK:=hK.mono hs
 try replace hT:=hT.mono hs
 try replace l5:=l5.mono hs
 try replace ph:=ph.mono hs
 try replace l6:=l6.mono hs
 try replace hk:=hk.mono hs
 try replace qJ:=qJ.mono hs
 try replace xa:=xa.mono hs
 try replace vo:=vo.mono hs
 clear hs hm;refine O.bM (.p rfl) rfl aa rfl rfl ai (VR (peer:=3) (x:=(4,1,1,ek ((1:Nat):Int) (bZ [] []),List.replicate 64 0,())) (jg.mk ⟨by decide,by decide⟩ ⟨by decide,by decide⟩ ⟨by decide,by decide⟩ xa vo) (KA aC I1) aC aC ⟨_,_,_,rfl⟩) ?_;rintro _ _ ⟨rfl,rfl⟩
 try simp only [an,aq,au]
 refine O.q 5 rfl<|O.nil<|S.seq<|S.region rfl<|O.q 1 rfl<|O.op (.p rfl) (.eql rfl rfl)<|O.sT 34 rfl aK ?_;refine O.q 2 rfl<|O.op (.g rfl rfl) (.len rfl underlying53 rfl)<|O.op (.g rfl rfl) (.eql rfl rfl)<|O.sT 38 rfl aK ?_;refine O.q 3 rfl<|O.bM (.g rfl rfl) rfl aa rfl rfl ai (KJ aC) ?_;rintro _ _ ⟨rfl,rfl⟩
 try simp only [an,aq,au]
 refine O.sT 42 rfl aK ?_;refine O.q 3 rfl<|O.op (.g rfl rfl) (.eql rfl rfl)<|O.sT 46 rfl aK ?_;refine O.q 3 rfl<|O.bM (.g rfl rfl) rfl aa rfl rfl ai (KJ aC) ?_;rintro _ _ ⟨rfl,rfl⟩
 try simp only [an,aq,au]
 refine O.aN 50 rfl aK ?_;refine O.op (.g rfl rfl) (.not rfl)<|O.q 2 rfl<|O.aB (.g rfl rfl) rfl aa rfl rfl ((VO Ts)) ?_;rintro _ _ ⟨rfl,rfl⟩
 try simp only [an,aq,au]
 refine O.op (.g rfl rfl) (.rK underlying82 rfl rfl)<|O.sT 55 rfl aK ?_;refine O.q 2 rfl<|O.nil ?_;exact S.rt results51 rfl hR ⟨rfl,rfl⟩
end Go.Proofs.YtojafegjlahajaaGreatDoor
