/- Texts of this proof. -/
import Derived.Test.YtojafegjlahajaaGreatDoorQTree9
open Go Go.Sp Go.Proofs.Tryz
set_option maxRecDepth 100000
set_option maxHeartbeats 1000000
attribute [local irreducible] obj Own av
namespace Go.Proofs.YtojafegjlahajaaGreatDoor
attribute [local irreducible] bN bw
theorem Kn {d:Fr} {s:Nat} {L:List aD} {n:Nat} (hs:∀ k,n=k+1→wu d s L k):BM d s L n:=by
 intro r b p va a hT xE hp ha dg hal om
 obtain ⟨a1,c1,rfl⟩:=ha.shape;have hlen:(di p L).length=a.length:=by rw [← om];exact y3 dg
 refine ay.of (n:=73) _ rfl func99 rfl rfl rfl fun g hg R hR=>?_;have hT:=hT.mono hg;have ha:=ha.mono hg;have hps:(str p).size=p.length:=sJ p;refine S.seq<|S.region rfl<|O.aN (.p rfl) (.box (cs:=[_]) rfl rfl) ?_;rintro _ _ ⟨b3,rfl,rfl⟩;refine O.aN (.p rfl) (.box (cs:=[_]) rfl rfl) ?_;rintro _ _ ⟨b4,rfl,rfl⟩;refine O.aN (.p rfl) (.box (cs:=[_]) rfl rfl) ?_;rintro _ _ ⟨iN,rfl,rfl⟩;refine O.aN (.p rfl) (.alloc (cs:=[.int .u8 0,.slice none 0 0,.slice none 0 0,.slice none 0 0]) zeroValue27 rfl) ?_;rintro _ _ ⟨fU,rfl,rfl⟩;refine O.nil<|S.seq<|S.ep (A:=obj b3 42 [.pointer (some ⟨b,0,none⟩)]) ai fun g hs hm ⟨_,x',s'⟩=>?_;have h3:=(fun s x=>(ga x).mono s) s' x';clear x' s';replace hg:=Fr.aI hg hs;replace hR:=bu hR hm
 try replace hT:=hT.mono hs
 try replace ha:=ha.mono hs
 clear hs hm;refine S.ep (A:=obj b4 9 [.string (str p)]) ai fun g hs hm ⟨_,x',s'⟩=>?_;have h4:=(fun s x=>(ga x).mono s) s' x';clear x' s';replace hg:=Fr.aI hg hs;replace hR:=bu hR hm
 try replace hT:=hT.mono hs
 try replace ha:=ha.mono hs
 try replace h3:=h3.mono hs
 clear hs hm;refine S.ep (A:=obj iN 104 [.slice a1 a.length c1]) ai fun g hs hm ⟨_,x',s'⟩=>?_;have h5:=(fun s x=>(ga x).mono s) s' x';clear x' s';replace hg:=Fr.aI hg hs;replace hR:=bu hR hm
 try replace hT:=hT.mono hs
 try replace ha:=ha.mono hs
 try replace h3:=h3.mono hs
 try replace h4:=h4.mono hs
 clear hs hm;refine S.region rfl<|O.aN (.p rfl) (.J4 (T:=ag.cells 2) (c:=2) underlying25 lg rfl rfl rfl rfl aB aB) ?_;rintro _ _ ⟨k8,n_,rfl,rfl⟩;refine O.q 1 rfl<|O.nil<|S.seq<|S.seq<|S.ct (A:=cD (ek b8) 31 (.slice k8 0 n_) []) (bs:=[av (ag.cells 2) 31 (.slice k8 0 n_) []]) aW (fun m h=>TA rfl h) ?_
 by_cases h2:2≤a.length∧p.length<510
 ·obtain ⟨k,hk⟩:∃ k,n=k+1:=⟨n - 1,by omega⟩
  have hsk:wu d s L k:=hs k hk;have hx:=Bn (L:=L) (p:=p) ah h2.2;have Iu:=qn hT.ok (p++[48]);have Iv:=qn hT.ok (p++[49]);rw [hx] at hR;refine S.region rfl<|O.op (.p rfl) (.loadAt nA rfl h5 rfl) ?_;refine O.op (.p rfl) (.len rfl underlying104 rfl)<|O.op (.p rfl) (.lss rfl rfl)<|O.aM 14 rfl (by exact decide_eq_false ah) ?_;refine O.q 1 rfl<|O.op (.g rfl rfl) (.loadAt bQ rfl h4 rfl) ?_;refine O.op (.g rfl rfl) (.c5 rfl underlying9 rfl)<|O.op (.g rfl rfl) (.eql rfl rfl)<|O.aM 18 rfl (by exact decide_eq_false ah) ?_;refine O.q 1 rfl<|O.nil<|S.aQ rfl<|S.skip<|S.seq<|S.block<|S.seq<|S.region rfl<|O.op (.p rfl) (.loadAt nA rfl h5 rfl) ?_;refine O.op (.p rfl) (.len rfl underlying104 rfl)<|O.op (.p rfl) (.eql rfl rfl)<|O.aM 53 rfl (by exact decide_eq_false ah) ?_;refine O.q 1 rfl<|O.nil<|S.aQ rfl<|S.seq<|S.region rfl<|O.op (.p rfl) (.loadAt nA rfl h5 rfl) ?_;refine O.op (.p rfl) (.len rfl underlying104 rfl)<|O.op (.p rfl) (.eql rfl rfl)<|O.aM 58 rfl (by exact decide_eq_false ah) ?_;refine O.q 1 rfl<|O.nil<|S.aQ rfl<|S.seq<|S.region rfl<|O.op (.p rfl) (.loadAt bQ rfl h4 rfl) ?_;refine O.op (.p rfl) (.c5 rfl underlying9 rfl)<|O.op (.p rfl) (.eql rfl rfl)<|O.aM 64 rfl (by exact decide_eq_false ah) ?_
  refine O.q 1 rfl<|O.nil<|S.aQ rfl<|S.skip<|S.inBlock<|S.seq<|S.region rfl<|O.op (.p rfl) (.jb rfl rfl)<|O.q 1 rfl<|O.nil<|S.seq<|S.region rfl<|O.q 1 rfl<|O.bM (.p rfl) rfl aa rfl rfl ai (IJ hsk (.inl rfl) hT ah hp ha dg hal om h3 h4 h5) ?_;rintro _ _ ⟨B0,Ci,rfl,rfl⟩
  try simp only [an,aq,au]
  refine O.q 1 rfl<|O.bM (.p rfl) rfl aa rfl rfl ai (IJ hsk (.inr rfl) hT ah hp ha dg hal om h3 h4 h5) ?_;rintro _ _ ⟨Mu,Nd,rfl,rfl⟩
  try simp only [an,aq,au]
  refine O.op (.p rfl) (.build (cs:=[_,_,_,_]) underlying27 rfl rfl rfl rfl rfl)<|O.bB rfl (.c9 aa rfl rfl rfl rfl ai aX) ?_;refine O.nil<|S.q6 (ek b8) 31 ?_;refine S.vX results99 isAgg27 aa rfl ai fun w hw=>Holds.end_ hR hw ?_;exact pk ⟨B0,Ci,Mu,Nd,none,0,by rw [Iu,Iv];rfl,by rw [Iu,Iv]⟩
 ·have hall:a.length<2∨p.length=510:=by omega
  obtain ⟨lv,hlv⟩:∃ lv,lv=gf L a:=⟨_,rfl⟩;have Pu:lv.length=a.length:=by rw [hlv];exact y3 dg
  have tJ:∀ i (h:i<a.length) (h' :i<lv.length),lv[i]=L[a[i]]'(dg _ (List.getElem_mem h)):=by subst hlv;exact fun i h h' =>G2 dg i h
  have ov:di p L=lv:=by rw [hlv,om]
  refine S.vb (fun (v:Option Addr × Nat)=>True) (fun (v:Option Addr × Nat)=>[(7,.slice v.1 lv.length v.2)]) [(3,_),(4,_),(5,_),(6,_)] (fun (v:Option Addr × Nat)=>[cD (ek b8) 31 (.slice v.1 lv.length v.2) lv,obj fU 27 [.int .u8 0,.slice none 0 0,.slice none 0 0,.slice none 0 0],aY aF d b s L]) (.cons rfl (.cons rfl (.cons rfl (.cons rfl (.nil))))) (fun key=>?_) (fun v hx=>?_)
  ·have bh:=cH (g:=g)
   by_cases q2:a.length<2
   ·
    refine S.region rfl<|O.op (.p rfl) (.loadAt nA rfl h5 rfl) ?_;refine O.op (.p rfl) (.len rfl underlying104 rfl)<|O.op (.p rfl) (.lss rfl rfl)<|O.sT 14 rfl (by exact decide_eq_true ah) ?_;refine O.q 5 rfl<|O.nil<|S.bx rfl<|S.seq<|S.region rfl<|O.op (.p rfl) (.loadAt nA rfl h5 rfl) ?_;refine O.op (.p rfl) (.len rfl underlying104 rfl)<|O.q 1 rfl<|O.nil<|S.block<|S.jO (ι:=Nat) (dJ:=Option Addr × Nat) (fun i u=>i≤a.length) (fun i u=>[(22,.int .i64 (i:Int)),(7,.slice u.1 (lv.take i).length u.2)]) [(3,_),(4,_),(5,_),(6,_),(20,_),(21,_)] (fun i u=>[cD (ek b8) 31 (.slice u.1 (lv.take i).length u.2) (lv.take i),obj fU 27 [.int .u8 0,.slice none 0 0,.slice none 0 0,.slice none 0 0],aY aF d b s L]) (fun i u=>a.length - i) (0) ((k8,n_)) bL (.cons rfl (.cons rfl (.nil))) (.cons rfl (.cons rfl (.cons rfl (.cons rfl (.cons rfl (.cons rfl (.nil))))))) rfl fun i u hx ih=>?_;have hm2:=cH (g:=g);refine S.seq<|S.region rfl<|O.op (.p rfl) (.lss rfl rfl)<|O.nil (S.seq ?_)
    first|refine S.cm rfl (fun h23=>?_) (fun h23=>?_)|refine S.b_ rfl (fun h23=>?_) (fun h23=>?_)
    ·have hi:i<a.length:=by omega
     have j7:i<lv.length:=by omega
     have iZ:=dg _ (List.getElem_mem hi);have hbL:L.length≤10000000:=hT.small.1;have pH:=hT.small.2 _ (List.getElem_mem iZ);have iy:=(hT.ok.1 _ (List.getElem_mem iZ)).1;have DP:cK ((a[i]:Nat):Int):=⟨by omega,by omega⟩;have DO:=tJ i hi j7;have eW:lv.take i++[lv[i]]=lv.take (i+1):=(List.take_succ_eq_append_getElem j7).symm;have jx:(lv.take i).length=i:=by simp;omega
     have xO:(lv.take (i+1)).length=i+1:=by simp;omega
     have fq:=hg;have fp:=hR
     try have qL:=hT
     try have nK:=ha
     try have Dc:=h3
     try have Dg:=h4
     try have Di:=h5
     refine S.iw (B:=aY aF d b s L) ai fun go cN ⟨qd,hmo,jw⟩ eV=>?_;replace hg:=Fr.aI hg cN;replace hR:=ig hR eV
     try replace hT:=hT.mono cN
     try replace ha:=ha.mono cN
     try replace h3:=h3.mono cN
     try replace h4:=h4.mono cN
     try replace h5:=h5.mono cN
     have hA:=aY.a hT.hd jw hmo;obtain ⟨cS,cT,cF,cG,mid,tG,tD,Iy⟩:=hA;refine S.ug (G:=ek b8) (k' :=2) rfl ai fun ak ec=>?_;refine S.skip<|S.seq<|S.block<|S.seq<|S.region rfl<|O.bR (.p rfl) underlying104 sH rfl rfl rfl (by first|assumption|exact aj.mono hg zE|exact aj.left zE|exact aj.left (aj.mono hg zE)) (h:=fun yl wP l9 px=>?_);obtain ⟨rfl,RD⟩:=px;refine O.op (.p rfl) (.loadAt cz rfl l9 rfl) ?_;refine O.slot 25 (v' :=.int .i64 ((a[i]:Nat):Int)) rfl aK ?_;refine O.q 1 rfl<|O.nil ?_;rw [← ec];refine S.bC (L:=[0,1,2,3,4,5,6,7,8,9,10,11,12,13,14,15,16,17,18,19,20,21,22,23]) bz aa ?_;refine af.q 1 rfl<|.quiet (.p rfl) rfl (fun _=>.loadAt o6 rfl h3 rfl) ?_;refine .quiet (.p rfl) rfl (fun _=>.nilCheck rfl)<|.quiet (.p rfl) rfl (fun _=>.fieldAddr lu rfl)<|.quiet (.p rfl) rfl (fun _=>.fieldAddr gG rfl)<|.quiet (.p rfl) rfl (fun _=>.loadAt dV rfl tG rfl) ?_;refine af.q 1 rfl<|af.bR (.p rfl) underlying25 cQ rfl rfl (show _=(((a[i]):Nat):Int) by omega) (tD) (h:=fun Fu CC tQ tW=>?_);obtain ⟨l1,m1,rfl,l2,l3⟩:=bP.sh tW;refine .quiet (.p rfl) rfl (fun _=>.fieldAddr ef rfl)<|.quiet (.p rfl) rfl (fun _=>.loadAt bQ rfl tQ rfl) ?_;refine .quiet (.p rfl) rfl (fun _=>.loadAt o6 rfl h3 rfl) ?_
     refine .quiet (.p rfl) rfl (fun _=>.nilCheck rfl)<|.quiet (.p rfl) rfl (fun _=>.fieldAddr lu rfl)<|.quiet (.p rfl) rfl (fun _=>.fieldAddr gG rfl)<|.quiet (.p rfl) rfl (fun _=>.loadAt dV rfl tG rfl) ?_;refine af.q 1 rfl<|af.bR (.p rfl) underlying25 cQ rfl rfl (show _=(((a[i]):Nat):Int) by omega) (tD) (h:=fun UH NS Ec EA=>?_);obtain ⟨l4,m4,rfl,JI,Ap⟩:=bP.sh EA;refine .quiet (.p rfl) rfl (fun _=>.fieldAddr eA rfl)<|.quiet (.p rfl) rfl (fun _=>.loadAt dO rfl (Ec.drop 1) rfl) ?_;refine af.aC (.p rfl) aa rfl aa rfl rfl ((yh Ap iy.2.1 ah)) ?_;rintro _ _ ⟨a45,wJ,rfl,rfl⟩
     try simp only [an,aq,au]
     refine .quiet (.p rfl) rfl (fun _=>.build (cs:=[_,_]) underlying31 rfl rfl rfl rfl rfl)<|af.cA (T:=(ag.cells 2)) (ys:=[_]) (.p rfl) aa underlying25 lg aB rfl rfl ⟨⟨rfl,rfl,by first|(simp;done)|(intro v hv;simp [Value.cells] at hv;rcases hv with rfl|rfl<;>rfl)|(refine List.forall_mem_cons.2 ⟨rfl,?_⟩;repeat (first|exact (fun _ h=>absurd h List.not_mem_nil)|refine List.forall_mem_cons.2 ⟨rfl,?_⟩))⟩,trivial⟩ aB (fun wB wK=>?_);refine af.gN (.p rfl) aa (T:=(ag.cells 2)) underlying25 lg aB rfl rfl ai ai bD bD (fun rE rJ=>?_);refine af.q 1 rfl<|aJ.nil<|S.inBlock<|S.back eV ?_;replace hg:=fq;replace hR:=fp
     try replace hT:=qL
     try replace ha:=nK
     try replace h3:=Dc
     try replace h4:=Dg
     try replace h5:=Di
     clear fq fp;rw [DO] at eW;refine S.ct (A:=(ek b8).own [.string (str (L[a[i]]'iZ).1),.slice a45 (L[a[i]]'iZ).2.1.length wJ] ((L[a[i]]'iZ).1,(L[a[i]]'iZ).2.1,())) (bs:=[cD (dr b8) 102 (.slice a45 (L[a[i]]'iZ).2.1.length wJ) (L[a[i]]'iZ).2.1]) aW (fun m h=>ek.mk (by have:=iy.1.2;omega) h) ?_;refine S.x5 (G:=ek b8) (k' :=2) rfl ai ai ai ?_;rw [show ((L[a[i]]'iZ).1,(L[a[i]]'iZ).2.1,())=L[a[i]]'iZ from rfl,eW];refine S.slot 7 (v' :=.slice rE (lv.take (i+1)).length rJ) rfl (by rw [ec,jx,xO];rfl) ?_;simp only [List.length_singleton];rw [show ak.length+1=(lv.take (i+1)).length by omega];refine S.region rfl<|O.op (.p rfl) (.add rfl rfl (IntWalk.i64_in _ ah))<|O.q 1 rfl<|O.nil ?_;exact S.pw (ih (i+1) ((rE,rJ)) ah ah)
    ·clear ih
     have hi:i=a.length:=by omega
     subst hi;rw [List.take_of_length_le ah];refine S.exit rfl<|S.pk ?_ (S.weaken ?_ (key (u) (by trivial)))
     ·repeat (first|exact aS|exact aU|(apply aT;focus (repeat (first|exact aR|apply zt)))|apply aV)
     repeat (first|exact Sub.nil|refine Sub.cons rfl ?_)
   ·
    refine S.region rfl<|O.op (.p rfl) (.loadAt nA rfl h5 rfl) ?_;refine O.op (.p rfl) (.len rfl underlying104 rfl)<|O.op (.p rfl) (.lss rfl rfl)<|O.aM 14 rfl (by exact decide_eq_false ah) ?_;refine O.q 1 rfl<|O.op (.g rfl rfl) (.loadAt bQ rfl h4 rfl) ?_;refine O.op (.g rfl rfl) (.c5 rfl underlying9 rfl)<|O.op (.g rfl rfl) (.eql rfl rfl)<|O.sT 18 rfl (by exact decide_eq_true ah) ?_;refine O.q 1 rfl<|O.nil<|S.bx rfl<|S.seq<|S.region rfl<|O.op (.p rfl) (.loadAt nA rfl h5 rfl) ?_;refine O.op (.p rfl) (.len rfl underlying104 rfl)<|O.q 1 rfl<|O.nil<|S.block<|S.jO (ι:=Nat) (dJ:=Option Addr × Nat) (fun i u=>i≤a.length) (fun i u=>[(22,.int .i64 (i:Int)),(7,.slice u.1 (lv.take i).length u.2)]) [(3,_),(4,_),(5,_),(6,_),(20,_),(21,_)] (fun i u=>[cD (ek b8) 31 (.slice u.1 (lv.take i).length u.2) (lv.take i),obj fU 27 [.int .u8 0,.slice none 0 0,.slice none 0 0,.slice none 0 0],aY aF d b s L]) (fun i u=>a.length - i) (0) ((k8,n_)) bL (.cons rfl (.cons rfl (.nil))) (.cons rfl (.cons rfl (.cons rfl (.cons rfl (.cons rfl (.cons rfl (.nil))))))) rfl fun i u hx ih=>?_;have hm2:=cH (g:=g);refine S.seq<|S.region rfl<|O.op (.p rfl) (.lss rfl rfl)<|O.nil (S.seq ?_)
    first|refine S.cm rfl (fun h23=>?_) (fun h23=>?_)|refine S.b_ rfl (fun h23=>?_) (fun h23=>?_)
    ·have hi:i<a.length:=by omega
     have j7:i<lv.length:=by omega
     have iZ:=dg _ (List.getElem_mem hi);have hbL:L.length≤10000000:=hT.small.1;have pH:=hT.small.2 _ (List.getElem_mem iZ);have iy:=(hT.ok.1 _ (List.getElem_mem iZ)).1;have DP:cK ((a[i]:Nat):Int):=⟨by omega,by omega⟩;have DO:=tJ i hi j7;have eW:lv.take i++[lv[i]]=lv.take (i+1):=(List.take_succ_eq_append_getElem j7).symm;have jx:(lv.take i).length=i:=by simp;omega
     have xO:(lv.take (i+1)).length=i+1:=by simp;omega
     have fq:=hg;have fp:=hR
     try have qL:=hT
     try have nK:=ha
     try have Dc:=h3
     try have Dg:=h4
     try have Di:=h5
     refine S.iw (B:=aY aF d b s L) ai fun go cN ⟨qd,hmo,jw⟩ eV=>?_;replace hg:=Fr.aI hg cN;replace hR:=ig hR eV
     try replace hT:=hT.mono cN
     try replace ha:=ha.mono cN
     try replace h3:=h3.mono cN
     try replace h4:=h4.mono cN
     try replace h5:=h5.mono cN
     have hA:=aY.a hT.hd jw hmo;obtain ⟨cS,cT,cF,cG,mid,tG,tD,Iy⟩:=hA;refine S.ug (G:=ek b8) (k' :=2) rfl ai fun ak ec=>?_;refine S.skip<|S.seq<|S.block<|S.seq<|S.region rfl<|O.bR (.p rfl) underlying104 sH rfl rfl rfl (by first|assumption|exact aj.mono hg zE|exact aj.left zE|exact aj.left (aj.mono hg zE)) (h:=fun yl wP l9 px=>?_);obtain ⟨rfl,RD⟩:=px;refine O.op (.p rfl) (.loadAt cz rfl l9 rfl) ?_;refine O.slot 25 (v' :=.int .i64 ((a[i]:Nat):Int)) rfl aK ?_;refine O.q 1 rfl<|O.nil ?_;rw [← ec];refine S.bC (L:=[0,1,2,3,4,5,6,7,8,9,10,11,12,13,14,15,16,17,18,19,20,21,22,23]) bz aa ?_;refine af.q 1 rfl<|.quiet (.p rfl) rfl (fun _=>.loadAt o6 rfl h3 rfl) ?_;refine .quiet (.p rfl) rfl (fun _=>.nilCheck rfl)<|.quiet (.p rfl) rfl (fun _=>.fieldAddr lu rfl)<|.quiet (.p rfl) rfl (fun _=>.fieldAddr gG rfl)<|.quiet (.p rfl) rfl (fun _=>.loadAt dV rfl tG rfl) ?_;refine af.q 1 rfl<|af.bR (.p rfl) underlying25 cQ rfl rfl (show _=(((a[i]):Nat):Int) by omega) (tD) (h:=fun Fu CC tQ tW=>?_);obtain ⟨l1,m1,rfl,l2,l3⟩:=bP.sh tW;refine .quiet (.p rfl) rfl (fun _=>.fieldAddr ef rfl)<|.quiet (.p rfl) rfl (fun _=>.loadAt bQ rfl tQ rfl) ?_;refine .quiet (.p rfl) rfl (fun _=>.loadAt o6 rfl h3 rfl) ?_
     refine .quiet (.p rfl) rfl (fun _=>.nilCheck rfl)<|.quiet (.p rfl) rfl (fun _=>.fieldAddr lu rfl)<|.quiet (.p rfl) rfl (fun _=>.fieldAddr gG rfl)<|.quiet (.p rfl) rfl (fun _=>.loadAt dV rfl tG rfl) ?_;refine af.q 1 rfl<|af.bR (.p rfl) underlying25 cQ rfl rfl (show _=(((a[i]):Nat):Int) by omega) (tD) (h:=fun UH NS Ec EA=>?_);obtain ⟨l4,m4,rfl,JI,Ap⟩:=bP.sh EA;refine .quiet (.p rfl) rfl (fun _=>.fieldAddr eA rfl)<|.quiet (.p rfl) rfl (fun _=>.loadAt dO rfl (Ec.drop 1) rfl) ?_;refine af.aC (.p rfl) aa rfl aa rfl rfl ((yh Ap iy.2.1 ah)) ?_;rintro _ _ ⟨a45,wJ,rfl,rfl⟩
     try simp only [an,aq,au]
     refine .quiet (.p rfl) rfl (fun _=>.build (cs:=[_,_]) underlying31 rfl rfl rfl rfl rfl)<|af.cA (T:=(ag.cells 2)) (ys:=[_]) (.p rfl) aa underlying25 lg aB rfl rfl ⟨⟨rfl,rfl,by first|(simp;done)|(intro v hv;simp [Value.cells] at hv;rcases hv with rfl|rfl<;>rfl)|(refine List.forall_mem_cons.2 ⟨rfl,?_⟩;repeat (first|exact (fun _ h=>absurd h List.not_mem_nil)|refine List.forall_mem_cons.2 ⟨rfl,?_⟩))⟩,trivial⟩ aB (fun wB wK=>?_);refine af.gN (.p rfl) aa (T:=(ag.cells 2)) underlying25 lg aB rfl rfl ai ai bD bD (fun rE rJ=>?_);refine af.q 1 rfl<|aJ.nil<|S.inBlock<|S.back eV ?_;replace hg:=fq;replace hR:=fp
     try replace hT:=qL
     try replace ha:=nK
     try replace h3:=Dc
     try replace h4:=Dg
     try replace h5:=Di
     clear fq fp;rw [DO] at eW;refine S.ct (A:=(ek b8).own [.string (str (L[a[i]]'iZ).1),.slice a45 (L[a[i]]'iZ).2.1.length wJ] ((L[a[i]]'iZ).1,(L[a[i]]'iZ).2.1,())) (bs:=[cD (dr b8) 102 (.slice a45 (L[a[i]]'iZ).2.1.length wJ) (L[a[i]]'iZ).2.1]) aW (fun m h=>ek.mk (by have:=iy.1.2;omega) h) ?_;refine S.x5 (G:=ek b8) (k' :=2) rfl ai ai ai ?_;rw [show ((L[a[i]]'iZ).1,(L[a[i]]'iZ).2.1,())=L[a[i]]'iZ from rfl,eW];refine S.slot 7 (v' :=.slice rE (lv.take (i+1)).length rJ) rfl (by rw [ec,jx,xO];rfl) ?_;simp only [List.length_singleton];rw [show ak.length+1=(lv.take (i+1)).length by omega];refine S.region rfl<|O.op (.p rfl) (.add rfl rfl (IntWalk.i64_in _ ah))<|O.q 1 rfl<|O.nil ?_;exact S.pw (ih (i+1) ((rE,rJ)) ah ah)
    ·clear ih
     have hi:i=a.length:=by omega
     subst hi;rw [List.take_of_length_le ah];refine S.exit rfl<|S.pk ?_ (S.weaken ?_ (key (u) (by trivial)))
     ·repeat (first|exact aS|exact aU|(apply aT;focus (repeat (first|exact aR|apply zt)))|apply aV)
     repeat (first|exact Sub.nil|refine Sub.cons rfl ?_)
  ·
   by_cases q0:a.length=0
   ·have hx:=yF (L:=L) (p:=p) (List.eq_nil_of_length_eq_zero ah)
    have hl0:lv=[]:=List.eq_nil_of_length_eq_zero ah;rw [hx] at hR;refine S.seq<|S.block<|S.seq<|S.region rfl<|O.op (.p rfl) (.loadAt nA rfl h5 rfl) ?_;refine O.op (.p rfl) (.len rfl underlying104 rfl)<|O.op (.p rfl) (.eql rfl rfl)<|O.sT 53 rfl (by exact decide_eq_true ah) ?_;refine O.q 1 rfl<|O.nil<|S.bx rfl<|S.seq<|S.region rfl<|O.op (.p rfl) (.build (cs:=[_,_,_,_]) underlying27 rfl rfl rfl rfl rfl)<|O.bB rfl (.c9 aa rfl rfl rfl rfl ai aX) ?_;refine O.nil<|S.q6 (ek b8) 31 ?_;refine S.gd (T:=ag.u8) (e:=5) ?_;refine S.gd (T:=ag.u8) (e:=5) ?_;refine S.vX results99 isAgg27 aa rfl ai fun w hw=>Holds.end_ hR hw ?_;exact pk ⟨none,0,none,0,none,0,rfl,rfl⟩
   ·by_cases q1:a.length=1
    ·obtain ⟨x,hx1⟩:=List.length_eq_one_iff.1 (show lv.length=1 by omega)
     have hx:=yG (L:=L) (p:=p) (x:=x) (by rw [ov,hx1]);subst hx1;rw [hx] at hR;refine S.seq<|S.block<|S.seq<|S.region rfl<|O.op (.p rfl) (.loadAt nA rfl h5 rfl) ?_;refine O.op (.p rfl) (.len rfl underlying104 rfl)<|O.op (.p rfl) (.eql rfl rfl)<|O.aM 53 rfl (by exact decide_eq_false ah) ?_;refine O.q 1 rfl<|O.nil<|S.aQ rfl<|S.seq<|S.region rfl<|O.op (.p rfl) (.loadAt nA rfl h5 rfl) ?_;refine O.op (.p rfl) (.len rfl underlying104 rfl)<|O.op (.p rfl) (.eql rfl rfl)<|O.sT 58 rfl (by exact decide_eq_true ah) ?_;refine O.q 1 rfl<|O.nil<|S.bx rfl<|S.seq<|S.region rfl<|O.q 1 rfl<|O.op (.p rfl) (.build (cs:=[_,_,_,_]) underlying27 rfl rfl rfl rfl rfl)<|O.bB rfl (.c9 aa rfl rfl rfl rfl ai aX) ?_;refine O.nil<|S.gd (T:=ag.u8) (e:=5) ?_;refine S.gd (T:=ag.u8) (e:=5) ?_;refine S.vX results99 isAgg27 aa rfl ai fun w hw=>Holds.end_ hR hw ?_;exact pk ⟨none,0,none,0,v.1,v.2,rfl,rfl⟩
    ·have hx:=Bm (L:=L) (p:=p) ah ah
     rw [ov] at hx;rw [hx] at hR;refine S.seq<|S.block<|S.seq<|S.region rfl<|O.op (.p rfl) (.loadAt nA rfl h5 rfl) ?_;refine O.op (.p rfl) (.len rfl underlying104 rfl)<|O.op (.p rfl) (.eql rfl rfl)<|O.aM 53 rfl (by exact decide_eq_false ah) ?_;refine O.q 1 rfl<|O.nil<|S.aQ rfl<|S.seq<|S.region rfl<|O.op (.p rfl) (.loadAt nA rfl h5 rfl) ?_;refine O.op (.p rfl) (.len rfl underlying104 rfl)<|O.op (.p rfl) (.eql rfl rfl)<|O.aM 58 rfl (by exact decide_eq_false ah) ?_;refine O.q 1 rfl<|O.nil<|S.aQ rfl<|S.seq<|S.region rfl<|O.op (.p rfl) (.loadAt bQ rfl h4 rfl) ?_;refine O.op (.p rfl) (.c5 rfl underlying9 rfl)<|O.op (.p rfl) (.eql rfl rfl)<|O.sT 64 rfl (by exact decide_eq_true ah) ?_;refine O.q 1 rfl<|O.nil<|S.bx rfl<|S.seq<|S.region rfl<|O.q 1 rfl<|O.op (.p rfl) (.build (cs:=[_,_,_,_]) underlying27 rfl rfl rfl rfl rfl)<|O.bB rfl (.c9 aa rfl rfl rfl rfl ai aX) ?_;refine O.nil<|S.gd (T:=ag.u8) (e:=5) ?_;refine S.gd (T:=ag.u8) (e:=5) ?_;refine S.vX results99 isAgg27 aa rfl ai fun w hw=>Holds.end_ hR hw ?_;exact pk ⟨none,0,none,0,v.1,v.2,rfl,rfl⟩
theorem Ff {d:Fr} {s:Nat} {L:List aD}:∀ n,BM d s L n
 |0=>Kn fun k hk=>by omega
 |n+1=>Kn fun k hk=>by
  have e:k=n:=by omega
  subst e;exact LK (Ff k)
theorem Xo {d:Fr} {s:Nat} {L:List aD} (n:Nat):wu d s L n:=LK (Ff n)
noncomputable def jB (L:List aD) (p:List UInt8):List UInt8:=if gJ p then bw L p else []
theorem ql {r d:Fr} {b s:Nat} {L:List aD} {p:List UInt8} (hT:fR r d s L) (hl:p.length≤9223372036854775807) :
  ay prog 33 #[.pointer (some ⟨b,0,none⟩),.string (str p)] r [aY aF d b s L] (aL fun v U=>∃ a c,v=.slice a (jB L p).length c∧U=[aY aF d b s L,av ag.u8 5 (.slice a (jB L p).length c) (jB L p)]):=by
 refine ay.of (n:=26) _ rfl func33 rfl rfl rfl fun g hg R hR=>?_;have hT:=hT.mono hg;have hbL:L.length≤10000000:=hT.small.1
 by_cases hp:gJ p
 ·have e:jB L p=bw L p:=by unfold jB;rw [if_pos hp]
  have gl:=qn hT.ok p;have nN:=hp.1;have ov:=Bo L p (List.range L.length);rw [List.length_range] at ov;have om:gf L (fC L p (List.range L.length))=di p L:=by rw [y4 L p _ (vV L),KU]
  rw [e] at hR;refine S.seq<|S.region rfl<|O.q 1 rfl<|O.nil<|S.seq<|S.seq<|S.region rfl<|O.q 1 rfl<|O.c4 (.p rfl) rfl aa rfl rfl (bs:=[aY aF d b s L]) aW (fun m hm hd=>qm (aY.gY hT.hd hd hm)) ?_;rintro _ _ ⟨rfl,rfl⟩
  try simp only [an,aq,au]
  refine O.sT 6 rfl aK ?_;refine O.op (.p rfl) (.not rfl)<|O.q 2 rfl<|O.aC (.g rfl rfl) rfl aa rfl rfl ((AD hl)) ?_;rintro _ _ ⟨rfl,rfl⟩
  try simp only [an,aq,au]
  refine O.sT 10 rfl (by exact decide_eq_true hp) ?_;refine O.op (.g rfl rfl) (.not rfl)<|O.q 1 rfl<|O.nil<|S.aQ rfl<|S.skip<|S.seq<|S.bC (L:=[0,1,2,3,4,5,6,7,8,9,10,11,12,13]) bz aa<|af.q 3 rfl<|.quiet (.p rfl) rfl (fun _=>.nilCheck rfl)<|.quiet (.p rfl) rfl (fun _=>.fieldAddr lu rfl)<|af.q 2 rfl<|.quiet (.p rfl) rfl (fun _=>.nilCheck rfl)<|.quiet (.p rfl) rfl (fun _=>.fieldAddr lu rfl)<|af.c4 (.p rfl) aa rfl aa rfl rfl (bs:=[aY aF d b s L]) aW (fun m hm hd=>GV (aY.gY hT.hd hd hm) hbL) ?_;rintro _ _ ⟨a22,ee,rfl,rfl⟩
  try simp only [an,aq,au]
  refine af.c4 (.p rfl) aa rfl aa rfl rfl (bs:=[aY aF d b s L,av ag.nat 3 (.slice a22 L.length ee) (List.range L.length)]) aW (fun m hm hd=>Gg (aY.gY hT.hd hd hm) ((KB hm).mono (Fr.dB hd)) (vV L) hl b9) ?_;rintro _ _ ⟨a23,Cc,rfl,rfl⟩
  try simp only [an,aq,au]
  refine af.eO (.p rfl) aa rfl aa rfl rfl (bs:=[aY aF d b s L,av ag.nat 3 (.slice a23 (fC L p (List.range L.length)).length Cc) (fC L p (List.range L.length))]) aW (ay.x2 (U:=[aY aF d b s L]) (bs:=[av ag.nat 3 (.slice a23 (fC L p (List.range L.length)).length Cc) (fC L p (List.range L.length))]) (fun m hm hd=>Xo (510 - p.length) (hT.mono (Fr.dh _ _)) ah hp ((vS hm).mono (Fr.dB hd)) (Ge (vV L)) ah om)) ?_;rintro _ _ ⟨a24,k9,rfl,rfl⟩
  try simp only [an,aq,au]
  refine af.c4 (.p rfl) aa rfl aa rfl rfl (bs:=[js aF d b s L (.slice a24 64 k9) (bw L p)]) aW (fun m hm hd=>eG (js.gY hT.hd hd hm) ah) ?_;rintro _ _ ⟨a25,qx,rfl,rfl⟩
  try simp only [an,aq,au]
  refine af.q 1 rfl<|aJ.nil<|S.ct (A:=aY aF d b s L) (bs:=[js aF d b s L (.slice a24 64 k9) (bw L p)]) aW (fun m h=>js.toX h) ?_;exact S.rt results33 rfl hR ⟨a25,qx,rfl,rfl⟩
 ·have e:jB L p=[]:=by unfold jB;rw [if_neg hp]
  rw [e] at hR;refine S.seq<|S.region rfl<|O.q 1 rfl<|O.nil<|S.seq<|S.seq<|S.region rfl<|O.q 1 rfl<|O.c4 (.p rfl) rfl aa rfl rfl (bs:=[aY aF d b s L]) aW (fun m hm hd=>qm (aY.gY hT.hd hd hm)) ?_;rintro _ _ ⟨rfl,rfl⟩
  try simp only [an,aq,au]
  refine O.sT 6 rfl aK ?_;refine O.op (.p rfl) (.not rfl)<|O.q 2 rfl<|O.aC (.g rfl rfl) rfl aa rfl rfl ((AD hl)) ?_;rintro _ _ ⟨rfl,rfl⟩
  try simp only [an,aq,au]
  refine O.aM 10 rfl (by exact decide_eq_false hp) ?_;refine O.op (.g rfl rfl) (.not rfl)<|O.q 1 rfl<|O.nil<|S.bx rfl<|S.seq<|S.region rfl<|O.q 1 rfl<|O.nil<|S.gd (T:=ag.u8) (e:=5) ?_;exact S.rt results33 rfl hR ⟨none,0,rfl,rfl⟩
abbrev Kg:ed:=(0,[],[],[],())
noncomputable def lG (L:List aD) (p:List UInt8):ed:=if gJ p then bN L p else Kg
noncomputable def uh (p:List UInt8):Int:=if gJ p then 0 else 2
theorem Xr {r d:Fr} {b s:Nat} {L:List aD} {p:List UInt8} (hT:fR r d s L) (hl:p.length≤9223372036854775807) :
  ay prog 34 #[.pointer (some ⟨b,0,none⟩),.string (str p)] r [aY aF d b s L] (aL fun v U=>∃ a1 k1 a2 k2 a3 bk,v=.tuple #[.agg #[bK (lG L p).1,.slice a1 (lG L p).2.1.length k1,.slice a2 (lG L p).2.2.1.length k2,.slice a3 (lG L p).2.2.2.1.length bk],.int .i64 (uh p)] ∧
   U=[aY aF d b s L,av ag.u8 5 (.slice a1 (lG L p).2.1.length k1) (lG L p).2.1,av ag.u8 5 (.slice a2 (lG L p).2.2.1.length k2) (lG L p).2.2.1,cD (ek b8) 31 (.slice a3 (lG L p).2.2.2.1.length bk) (lG L p).2.2.2.1]):=by
 refine ay.of (n:=28) _ rfl func34 rfl rfl rfl fun g hg R hR=>?_;have hT:=hT.mono hg;have hbL:L.length≤10000000:=hT.small.1
 by_cases hp:gJ p
 ·have e:lG L p=bN L p:=by unfold lG;rw [if_pos hp]
  have e2:uh p=0:=by unfold uh;rw [if_pos hp]
  have nN:=hp.1;have ov:=Bo L p (List.range L.length);rw [List.length_range] at ov;have om:gf L (fC L p (List.range L.length))=di p L:=by rw [y4 L p _ (vV L),KU]
  rw [e,e2] at hR;refine S.seq<|S.region rfl<|O.aN (.p rfl) (.alloc (cs:=[.int .u8 0,.slice none 0 0,.slice none 0 0,.slice none 0 0]) zeroValue27 rfl) ?_;rintro _ _ ⟨b4,rfl,rfl⟩;refine O.q 1 rfl<|O.nil<|S.seq<|S.block<|S.seq<|S.region rfl<|O.q 1 rfl<|O.c4 (.p rfl) rfl aa rfl rfl (bs:=[aY aF d b s L]) aW (fun m hm hd=>qm (aY.gY hT.hd hd hm)) ?_;rintro _ _ ⟨rfl,rfl⟩
  try simp only [an,aq,au]
  refine O.sT 8 rfl aK ?_;refine O.op (.p rfl) (.not rfl)<|O.q 1 rfl<|O.nil<|S.aQ rfl<|S.seq<|S.region rfl<|O.q 1 rfl<|O.aC (.p rfl) rfl aa rfl rfl ((AD hl)) ?_;rintro _ _ ⟨rfl,rfl⟩
  try simp only [an,aq,au]
  refine O.sT 13 rfl (by exact decide_eq_true hp) ?_;refine O.op (.p rfl) (.not rfl)<|O.q 1 rfl<|O.nil<|S.aQ rfl<|S.skip<|S.inBlock<|S.seq<|S.bC (L:=[0,1,2,3,4,5,6,7,8,9,10,11,12,13]) bz aa<|af.q 3 rfl<|.quiet (.p rfl) rfl (fun _=>.nilCheck rfl)<|.quiet (.p rfl) rfl (fun _=>.fieldAddr lu rfl)<|af.q 2 rfl<|.quiet (.p rfl) rfl (fun _=>.nilCheck rfl)<|.quiet (.p rfl) rfl (fun _=>.fieldAddr lu rfl)<|af.c4 (.p rfl) aa rfl aa rfl rfl (bs:=[aY aF d b s L]) aW (fun m hm hd=>GV (aY.gY hT.hd hd hm) hbL) ?_;rintro _ _ ⟨a25,qx,rfl,rfl⟩
  try simp only [an,aq,au]
  refine af.c4 (.p rfl) aa rfl aa rfl rfl (bs:=[aY aF d b s L,av ag.nat 3 (.slice a25 L.length qx) (List.range L.length)]) aW (fun m hm hd=>Gg (aY.gY hT.hd hd hm) ((KB hm).mono (Fr.dB hd)) (vV L) hl b9) ?_;rintro _ _ ⟨a26,gh,rfl,rfl⟩
  try simp only [an,aq,au]
  refine af.eO (.p rfl) aa rfl aa rfl rfl (bs:=[aY aF d b s L,av ag.nat 3 (.slice a26 (fC L p (List.range L.length)).length gh) (fC L p (List.range L.length))]) aW (ay.x2 (U:=[aY aF d b s L]) (bs:=[av ag.nat 3 (.slice a26 (fC L p (List.range L.length)).length gh) (fC L p (List.range L.length))]) (fun m hm hd=>Ff (510 - p.length) (hT.mono (Fr.dh _ _)) ah hp ((vS hm).mono (Fr.dB hd)) (Ge (vV L)) ah om)) ?_;rintro _ _ ⟨q1,d1,q2,d2,cM,d3,rfl,rfl⟩
  try simp only [an,aq,au]
  refine af.c9 rfl aa aa rfl rfl rfl rfl ai aX ?_;refine af.q 1 rfl<|aJ.nil<|S.sC results34 rfl rfl ai (fP.agg isAgg27 aa) fun w hw=>Holds.end_ hR hw ?_;exact pk ⟨q1,d1,q2,d2,cM,d3,rfl,rfl⟩
 ·have e:lG L p=Kg:=by unfold lG;rw [if_neg hp]
  have e2:uh p=2:=by unfold uh;rw [if_neg hp]
  rw [e,e2] at hR;refine S.seq<|S.region rfl<|O.aN (.p rfl) (.alloc (cs:=[.int .u8 0,.slice none 0 0,.slice none 0 0,.slice none 0 0]) zeroValue27 rfl) ?_;rintro _ _ ⟨b4,rfl,rfl⟩;refine O.q 1 rfl<|O.nil<|S.seq<|S.block<|S.seq<|S.region rfl<|O.q 1 rfl<|O.c4 (.p rfl) rfl aa rfl rfl (bs:=[aY aF d b s L]) aW (fun m hm hd=>qm (aY.gY hT.hd hd hm)) ?_;rintro _ _ ⟨rfl,rfl⟩
  try simp only [an,aq,au]
  refine O.sT 8 rfl aK ?_;refine O.op (.p rfl) (.not rfl)<|O.q 1 rfl<|O.nil<|S.aQ rfl<|S.seq<|S.region rfl<|O.q 1 rfl<|O.aC (.p rfl) rfl aa rfl rfl ((AD hl)) ?_;rintro _ _ ⟨rfl,rfl⟩
  try simp only [an,aq,au]
  refine O.aM 13 rfl (by exact decide_eq_false hp) ?_;refine O.op (.p rfl) (.not rfl)<|O.q 1 rfl<|O.nil<|S.bx rfl<|S.seq<|S.region rfl<|O.op (.p rfl) (.build (cs:=[_,_,_,_]) underlying27 rfl rfl rfl rfl rfl)<|O.bB rfl (.c9 aa rfl rfl rfl rfl ai aX) ?_;refine O.q 1 rfl<|O.nil<|S.q6 (ek b8) 31 ?_;refine S.gd (T:=ag.u8) (e:=5) ?_;refine S.gd (T:=ag.u8) (e:=5) ?_;refine S.sC results34 rfl rfl ai (fP.agg isAgg27 aa) fun w hw=>Holds.end_ hR hw ?_;exact pk ⟨none,0,none,0,none,0,rfl,rfl⟩
theorem F8 {r d:Fr} {b s:Nat} {L:List aD} (hT:fR r d s L) (hs4:s<4) :
  ay prog 32 #[.pointer (some ⟨b,0,none⟩)] r [aY aF d b s L] (aL fun v U=>∃ a c,v=.slice a 64 c∧U=[aY aF d b s L,av ag.u8 5 (.slice a 64 c) (er (s:Int) (bw L []))]):=by
 have e:jB L []=bw L []:=by unfold jB;rw [if_pos ⟨by simp,fun c hc=>by cases hc⟩]
 have gl:=qn hT.ok [];have ht:(er (s:Int) (bw L [])).length=64:=by unfold er;rw [if_pos ⟨by omega,by omega,gl⟩,qi]
 refine ay.of (n:=13) _ rfl func32 rfl rfl rfl fun g hg R hR=>?_;have hT:=hT.mono hg;refine S.seq<|S.region rfl<|O.q 1 rfl<|O.nil<|S.seq<|S.seq<|S.region rfl<|O.q 1 rfl<|O.c4 (.p rfl) rfl aa rfl rfl (bs:=[aY aF d b s L]) aW (fun m hm hd=>qm (aY.gY hT.hd hd hm)) ?_;rintro _ _ ⟨rfl,rfl⟩
 try simp only [an,aq,au]
 refine O.sT 4 rfl aK ?_;refine O.op (.p rfl) (.not rfl)<|O.nil<|S.aQ rfl<|S.skip<|S.seq<|S.bC (L:=[0,1,2,4,3,5,6,7]) bz aa ?_;refine af.q 1 rfl<|.quiet (.p rfl) rfl (fun _=>.nilCheck rfl)<|.quiet (.p rfl) rfl (fun _=>.fieldAddr vj rfl)<|af.q 1 rfl<|af.e4 3 5 [5,6,7] [3,6,7] aa rfl rfl ?_ ?_
 ·refine bT.cC (.p rfl) aa (fun _=>.sL cz rfl ai) ?_
  refine af.bM (.p rfl) aa rfl aa rfl rfl ai (ql (p:=[]) hT bL) ?_;rintro _ _ ⟨k8,n_,rfl,rfl⟩
  try simp only [an,aq,au]
  rw [e,gl];refine af.c4 (.p rfl) aa rfl aa rfl rfl (bs:=[av ag.u8 5 (.slice k8 64 n_) (bw L [])]) aW (fun m hm hd=>Bk ((vS hm).mono (Fr.dB hd)) (⟨by omega,by omega⟩:cK (s:Int)) (hT.hH.mono (Fr.dh _ _)) (hT.hK.mono (Fr.dh _ _)) ah) ?_;rintro _ _ ⟨a12,jI,rfl,rfl⟩
  try simp only [an,aq,au]
  rw [ht];refine af.q 1 rfl<|aJ.nil ?_;exact S.rt results32 rfl hR ⟨a12,jI,rfl,rfl⟩
 ·refine bT.bM (.p rfl) aa rfl aa rfl rfl ai (ql (p:=[]) hT bL) ?_
  rintro _ _ ⟨k8,n_,rfl,rfl⟩
  try simp only [an,aq,au]
  rw [e,gl];refine af.cC (.p rfl) aa (fun _=>.sL cz rfl ai) ?_;refine af.c4 (.p rfl) aa rfl aa rfl rfl (bs:=[av ag.u8 5 (.slice k8 64 n_) (bw L [])]) aW (fun m hm hd=>Bk ((vS hm).mono (Fr.dB hd)) (⟨by omega,by omega⟩:cK (s:Int)) (hT.hH.mono (Fr.dh _ _)) (hT.hK.mono (Fr.dh _ _)) ah) ?_;rintro _ _ ⟨a12,jI,rfl,rfl⟩
  try simp only [an,aq,au]
  rw [ht];refine af.q 1 rfl<|aJ.nil ?_;exact S.rt results32 rfl hR ⟨a12,jI,rfl,rfl⟩
theorem XA {b mid s:Nat} {m:Fr} (h:Sat [obj b 77 [.slice none 0 0,.slice none 0 0,.int .i64 (s:Int),.map (some mid)],cu encS mid [] 0] m):dc aF Fr.emp Fr.emp b s [] m:=by
 obtain ⟨m1,m2,d,s1,s2,o,m3,m4,d2,s3,pP,x,_⟩:=h;exact ⟨.slice none 0 0,.slice none 0 0,mid,[],0,⟨gE.nil,iL.nil _ _ _⟩,m1,m2,d,s1,s2,o,Fr.emp,m2,Fr.ea _,Fr.c6 _,Fr.bY _,AM,Fr.emp,m2,Fr.ea _,Fr.c6 _,Fr.bY _,AM,m3,m4,d2,s3,pP,x,trivial⟩
theorem Kc {r:Fr} {s:Nat} (hs:s<4):ay prog 29 #[.int .i64 (s:Int)] r [] (aL fun v U=>∃ b mp,v=.pointer (some ⟨b,0,none⟩)∧U=[obj b 77 [.slice none 0 0,.slice none 0 0,.int .i64 (s:Int),.map (some mp)],cu encS mp [] 0]):=by
 refine ay.of (n:=13) _ rfl func29 rfl rfl rfl fun g hg R hR=>?_;refine S.seq<|S.region rfl<|O.q 1 rfl<|O.nil<|S.seq<|S.seq<|S.region rfl<|O.q 1 rfl<|O.op (.p rfl) (.lss rfl rfl)<|O.aM 4 rfl (by exact decide_eq_false ah) ?_;refine O.q 2 rfl<|O.op (.g rfl rfl) (.geq rfl rfl)<|O.aM 7 rfl (by exact decide_eq_false ah) ?_;refine O.q 1 rfl<|O.nil<|S.aQ rfl<|S.skip<|S.seq<|S.region rfl<|O.q 1 rfl<|O.aN (.p rfl) (.pK (enc:=encS)) ?_;rintro _ _ ⟨wE,rfl,rfl⟩;refine O.op (.p rfl) (.build (cs:=[_,_,_,_]) underlying77 rfl rfl rfl rfl rfl)<|O.aN (.p rfl) (.box (cs:=[_,_,_,_]) rfl rfl) ?_;rintro _ _ ⟨nt,rfl,rfl⟩;refine O.q 1 rfl<|O.nil ?_;exact S.rt results29 rfl hR ⟨nt,wE,rfl,rfl⟩
theorem TV {r:Fr} {s:Nat} (hs:s<4):ay prog 29 #[.int .i64 (s:Int)] r [] (aL fun v U=>∃ b,v=.pointer (some ⟨b,0,none⟩)∧U=[dc aF Fr.emp Fr.emp b s []]) :=
 ay.post (Kc hs) fun e ax h w g hw=>by
  cases e with
  |returned v =>
   obtain ⟨b,mp,rfl,rfl⟩:=h;exact ⟨[dc aF Fr.emp Fr.emp b s []],⟨b,rfl,rfl⟩,hw.imp fun m h=>⟨m,Fr.emp,Fr.e5 (Fr.ea _),Fr.bY _,Fr.c6 _,XA h,trivial⟩⟩
  |panicked _=>exact h.elim
  |outgrown=>exact h.elim
theorem Gl {d:Fr} {g:Fr} {b s mid c:Nat} {L:List aD} {dm dn:Value} {M:List (cr (List UInt8))} {m:Fr} (wf:gE M c) (ok:iL d Fr.emp L M) (hd:d.sub g) (hm:g.cU m)
  (h:Sat (bU.qs aF b s (⟨Fr.emp,dm,dn,mid,M,c,wf,ok⟩:bU d L)) m):kr (g.add m) b s L :=
 dc.a (k:=Fr.emp) (Fr.aI hd (Fr.dh _ _)) (Fr.c6 _) (Fr.dB hm) (dc.fold ⟨Fr.emp,dm,dn,mid,M,c,wf,ok⟩ h)
theorem J3 {d:Fr} {b s mid c:Nat} {L:List aD} {M:List (cr (List UInt8))} {dm dn:Value} {m:Fr} (wf:gE M c) (ok:iL d Fr.emp L M)
  (h:Sat [cD (ek b8) 31 dm L,obj b 77 [dm,dn,.int .i64 (s:Int),.map (some mid)],av ag.str 9 dn (L.map fun y=>bq y.1),cu encS mid M c] m):aY aF d b s L m:=aY.made (dF:=b8) (aO:=aF) wf ok h
set_option maxHeartbeats 400000 in
theorem LM {r d:Fr} {b s:Nat} {L:List aD} (hT:fR r d s L) (hs4:s<4) :
  ay prog 41 #[.pointer (some ⟨b,0,none⟩)] r [dc aF d Fr.emp b s L] (aL fun v U=>∃ b',v=.pointer (some ⟨b',0,none⟩)∧U=[dc aF d Fr.emp b s L,aY aF d b' s L]):=by
 have hbL:L.length≤10000000:=hT.small.1;refine ay.of (n:=43) _ rfl func41 rfl rfl rfl fun g hg R hR=>?_;have hT:=hT.mono hg;refine S.open (bs:=fun x:{x:bU d L // x.k=Fr.emp}=>x.1.qs aF b s) .here (fun m h=>dc.jc h) fun ⟨x,Rv⟩=>?_;obtain ⟨k,dm,dn,mid,M,d_,wf,ok⟩:=x;have hk:k=Fr.emp:=Rv;subst hk;simp only [bU.qs,List.cons_append,List.nil_append];refine S.lV (.there .here) (fun _ y=>y.shape) fun ⟨cS,cT,hL⟩=>?_;refine S.lV (.there (.there .here)) (fun _ y=>y.shape) fun ⟨cF,cG,hW⟩=>?_;rw [List.length_map] at hW;subst hL hW;have hml:(L.map fun y=>bq y.1).length=L.length:=List.length_map ..;refine S.seq<|S.region rfl<|O.q 1 rfl<|O.nil<|S.seq<|S.seq<|S.region rfl<|O.q 1 rfl<|O.c4 (.p rfl) rfl aa rfl rfl (bs:=bU.qs aF b s (⟨Fr.emp,.slice cS L.length cT,.slice cF L.length cG,mid,M,d_,wf,ok⟩:bU d L)) aW (fun m hm hd=>qm (Gl wf ok hT.hd hd hm)) ?_;rintro _ _ ⟨rfl,rfl⟩
 try simp only [an,aq,au]
 refine O.sT 7 rfl aK ?_;refine O.op (.p rfl) (.not rfl)<|O.nil<|S.aQ rfl<|S.skip<|S.seq<|S.region rfl<|O.q 1 rfl<|O.op (.p rfl) (.nilCheck rfl)<|O.op (.p rfl) (.aH vj rfl)<|O.op (.p rfl) (.lo cz) ?_;refine O.aC (.p rfl) rfl aa rfl rfl ((Kc hs4)) ?_;rintro _ _ ⟨nZ,m13,rfl,rfl⟩
 try simp only [an,aq,au]
 refine O.q 1 rfl<|O.nil<|S.seq<|S.bC (L:=[0,1,3,4,5,6,2,7,8,9,10,11,12]) bz aa ?_;refine af.q 3 rfl<|.quiet (.p rfl) rfl (fun _=>.nilCheck rfl)<|.quiet (.p rfl) rfl (fun _=>.aH lu rfl)<|.quiet (.p rfl) rfl (fun _=>.aH jJ rfl)<|af.e4 2 7 [7,8,9,10,11,12] [2,8,9,10,11,12] aa rfl rfl ?_ ?_
 ·refine bT.c4 (.p rfl) aa rfl aa rfl rfl (bs:=bU.qs aF b s (⟨Fr.emp,.slice cS L.length cT,.slice cF L.length cG,mid,M,d_,wf,ok⟩:bU d L)) aW (fun m hm hd=>yE (Gl wf ok hT.hd hd hm) hT.ok hT.small) ?_
  rintro _ _ ⟨en,eo,rfl,rfl⟩
  try simp only [an,aq,au]
  refine af.cC (.p rfl) aa (fun _=>.cV e9 aK ai aK) ?_;refine af.c4 (.p rfl) aa rfl aa rfl rfl (bs:=[av ag.str 9 (.slice cF L.length cG) (L.map fun y=>bq y.1)]) aW (fun m hm hd=>Hv ((Sat.arr hm).mono (Fr.dB hd)) ah) ?_;rintro _ _ ⟨a22,ee,rfl,rfl⟩
  try simp only [an,aq,au]
  refine .quiet (.p rfl) rfl (fun _=>.build (cs:=[_,_]) underlying74 rfl rfl rfl rfl rfl)<|.quiet (.p rfl) rfl (fun _=>.nilCheck rfl)<|.quiet (.p rfl) rfl (fun _=>.fieldAddr lu rfl)<|af.c9 (news:=[.slice en L.length eo,.slice a22 (L.map fun y=>bq y.1).length ee]) rfl aa aa rfl rfl sS rfl ai aX ?_;refine aJ.nil (S.seq (S.seq ?_));rw [hml];refine S.dx (b:=nZ) (cs' :=[.slice en L.length eo,.slice a22 L.length ee,.int .i64 (s:Int),.map (some m13)]) ai aK ?_;refine S.region rfl<|O.q 1 rfl<|O.op (.p rfl) (.nilCheck rfl)<|O.op (.p rfl) (.aH p5 rfl)<|O.op (.p rfl) (.lo lW) ?_;refine O.aN (.p rfl) (.FI underlying75 rfl ai) ?_;rintro _ _ ⟨xV,rfl,rfl⟩;refine O.nil<|S.block<|S.pk (ζ:=[jr (K:=List UInt8) xV mid d_ [],cu encS mid M d_,cu encS m13 [] 0,obj b 77 [.slice cS L.length cT,.slice cF L.length cG,.int .i64 (s:Int),.map (some mid)],av (ag.fZ d Fr.emp bP) 31 (.slice cS L.length cT) L,av ag.str 9 (.slice cF L.length cG) (L.map fun y=>bq y.1),cD (ek b8) 31 (.slice en L.length eo) L,obj nZ 77 [.slice en L.length eo,.slice a22 L.length ee,.int .i64 (s:Int),.map (some m13)],av ag.str 9 (.slice a22 L.length ee) (L.map fun y=>bq y.1)]) jf ?_
  refine S.Ay (ι:=List (cr (List UInt8))) (dJ:=List (cr (List UInt8))) (jC:=List (cr (List UInt8))) (dF:=Nat) (fun bf jR M2 c2=>M.Perm (bf++jR)∧gE M2 c2∧iL d Fr.emp L M2) (fun bf jR M2 c2=>[]) [(3,_),(30,_)] (fun bf jR M2 c2=>[jr xV mid d_ bf,cu encS mid M d_,cu encS m13 M2 c2,obj b 77 [.slice cS L.length cT,.slice cF L.length cG,.int .i64 (s:Int),.map (some mid)],av (ag.fZ d Fr.emp bP) 31 (.slice cS L.length cT) L,av ag.str 9 (.slice cF L.length cG) (L.map fun y=>bq y.1),cD (ek b8) 31 (.slice en L.length eo) L,obj nZ 77 [.slice en L.length eo,.slice a22 L.length ee,.int .i64 (s:Int),.map (some m13)],av ag.str 9 (.slice a22 L.length ee) (L.map fun y=>bq y.1)]) (fun bf jR M2 c2=>jR.length) ([]) (M) ([]) (0) (by exact ⟨List.Perm.refl _,gE.nil,iL.nil _ _ _⟩) (.nil) (.cons rfl (.cons rfl (.nil))) (by with_reducible rfl) fun bf jR M2 c2 hx ih=>?_;have bh:=cH (g:=g);obtain ⟨hp,yL,vQ⟩:=hx;refine S.seq<|S.region rfl<|O.Kf (.p rfl) rfl wf hp ai ai (fun gR=>?_) (fun y31 t131 t231 gR=>?_)
  ·clear ih
   refine O.q 1 rfl<|O.nil<|S.seq<|S.aQ rfl<|S.exit rfl<|S.seq<|S.ct (A:=dc aF d Fr.emp b s L) (bs:=bU.qs aF b s (⟨Fr.emp,.slice cS L.length cT,.slice cF L.length cG,mid,M,d_,wf,ok⟩:bU d L)) aW (fun m h=>dc.fold ⟨Fr.emp,.slice cS L.length cT,.slice cF L.length cG,mid,M,d_,wf,ok⟩ h) ?_;refine S.ct (A:=aY aF d nZ s L) (bs:=[cD (ek b8) 31 (.slice en L.length eo) L,obj nZ 77 [.slice en L.length eo,.slice a22 L.length ee,.int .i64 (s:Int),.map (some m13)],av ag.str 9 (.slice a22 L.length ee) (L.map fun y=>bq y.1),cu encS m13 M2 c2]) aW (by intro m h;exact J3 (dm:=.slice en L.length eo) (dn:=.slice a22 L.length ee) (mid:=m13) (c:=c2) (M:=M2) yL vQ h) ?_;refine S.region rfl<|O.q 2 rfl<|O.nil ?_;exact S.rt results41 rfl hR ⟨nZ,rfl,rfl⟩
  ·subst gR
   have hmem:y31∈M:=hp.mem_iff.2 bL;have xo:=ok y31.1 y31.2.1 (vm wf.2.2 hmem);have hp2:M.Perm ((bf++[y31])++(t131++t231)):=hp.trans (by rw [List.append_assoc];exact List.Perm.append_left _ List.perm_middle);refine O.q 1 rfl<|O.nil<|S.seq<|S.bx rfl<|S.skip<|S.block<|S.seq<|S.region rfl<|O.op (.p rfl) (.CM rfl wf hmem ai ai) ?_;refine O.q 4 rfl<|O.nil<|S.region rfl<|O.q 1 rfl<|O.op (.p rfl) (.nilCheck rfl)<|O.op (.p rfl) (.aH p5 rfl)<|O.op (.p rfl) (.lo lW) ?_;refine O.q 2 rfl<|O.bB rfl (.sn underlying75 (q3 underlying9) rfl rfl rfl ai) ?_;refine O.nil (S.inBlock ?_);exact S.pw (ih (bf++[y31]) (t131++t231) (iD M2 c2 y31.1 y31.2.1) (kR M2 c2 y31.1) (by exact ⟨hp2,AX yL y31.1 y31.2.1,vQ.put (c:=c2) xo.1 xo.2⟩) bL)
 ·refine bT.cC (.p rfl) aa (fun _=>.cV e9 aK ai aK) ?_
  refine af.c4 (.p rfl) aa rfl aa rfl rfl (bs:=bU.qs aF b s (⟨Fr.emp,.slice cS L.length cT,.slice cF L.length cG,mid,M,d_,wf,ok⟩:bU d L)) aW (fun m hm hd=>yE (Gl wf ok hT.hd hd hm) hT.ok hT.small) ?_;rintro _ _ ⟨en,eo,rfl,rfl⟩
  try simp only [an,aq,au]
  refine af.c4 (.p rfl) aa rfl aa rfl rfl (bs:=[av ag.str 9 (.slice cF L.length cG) (L.map fun y=>bq y.1)]) aW (fun m hm hd=>Hv ((Sat.arr hm).mono (Fr.dB hd)) ah) ?_;rintro _ _ ⟨a22,ee,rfl,rfl⟩
  try simp only [an,aq,au]
  refine .quiet (.p rfl) rfl (fun _=>.build (cs:=[_,_]) underlying74 rfl rfl rfl rfl rfl)<|.quiet (.p rfl) rfl (fun _=>.nilCheck rfl)<|.quiet (.p rfl) rfl (fun _=>.fieldAddr lu rfl)<|af.c9 (news:=[.slice en L.length eo,.slice a22 (L.map fun y=>bq y.1).length ee]) rfl aa aa rfl rfl sS rfl ai aX ?_;refine aJ.nil (S.seq (S.seq ?_));rw [hml];refine S.dx (b:=nZ) (cs' :=[.slice en L.length eo,.slice a22 L.length ee,.int .i64 (s:Int),.map (some m13)]) ai aK ?_;refine S.region rfl<|O.q 1 rfl<|O.op (.p rfl) (.nilCheck rfl)<|O.op (.p rfl) (.aH p5 rfl)<|O.op (.p rfl) (.lo lW) ?_;refine O.aN (.p rfl) (.FI underlying75 rfl ai) ?_;rintro _ _ ⟨xV,rfl,rfl⟩;refine O.nil<|S.block<|S.pk (ζ:=[jr (K:=List UInt8) xV mid d_ [],cu encS mid M d_,cu encS m13 [] 0,obj b 77 [.slice cS L.length cT,.slice cF L.length cG,.int .i64 (s:Int),.map (some mid)],av (ag.fZ d Fr.emp bP) 31 (.slice cS L.length cT) L,av ag.str 9 (.slice cF L.length cG) (L.map fun y=>bq y.1),cD (ek b8) 31 (.slice en L.length eo) L,obj nZ 77 [.slice en L.length eo,.slice a22 L.length ee,.int .i64 (s:Int),.map (some m13)],av ag.str 9 (.slice a22 L.length ee) (L.map fun y=>bq y.1)]) jf ?_
  refine S.Ay (ι:=List (cr (List UInt8))) (dJ:=List (cr (List UInt8))) (jC:=List (cr (List UInt8))) (dF:=Nat) (fun bf jR M2 c2=>M.Perm (bf++jR)∧gE M2 c2∧iL d Fr.emp L M2) (fun bf jR M2 c2=>[]) [(3,_),(30,_)] (fun bf jR M2 c2=>[jr xV mid d_ bf,cu encS mid M d_,cu encS m13 M2 c2,obj b 77 [.slice cS L.length cT,.slice cF L.length cG,.int .i64 (s:Int),.map (some mid)],av (ag.fZ d Fr.emp bP) 31 (.slice cS L.length cT) L,av ag.str 9 (.slice cF L.length cG) (L.map fun y=>bq y.1),cD (ek b8) 31 (.slice en L.length eo) L,obj nZ 77 [.slice en L.length eo,.slice a22 L.length ee,.int .i64 (s:Int),.map (some m13)],av ag.str 9 (.slice a22 L.length ee) (L.map fun y=>bq y.1)]) (fun bf jR M2 c2=>jR.length) ([]) (M) ([]) (0) (by exact ⟨List.Perm.refl _,gE.nil,iL.nil _ _ _⟩) (.nil) (.cons rfl (.cons rfl (.nil))) (by with_reducible rfl) fun bf jR M2 c2 hx ih=>?_;have bh:=cH (g:=g);obtain ⟨hp,yL,vQ⟩:=hx;refine S.seq<|S.region rfl<|O.Kf (.p rfl) rfl wf hp ai ai (fun gR=>?_) (fun y31 t131 t231 gR=>?_)
  ·clear ih
   refine O.q 1 rfl<|O.nil<|S.seq<|S.aQ rfl<|S.exit rfl<|S.seq<|S.ct (A:=dc aF d Fr.emp b s L) (bs:=bU.qs aF b s (⟨Fr.emp,.slice cS L.length cT,.slice cF L.length cG,mid,M,d_,wf,ok⟩:bU d L)) aW (fun m h=>dc.fold ⟨Fr.emp,.slice cS L.length cT,.slice cF L.length cG,mid,M,d_,wf,ok⟩ h) ?_;refine S.ct (A:=aY aF d nZ s L) (bs:=[cD (ek b8) 31 (.slice en L.length eo) L,obj nZ 77 [.slice en L.length eo,.slice a22 L.length ee,.int .i64 (s:Int),.map (some m13)],av ag.str 9 (.slice a22 L.length ee) (L.map fun y=>bq y.1),cu encS m13 M2 c2]) aW (by intro m h;exact J3 (dm:=.slice en L.length eo) (dn:=.slice a22 L.length ee) (mid:=m13) (c:=c2) (M:=M2) yL vQ h) ?_;refine S.region rfl<|O.q 2 rfl<|O.nil ?_;exact S.rt results41 rfl hR ⟨nZ,rfl,rfl⟩
  ·subst gR
   have hmem:y31∈M:=hp.mem_iff.2 bL;have xo:=ok y31.1 y31.2.1 (vm wf.2.2 hmem);have hp2:M.Perm ((bf++[y31])++(t131++t231)):=hp.trans (by rw [List.append_assoc];exact List.Perm.append_left _ List.perm_middle);refine O.q 1 rfl<|O.nil<|S.seq<|S.bx rfl<|S.skip<|S.block<|S.seq<|S.region rfl<|O.op (.p rfl) (.CM rfl wf hmem ai ai) ?_;refine O.q 4 rfl<|O.nil<|S.region rfl<|O.q 1 rfl<|O.op (.p rfl) (.nilCheck rfl)<|O.op (.p rfl) (.aH p5 rfl)<|O.op (.p rfl) (.lo lW) ?_;refine O.q 2 rfl<|O.bB rfl (.sn underlying75 (q3 underlying9) rfl rfl rfl ai) ?_;refine O.nil (S.inBlock ?_);exact S.pw (ih (bf++[y31]) (t131++t231) (iD M2 c2 y31.1 y31.2.1) (kR M2 c2 y31.1) (by exact ⟨hp2,AX yL y31.1 y31.2.1,vQ.put (c:=c2) xo.1 xo.2⟩) bL)
def uV (r:Fr) (v:Value):Prop:=ay prog 87 #[v] r [] (aL fun u U=>u=.bool false∧U=[])
theorem uV.mono {r r' :Fr} {v:Value} (h:uV r v) (e:r.sub r'):uV r' v:=ay.sub h e
theorem TZ {r:Fr}:uV r (.pointer none):=Xt
theorem TR {r:Fr} {v:Value} (h:uV r v):ay prog 41 #[v] r [] (aL fun u U=>u=.pointer none∧U=[]):=by
 refine ay.of (n:=43) _ rfl func41 rfl rfl rfl fun g hg R hR=>?_;have h:=h.mono hg;refine S.seq<|S.region rfl<|O.q 1 rfl<|O.nil<|S.seq<|S.seq<|S.region rfl<|O.q 1 rfl<|O.aC (.p rfl) rfl aa rfl rfl (h) ?_;rintro _ _ ⟨rfl,rfl⟩
 try simp only [an,aq,au]
 refine O.aM 7 rfl aK ?_;refine O.op (.p rfl) (.not rfl)<|O.nil<|S.bx rfl<|S.seq<|S.region rfl<|O.q 1 rfl<|O.nil ?_;exact S.rt results41 rfl hR ⟨rfl,rfl⟩
def fD (d:Fr) (aZ s:Nat) (L:List aD) (peer:Int) (began:Bool):az:=fun m=>∃ bI mp,Sat [obj aZ 89 [.pointer (some ⟨bI,0,none⟩),.map (some mp),.int .i64 0,.int .i64 peer,.bool began],aY aF d bI s L,cu encS mp [] 0] m
theorem fD.jc {d:Fr} {aZ s:Nat} {L:List aD} {peer:Int} {began:Bool} {m:Fr}:fD d aZ s L peer began m→∃ x:Nat × Nat,Sat [obj aZ 89 [.pointer (some ⟨x.1,0,none⟩),.map (some x.2),.int .i64 0,.int .i64 peer,.bool began],aY aF d x.1 s L,cu encS x.2 [] 0] m:=fun ⟨bI,mp,h⟩=>⟨(bI,mp),h⟩
theorem fD.fold {d:Fr} {aZ bI mp s:Nat} {L:List aD} {peer:Int} {began:Bool} {m:Fr} (h:Sat [obj aZ 89 [.pointer (some ⟨bI,0,none⟩),.map (some mp),.int .i64 0,.int .i64 peer,.bool began],aY aF d bI s L,cu encS mp [] 0] m):fD d aZ s L peer began m:=⟨bI,mp,h⟩
theorem ri {r:Fr} {b:Nat} {v0 v1 v2 v4:Value} {peer:Int} (hp:0<peer):ay prog 120 #[.pointer (some ⟨b,0,none⟩)] r [obj b 89 [v0,v1,v2,.int .i64 peer,v4]] (aL fun v U=>v=.bool true∧U=[obj b 89 [v0,v1,v2,.int .i64 peer,v4]]):=by
 refine ay.of (n:=12) _ rfl func120 rfl rfl rfl fun g hg R hR=>?_;refine S.seq<|S.region rfl<|O.q 1 rfl<|O.nil<|S.seq<|S.region rfl<|O.q 1 rfl<|O.op (.p rfl) (.x_ underlying82 rfl rfl)<|O.sT 4 rfl aK ?_;refine O.q 2 rfl<|O.op (.g rfl rfl) (.nilCheck rfl)<|O.op (.g rfl rfl) (.aH zH rfl)<|O.op (.g rfl rfl) (.lo cz) ?_;refine O.op (.g rfl rfl) (.gtr rfl rfl)<|O.sT 10 rfl (by exact decide_eq_true hp) ?_;refine O.q 2 rfl<|O.nil ?_;exact S.rt results120 rfl hR ⟨rfl,rfl⟩
theorem Wu {r:Fr} {v:Value} {peer uj:Int} (h:uV r v):ay prog 52 #[v,.int .i64 peer,.int .i64 uj] r [] (aL fun u U=>u=.pointer none∧U=[]):=by
 refine ay.of (n:=31) _ rfl func52 rfl rfl rfl fun g hg R hR=>?_;have h:=h.mono hg;refine S.seq<|S.region rfl<|O.q 1 rfl<|O.nil<|S.seq<|S.region rfl<|O.q 1 rfl<|O.aC (.p rfl) rfl aa rfl rfl ((TR h)) ?_;rintro _ _ ⟨rfl,rfl⟩
 try simp only [an,aq,au]
 refine O.q 1 rfl<|O.nil<|S.seq<|S.seq<|S.region rfl<|O.q 1 rfl<|O.op (.p rfl) (.rM underlying42 rfl rfl)<|O.sT 11 rfl aK ?_;refine O.q 12 rfl<|O.nil<|S.bx rfl<|S.seq<|S.region rfl<|O.q 1 rfl<|O.nil ?_;exact S.rt results52 rfl hR ⟨rfl,rfl⟩
theorem FV {r d:Fr} {b s:Nat} {L:List aD} {peer uj:Int} (hT:fR r d s L) (hs4:s<4) (hp:1≤peer∧peer≤7) (hn:1≤uj) :
  ay prog 52 #[.pointer (some ⟨b,0,none⟩),.int .i64 peer,.int .i64 uj] r [dc aF d Fr.emp b s L] (aL fun u U=>∃ aZ,u=.pointer (some ⟨aZ,0,none⟩)∧U=[dc aF d Fr.emp b s L,fD d aZ s L peer false]):=by
 obtain ⟨hp1,hp2⟩:=hp;refine ay.of (n:=31) _ rfl func52 rfl rfl rfl fun g hg R hR=>?_;have hT:=hT.mono hg;refine S.seq<|S.region rfl<|O.q 1 rfl<|O.nil<|S.seq<|S.region rfl<|O.q 1 rfl<|O.bM (.p rfl) rfl aa rfl rfl ai (LM hT hs4) ?_;rintro _ _ ⟨G7,rfl,rfl⟩
 try simp only [an,aq,au]
 refine O.q 1 rfl<|O.nil<|S.seq<|S.seq<|S.region rfl<|O.q 1 rfl<|O.op (.p rfl) (.rM underlying42 rfl rfl)<|O.aM 11 rfl aK ?_;refine O.q 2 rfl<|O.op (.g rfl rfl) (.lss rfl rfl)<|O.aM 14 rfl (by exact decide_eq_false ah) ?_;refine O.q 3 rfl<|O.op (.g rfl rfl) (.gtr rfl rfl)<|O.aM 18 rfl (by exact decide_eq_false ah) ?_;refine O.q 3 rfl<|O.op (.g rfl rfl) (.lss rfl rfl)<|O.aM 22 rfl (by exact decide_eq_false ah) ?_;refine O.q 1 rfl<|O.nil<|S.aQ rfl<|S.skip<|S.seq<|S.region rfl<|O.q 1 rfl<|O.op (.p rfl) (.build (cs:=[_]) underlying85 rfl rfl rfl rfl rfl)<|O.aN (.p rfl) (.pK (enc:=encS)) ?_;rintro _ _ ⟨G5,rfl,rfl⟩;refine O.op (.p rfl) (.build (cs:=[_,_]) underlying87 rfl rfl rfl rfl rfl)<|O.q 1 rfl<|O.op (.p rfl) (.build (cs:=[_,_,_,_,_]) underlying89 rfl rfl rfl rfl rfl)<|O.aN (.p rfl) (.box (cs:=[_,_,_,_,_]) rfl rfl) ?_;rintro _ _ ⟨B7,rfl,rfl⟩;refine O.q 1 rfl<|O.nil<|S.ct (A:=fD d B7 s L peer false) (bs:=[obj B7 89 [.pointer (some ⟨G7,0,none⟩),.map (some G5),.int .i64 0,.int .i64 peer,.bool false],aY aF d G7 s L,cu encS G5 [] 0]) aW (fun m h=>fD.fold h) ?_;exact S.rt results52 rfl hR ⟨B7,rfl,rfl⟩
theorem FW {r d:Fr} {b s:Nat} {L:List aD} {p xs:List UInt8} {va:Value} (hT:fR r d s L) (ha:aj ag.u8 r va xs) (hl:p.length≤9223372036854775807) :
  ay prog 206 #[.agg #[.pointer (some ⟨b,0,none⟩)],.string (str p),va] r [aY aF d b s L] (aL fun v U=>v=.bool (!decide (jB L p=xs))∧U=[aY aF d b s L]):=by
 obtain ⟨a1,c1,rfl⟩:=ha.shape;refine ay.of (n:=14) _ rfl func206 rfl rfl rfl fun g hg R hR=>?_;have hT:=hT.mono hg;have ha:=ha.mono hg;refine S.seq<|S.region rfl<|O.aN (.p rfl) (.box (cs:=[_]) rfl rfl) ?_;rintro _ _ ⟨b3,rfl,rfl⟩;refine O.q 1 rfl<|O.nil<|S.seq<|S.region rfl<|O.op (.p rfl) (.aH wZ rfl)<|O.op (.p rfl) (.lo o6) ?_;refine O.q 1 rfl<|O.bM (.p rfl) rfl aa rfl rfl ai (ql hT hl) ?_;rintro _ _ ⟨oO,oU,rfl,rfl⟩
 try simp only [an,aq,au]
 refine O.q 1 rfl<|O.c4 (.p rfl) rfl aa rfl rfl (bs:=[av ag.u8 5 (.slice oO (jB L p).length oU) (jB L p)]) aW (fun m hm hd=>oR ((Sat.arr hm).mono (Fr.dB hd)) (ha.mono (Fr.dh _ _))) ?_;rintro _ _ ⟨rfl,rfl⟩
 try simp only [an,aq,au]
 refine O.op (.p rfl) ((by first|exact .mg rfl|exact .not rfl)) ?_;refine O.q 1 rfl<|O.nil ?_;exact S.rt results206 rfl hR ⟨congrArg Value.bool bL,rfl⟩
theorem Wq {r d:Fr} {aZ s:Nat} {L:List aD} {peer:Int} {cg:Bool} {va yJ:Value} {xs:List UInt8} (hT:fR r d s L) (ha:aj (ag.slice ag.u8) r va [xs]) (hp:aj ag.str r yJ [[]]) (hxs:jB L []=xs) :
  ay prog 123 #[.pointer (some ⟨aZ,0,none⟩),va,yJ] r [fD d aZ s L peer cg] (aL fun v U=>v=.slice none 0 0∧U=[fD d aZ s L peer cg]):=by
 obtain ⟨a1,c1,rfl⟩:=ha.shape;obtain ⟨a2,c2,rfl⟩:=hp.shape;refine ay.of (n:=53) _ rfl func123 rfl rfl rfl fun g hg R hR=>?_;have hT:=hT.mono hg;have ha:=ha.mono hg;have hp:=hp.mono hg;refine S.open (bs:=fun x:Nat × Nat=>[obj aZ 89 [.pointer (some ⟨x.1,0,none⟩),.map (some x.2),.int .i64 0,.int .i64 peer,.bool cg],aY aF d x.1 s L,cu encS x.2 [] 0]) .here (fun m h=>fD.jc h) fun ⟨bI,mp⟩=>?_;simp only [List.cons_append,List.nil_append];refine S.seq<|S.region rfl<|O.q 1 rfl<|O.nil<|S.seq<|S.region rfl<|O.q 1 rfl<|O.nil<|S.seq<|S.seq<|S.region rfl<|O.q 1 rfl<|O.op (.p rfl) (.len rfl underlying53 rfl)<|O.q 1 rfl<|O.nil<|S.block<|S.eM (ι:=Nat) (fun i=>i≤1) (fun i=>[(12,.int .i64 (i:Int)),(7,.slice none 0 0)]) [(0,_),(1,_),(10,_),(11,_)] (fun i=>[obj aZ 89 [.pointer (some ⟨bI,0,none⟩),.map (some mp),.int .i64 0,.int .i64 peer,.bool cg],aY aF d bI s L,cu encS mp [] 0]) (fun i=>1 - i) (0) bL (.cons rfl (.cons rfl (.nil))) (.cons rfl (.cons rfl (.cons rfl (.cons rfl (.nil))))) rfl fun i hx ih=>?_;have bh:=cH (g:=g);refine S.seq<|S.region rfl<|O.op (.p rfl) (.lss rfl rfl)<|O.nil (S.seq ?_)
 first|refine S.cm rfl (fun iU=>?_) (fun iU=>?_)|refine S.b_ rfl (fun iU=>?_) (fun iU=>?_)
 ·have rX:([[]]:List (List UInt8)).length=1:=rfl
  have hi:i=0:=by omega
  subst hi;refine S.skip<|S.seq<|S.block<|S.seq<|S.region rfl<|O.q 1 rfl<|O.bR (.p rfl) underlying53 gb rfl rfl (show _=(((0):Nat):Int) by omega) (by first|assumption|exact aj.mono hg zE|exact aj.left zE|exact aj.left (aj.mono hg zE)) (h:=fun yj wO gW kZ=>?_);obtain ⟨rfl,aak⟩:=kZ;refine O.op (.p rfl) (.loadAt bQ rfl gW rfl) ?_;refine O.slot 16 (v' :=.string (str [])) rfl aK ?_;refine O.q 2 rfl<|O.nil<|S.seq<|S.bC (L:=[0,1,2,4,5,6,7,8,3,9]) bz aa ?_;refine af.q 1 rfl<|.quiet (.p rfl) rfl (fun _=>.nilCheck rfl)<|.quiet (.p rfl) rfl (fun _=>.aH vl rfl)<|af.q 3 rfl<|af.bR (.p rfl) underlying109 uA rfl rfl (show _=(((0):Nat):Int) by omega) (by first|assumption|exact aj.mono hg zE|exact aj.left zE|exact aj.left (aj.mono hg zE)) (h:=fun yl wP l9 px=>?_);obtain ⟨v24,rfl,rT⟩:=px;obtain ⟨a24,k9,rfl⟩:=rT.shape;refine .quiet (.p rfl) rfl (fun _=>.loadAt bl rfl l9 rfl) ?_;refine af.cC (.p rfl) aa (fun _=>.sk (news:=[.pointer (some ⟨bI,0,none⟩)]) isAgg85 aa aK ai aK) ?_;refine af.bM (.p rfl) aa rfl aa rfl rfl ai (FW (p:=[]) (xs:=xs) hT rT bL) ?_;rintro _ _ ⟨rfl,rfl⟩
  try simp only [an,aq,au]
  refine af.aM 26 rfl (by simp [hxs]) ?_;refine aJ.nil<|S.aQ rfl<|S.skip<|S.inBlock<|S.region rfl<|O.op (.p rfl) (.add rfl rfl (IntWalk.i64_in _ ah))<|O.q 1 rfl<|O.nil ?_;exact S.pw (ih (1) ah ah)
 ·clear ih
  refine S.exit rfl<|S.seq<|S.region rfl<|O.q 2 rfl<|O.nil<|S.ct (A:=fD d aZ s L peer cg) (bs:=[obj aZ 89 [.pointer (some ⟨bI,0,none⟩),.map (some mp),.int .i64 0,.int .i64 peer,.bool cg],aY aF d bI s L,cu encS mp [] 0]) aW (fun m h=>fD.fold h) ?_;exact S.rt results123 rfl hR ⟨rfl,rfl⟩
theorem Lg {r d:Fr} {aZ s:Nat} {L:List aD} {peer:Int} {cg:Bool} (hp:0<peer):ay prog 55 #[.pointer (some ⟨aZ,0,none⟩)] r [fD d aZ s L peer cg] (aL fun v U=>v=.bool cg∧U=[fD d aZ s L peer cg]):=by
 refine ay.of (n:=20) _ rfl func55 rfl rfl rfl fun g hg R hR=>?_;refine S.open (bs:=fun x:Nat × Nat=>[obj aZ 89 [.pointer (some ⟨x.1,0,none⟩),.map (some x.2),.int .i64 0,.int .i64 peer,.bool cg],aY aF d x.1 s L,cu encS x.2 [] 0]) .here (fun m h=>fD.jc h) fun ⟨bI,mp⟩=>?_;simp only [List.cons_append,List.nil_append]
 cases cg with
 |false =>
  refine S.seq<|S.region rfl<|O.q 1 rfl<|O.nil<|S.seq<|S.region rfl<|O.q 1 rfl<|O.bM (.p rfl) rfl aa rfl rfl ai (ri hp) ?_;rintro _ _ ⟨rfl,rfl⟩
  try simp only [an,aq,au]
  refine O.sT 4 rfl aK ?_;refine O.q 2 rfl<|O.op (.g rfl rfl) (.nilCheck rfl)<|O.op (.g rfl rfl) (.aH qI rfl)<|O.op (.g rfl rfl) (.lo iv) ?_;refine O.aM 9 rfl aK ?_;refine O.q 11 rfl<|O.nil<|S.ct (A:=fD d aZ s L peer false) (bs:=[obj aZ 89 [.pointer (some ⟨bI,0,none⟩),.map (some mp),.int .i64 0,.int .i64 peer,.bool false],aY aF d bI s L,cu encS mp [] 0]) aW (fun m h=>fD.fold h) ?_;exact S.rt results55 rfl hR ⟨rfl,rfl⟩
 |true =>
  refine S.seq<|S.region rfl<|O.q 1 rfl<|O.nil<|S.seq<|S.region rfl<|O.q 1 rfl<|O.bM (.p rfl) rfl aa rfl rfl ai (ri hp) ?_;rintro _ _ ⟨rfl,rfl⟩
  try simp only [an,aq,au]
  refine O.sT 4 rfl aK ?_;refine O.q 2 rfl<|O.op (.g rfl rfl) (.nilCheck rfl)<|O.op (.g rfl rfl) (.aH qI rfl)<|O.op (.g rfl rfl) (.lo iv) ?_;refine O.sT 9 rfl aK ?_;refine O.q 3 rfl<|O.op (.g rfl rfl) (.nilCheck rfl)<|O.op (.g rfl rfl) (.aH qH rfl)<|O.op (.g rfl rfl) (.aH w5 rfl)<|O.op (.g rfl rfl) (.lo lW) ?_;refine O.op (.g rfl rfl) (.JS (l:=[]) underlying75 rfl ai) ?_;refine O.slot 17 (v' :=.int .i64 0) rfl aK ?_;refine O.op (.g rfl rfl) (.eql rfl rfl)<|O.q 2 rfl<|O.nil<|S.ct (A:=fD d aZ s L peer true) (bs:=[obj aZ 89 [.pointer (some ⟨bI,0,none⟩),.map (some mp),.int .i64 0,.int .i64 peer,.bool true],aY aF d bI s L,cu encS mp [] 0]) aW (fun m h=>fD.fold h) ?_;exact S.rt results55 rfl hR ⟨rfl,rfl⟩
theorem Ww {r d:Fr} {aZ s:Nat} {L:List aD} {cs:List Value} {x:jX} {sr:Value} (hT:fR r d s L) (hs4:s<4) (h:jh.rel r cs x) (hok:oF x=true) (h2:x.2.1=(s:Int)) (hn:aj ag.u8 r sr (bw L [])) (h3:x.2.2.2.1=er (s:Int) (bw L [])) :
  ay prog 53 #[.pointer (some ⟨aZ,0,none⟩),.agg cs.toArray,sr] r [fD d aZ s L x.1 false] (aL fun u U=>u=.tuple #[.slice none 0 0,.int .i64 0]∧U=[fD d aZ s L x.1 true]):=by
 have hpos:0<x.1:=by have:=(A8.1 (A7.1 hok).1).1;omega
 have gl:=qn hT.ok [];have ht:(er (s:Int) (bw L [])).length=64:=by unfold er;rw [if_pos ⟨by omega,by omega,gl⟩,qi]
 have hsum:jB L []=bw L []:=by unfold jB;rw [if_pos ⟨by simp,fun c hc=>by cases hc⟩]
 obtain ⟨a5,dS,rfl⟩:=hn.shape;obtain ⟨iH,sP,iI,sQ,rfl,k0,k1,k2,bk,sg⟩:=jh.sh h;refine ay.of (n:=54) _ rfl func53 rfl rfl rfl fun g hg R hR=>?_;have hT:=hT.mono hg;have h:=h.mono hg;have hn:=hn.mono hg;have bk:=bk.mono hg;refine S.open (bs:=fun x' :Nat × Nat=>[obj aZ 89 [.pointer (some ⟨x'.1,0,none⟩),.map (some x'.2),.int .i64 0,.int .i64 x.1,.bool false],aY aF d x'.1 s L,cu encS x'.2 [] 0]) .here (fun m h=>fD.jc h) fun ⟨bI,mp⟩=>?_;simp only [List.cons_append,List.nil_append];refine S.seq<|S.region rfl<|O.aN (.p rfl) (.box (cs:=[_,_,_,_,_]) rfl rfl) ?_;rintro _ _ ⟨b4,rfl,rfl⟩;refine O.q 2 rfl<|O.nil<|S.seq<|S.block<|S.seq<|S.ep (A:=obj b4 81 [.int .i64 x.1,.int .i64 x.2.1,.int .i64 x.2.2.1,.slice iH x.2.2.2.1.length iI,.slice sP x.2.2.2.2.1.length sQ]) ai fun g hs hm ⟨_,x',s'⟩=>?_;have h4:=(fun s x=>(ga x).mono s) s' x';clear x' s';replace hg:=Fr.aI hg hs;replace hR:=bu hR hm
 try replace hT:=hT.mono hs
 try replace h:=h.mono hs
 try replace hn:=hn.mono hs
 try replace bk:=bk.mono hs
 clear hs hm;refine S.region rfl<|O.q 1 rfl<|O.bM (.p rfl) rfl aa rfl rfl ai (ri hpos) ?_;rintro _ _ ⟨rfl,rfl⟩
 try simp only [an,aq,au]
 refine O.sT 10 rfl aK ?_;refine O.op (.p rfl) (.not rfl)<|O.q 1 rfl<|O.nil<|S.aQ rfl<|S.seq<|S.region rfl<|O.q 1 rfl<|O.op (.p rfl) (.nilCheck rfl)<|O.op (.p rfl) (.aH qI rfl)<|O.op (.p rfl) (.lo iv) ?_;refine O.aM 16 rfl aK ?_;refine O.q 1 rfl<|O.nil<|S.aQ rfl<|S.seq<|S.seq<|S.region rfl<|O.op (.p rfl) (.bE isAgg81 aa rfl h4) ?_;refine O.aC (.p rfl) rfl aa rfl rfl ((F7 h)) ?_;rintro _ _ ⟨rfl,rfl⟩
 try simp only [an,aq,au]
 refine O.sT 19 rfl (by exact hok) ?_;refine O.op (.p rfl) (.not rfl)<|O.q 1 rfl<|O.nil<|S.aQ rfl<|S.seq<|S.bC (L:=[0,1,2,3,4,5,6,7]) bz aa ?_;refine .quiet (.p rfl) rfl (fun _=>.fieldAddr wY rfl)<|.quiet (.p rfl) rfl (fun _=>.loadAt cz rfl h4 rfl) ?_;refine af.q 1 rfl<|.quiet (.p rfl) rfl (fun _=>.nilCheck rfl)<|.quiet (.p rfl) rfl (fun _=>.aH zH rfl)<|af.cC (.p rfl) aa (fun _=>.cV cz aK ai aK) ?_;refine .quiet (.p rfl) rfl (fun _=>.neq rfl rfl)<|af.aM 27 rfl (by exact decide_eq_false (fun q=>q rfl)) ?_;refine af.q 1 rfl<|aJ.nil<|S.aQ rfl<|S.bC (L:=[0,1,2,3,4,5,6,7,8,9]) bz aa ?_;refine .quiet (.p rfl) rfl (fun _=>.fieldAddr vk rfl)<|.quiet (.p rfl) rfl (fun _=>.loadAt cz rfl (h4.drop 1) rfl) ?_;refine af.q 1 rfl<|.quiet (.p rfl) rfl (fun _=>.nilCheck rfl)<|.quiet (.p rfl) rfl (fun _=>.aH vl rfl)<|.quiet (.p rfl) rfl (fun _=>.aH wZ rfl)<|af.cC (.p rfl) aa (fun _=>.cV o6 aK ai aK) ?_;refine af.c4 (.p rfl) aa rfl aa rfl rfl (bs:=[aY aF d bI s L]) aW (fun m hm hd=>yB (aY.gY hT.hd hd hm)) ?_;rintro _ _ ⟨rfl,rfl⟩
 try simp only [an,aq,au]
 refine .quiet (.p rfl) rfl (fun _=>.neq rfl rfl)<|af.aM 36 rfl (by exact decide_eq_false ah) ?_;refine af.q 1 rfl<|aJ.nil<|S.aQ rfl<|S.seq<|S.bC (L:=[0,1,2,4,5,3,6,7,8]) bz aa<|.quiet (.p rfl) rfl (fun _=>.fieldAddr vk rfl)<|.quiet (.p rfl) rfl (fun _=>.loadAt cz rfl (h4.drop 1) rfl) ?_;refine af.q 1 rfl<|.quiet (.p rfl) rfl (fun _=>.fieldAddr CZ rfl)<|.quiet (.p rfl) rfl (fun _=>.loadAt bl rfl (h4.drop 3) rfl) ?_;refine af.aC (.p rfl) aa rfl aa rfl rfl ((Bk hn k1 hT.hH hT.hK ah)) ?_;rintro _ _ ⟨a41,wI,rfl,rfl⟩
 try simp only [an,aq,au]
 refine af.c4 (.p rfl) aa rfl aa rfl rfl (bs:=[av ag.u8 5 (.slice a41 (er x.2.1 (bw L [])).length wI) (er x.2.1 (bw L []))]) aW (fun m hm hd=>oR ((Sat.arr hm).mono (Fr.dB hd)) (bk.mono (Fr.dh _ _))) ?_;rintro _ _ ⟨rfl,rfl⟩
 try simp only [an,aq,au]
 refine af.sT 44 rfl (by exact decide_eq_true (by rw [h3,h2])) ?_;refine .quiet (.p rfl) rfl (fun _=>.not rfl)<|af.q 1 rfl<|aJ.nil<|S.aQ rfl<|S.skip<|S.inBlock<|S.seq<|S.region rfl<|O.q 1 rfl<|O.op (.p rfl) (.nilCheck rfl)<|O.op (.p rfl) (.aH qI rfl)<|O.bB rfl (.bp iv rfl rfl bt ai aX) ?_;refine O.nil<|S.seq<|S.ct (A:=fD d aZ s L x.1 true) (bs:=[obj aZ 89 [.pointer (some ⟨bI,0,none⟩),.map (some mp),.int .i64 0,.int .i64 x.1,.bool true],aY aF d bI s L,cu encS mp [] 0]) aW (fun m h=>fD.fold h) ?_;refine S.region rfl<|O.q 2 rfl<|O.aN (.p rfl) (.cA (T:=ag.cells 1) (ys:=[[.slice a5 (bw L []).length dS]]) underlying109 iu aB rfl rfl ⟨⟨rfl,rfl,by first|(simp;done)|(intro v hv;simp [Value.cells] at hv;rcases hv with rfl|rfl<;>rfl)|(refine List.forall_mem_cons.2 ⟨rfl,?_⟩;repeat (first|exact (fun _ h=>absurd h List.not_mem_nil)|refine List.forall_mem_cons.2 ⟨rfl,?_⟩))⟩,trivial⟩ aB) ?_;rintro _ _ ⟨a51,za,rfl,rfl⟩;refine O.fo ai fun g hs hm nH=>?_;replace hg:=Fr.aI hg hs;replace hR:=bu hR hm
 try replace hT:=hT.mono hs
 try replace h:=h.mono hs
 try replace hn:=hn.mono hs
 try replace bk:=bk.mono hs
 try replace h4:=h4.mono hs
 clear hs hm;refine O.aN (.p rfl) (.cA (T:=ag.str) (ys:=[[]]) underlying53 gv aB rfl rfl ⟨⟨rfl,by decide⟩,trivial⟩ aB) ?_;rintro _ _ ⟨ku,kz,rfl,rfl⟩;refine O.fo ai fun g hs hm qM=>?_;replace hg:=Fr.aI hg hs;replace hR:=bu hR hm
 try replace hT:=hT.mono hs
 try replace h:=h.mono hs
 try replace hn:=hn.mono hs
 try replace bk:=bk.mono hs
 try replace h4:=h4.mono hs
 try replace nH:=nH.mono hs
 clear hs hm;refine O.bM (.p rfl) rfl aa rfl rfl ai (Wq hT (aj.kL (T:=ag.slice ag.u8) (xs:=[bw L []]) nH (⟨⟨_,rfl,hn⟩,trivial⟩) rfl) qM hsum) ?_;rintro _ _ ⟨rfl,rfl⟩
 try simp only [an,aq,au]
 refine O.q 2 rfl<|O.nil<|S.mW results53 rfl rfl fun w hw=>Holds.end_ hR hw ?_;exact pk ⟨rfl,rfl⟩
theorem Wx {r d:Fr} {aZ s:Nat} {L:List aD} {cs:List Value} {x:jX} {peer:Int} {sr:Value} (h:jh.rel r cs x) (hok:oF x=true) (hpos:0<peer) (hne:x.1≠peer) (Qe:∃ a n c,sr=.slice a n c) :
  ay prog 53 #[.pointer (some ⟨aZ,0,none⟩),.agg cs.toArray,sr] r [fD d aZ s L peer false] (aL fun u U=>u=.tuple #[.slice none 0 0,.int .i64 22]∧U=[fD d aZ s L peer false]):=by
 obtain ⟨a5,n5,dS,rfl⟩:=Qe;obtain ⟨iH,sP,iI,sQ,rfl,k0,k1,k2,bk,sg⟩:=jh.sh h;refine ay.of (n:=54) _ rfl func53 rfl rfl rfl fun g hg R hR=>?_;have h:=h.mono hg;refine S.open (bs:=fun x' :Nat × Nat=>[obj aZ 89 [.pointer (some ⟨x'.1,0,none⟩),.map (some x'.2),.int .i64 0,.int .i64 peer,.bool false],aY aF d x'.1 s L,cu encS x'.2 [] 0]) .here (fun m h=>fD.jc h) fun ⟨bI,mp⟩=>?_;simp only [List.cons_append,List.nil_append];refine S.seq<|S.region rfl<|O.aN (.p rfl) (.box (cs:=[_,_,_,_,_]) rfl rfl) ?_;rintro _ _ ⟨b4,rfl,rfl⟩;refine O.q 2 rfl<|O.nil<|S.seq<|S.block<|S.seq<|S.ep (A:=obj b4 81 [.int .i64 x.1,.int .i64 x.2.1,.int .i64 x.2.2.1,.slice iH x.2.2.2.1.length iI,.slice sP x.2.2.2.2.1.length sQ]) ai fun g hs hm ⟨_,x',s'⟩=>?_;have h4:=(fun s x=>(ga x).mono s) s' x';clear x' s';replace hg:=Fr.aI hg hs;replace hR:=bu hR hm
 try replace h:=h.mono hs
 clear hs hm;refine S.region rfl<|O.q 1 rfl<|O.bM (.p rfl) rfl aa rfl rfl ai (ri hpos) ?_;rintro _ _ ⟨rfl,rfl⟩
 try simp only [an,aq,au]
 refine O.sT 10 rfl aK ?_;refine O.op (.p rfl) (.not rfl)<|O.q 1 rfl<|O.nil<|S.aQ rfl<|S.seq<|S.region rfl<|O.q 1 rfl<|O.op (.p rfl) (.nilCheck rfl)<|O.op (.p rfl) (.aH qI rfl)<|O.op (.p rfl) (.lo iv) ?_;refine O.aM 16 rfl aK ?_;refine O.q 1 rfl<|O.nil<|S.aQ rfl<|S.seq<|S.seq<|S.region rfl<|O.op (.p rfl) (.bE isAgg81 aa rfl h4) ?_;refine O.aC (.p rfl) rfl aa rfl rfl ((F7 h)) ?_;rintro _ _ ⟨rfl,rfl⟩
 try simp only [an,aq,au]
 refine O.sT 19 rfl (by exact hok) ?_;refine O.op (.p rfl) (.not rfl)<|O.q 1 rfl<|O.nil<|S.aQ rfl<|S.seq<|S.bC (L:=[0,1,2,3,4,5,6,7]) bz aa ?_;refine .quiet (.p rfl) rfl (fun _=>.fieldAddr wY rfl)<|.quiet (.p rfl) rfl (fun _=>.loadAt cz rfl h4 rfl) ?_;refine af.q 1 rfl<|.quiet (.p rfl) rfl (fun _=>.nilCheck rfl)<|.quiet (.p rfl) rfl (fun _=>.aH zH rfl)<|af.cC (.p rfl) aa (fun _=>.cV cz aK ai aK) ?_;refine .quiet (.p rfl) rfl (fun _=>.neq rfl rfl)<|af.sT 27 rfl (by exact decide_eq_true hne) ?_;refine af.q 1 rfl<|aJ.nil<|S.bx rfl<|S.skip<|S.bx rfl<|S.seq<|S.region rfl<|O.q 2 rfl<|O.nil<|S.ct (A:=fD d aZ s L peer false) (bs:=[obj aZ 89 [.pointer (some ⟨bI,0,none⟩),.map (some mp),.int .i64 0,.int .i64 peer,.bool false],aY aF d bI s L,cu encS mp [] 0]) aW (fun m h=>fD.fold h) ?_;refine S.mW results53 rfl rfl fun w hw=>Holds.end_ hR hw ?_;exact pk ⟨rfl,rfl⟩
theorem EW {k m g:Fr} (h:m.sub g) (x:jq k m):k.sub g:=by
 have e:m=k:=x;exact e ▸ h
theorem Gd {d k g:Fr} {b s:Nat} {L:List aD} {m:Fr} (hd:d.sub g) (hk:k.sub g) (h:Sat [dc aF d k b s L] m):dc aF g Fr.emp b s L m:=by
 obtain ⟨m1,_,_,s1,_,o,_⟩:=h;obtain ⟨dm,dn,mid,M,c,hwf,hs⟩:=dc.Uk hd hk o;exact ⟨dm,dn,mid,M,c,hwf,Sat.mono s1 hs⟩
theorem Fo {r:Fr} {peer Lu:Int} {a:Option Addr} {n c:Nat}:ay prog 58 #[.int .i64 peer,.int .i64 Lu,.slice a n c] r [] (aL fun v U=>∃ a' c',v=.agg #[.int .i64 peer,.int .i64 Lu,.int .i64 1,.slice a n c,.slice a' 64 c']∧U=[av ag.u8 5 (.slice a' 64 c') (List.replicate 64 0)]):=by
 refine ay.of (n:=12) _ rfl func58 rfl rfl rfl fun g hg R hR=>?_;refine S.seq<|S.region rfl<|O.aN (.p rfl) (.alloc (cs:=[.int .i64 0,.int .i64 0,.int .i64 0,.slice none 0 0,.slice none 0 0]) zeroValue81 rfl) ?_;rintro _ _ ⟨fU,rfl,rfl⟩;refine O.nil<|S.seq<|S.region rfl<|O.q 3 rfl<|O.aN (.p rfl) (.Az (T:=ag.u8) 0 (m:=64) underlying24 eT aB rfl rfl rfl rfl rfl aB aB) ?_;rintro _ _ ⟨oO,oU,rfl,rfl⟩;refine O.op (.p rfl) (.build (cs:=[_,_,_,_,_]) underlying81 rfl rfl rfl rfl rfl)<|O.bB rfl (.c9 aa rfl rfl rfl rfl ai aX) ?_;refine O.nil<|S.vX results58 isAgg81 aa rfl ai fun w hw=>Holds.end_ hR hw ?_;exact pk ⟨oO,oU,rfl,rfl⟩
theorem K6 {p:Int} {t:List UInt8} (hp:1≤p∧p≤7) (ht:t.length=64):oF (p,1,1,t,List.replicate 64 0,())=true :=
 A7.2 ⟨A8.2 ⟨hp.1,hp.2,(by decide:(0:Int)≤1),(by decide:(1:Int)<4),(by decide:(1:Int)≤1),(by decide:(1:Int)≤1073741824),ht⟩,List.length_replicate ..⟩
theorem MJ {r:Fr} (hH:At r ⟨0,0,none⟩ (bW ev)) (hK:At r ⟨1,0,none⟩ (bW gq)):ay prog 51 #[] r [] (aL fun v U=>v=.bool true∧U=[]):=by
 refine ay.of (n:=57) _ rfl func51 rfl rfl rfl fun g hg R hR=>?_;have hH:=hH.mono hg;have hK:=hK.mono hg;have gl:(bw [] []).length=64:=qn (gu.nil 1) [];have Jo:(er ((1:Nat):Int) (bw [] [])).length=64:=by unfold er;rw [if_pos ⟨by omega,by omega,gl⟩,qi]
 have Rk:jB [] []=bw [] []:=by unfold jB;rw [if_pos ⟨by simp,fun c hc=>by cases hc⟩]
 have hT:fR g.h Fr.emp 1 []:=⟨Fr.c6 _,gu.nil 1,⟨by simp,fun _ h=>by cases h⟩,hH,hK⟩;refine S.seq<|S.region rfl<|O.q 1 rfl<|O.nil<|S.seq<|S.region rfl<|O.aC (.p rfl) rfl aa rfl rfl ((TV (s:=1) aB)) ?_;rintro _ _ ⟨j0,rfl,rfl⟩
 try simp only [an,aq,au]
 refine O.q 1 rfl<|O.nil<|S.seq<|S.region rfl<|O.q 1 rfl<|O.bM (.p rfl) rfl aa rfl rfl ai (FV (peer:=3) (uj:=1) hT aB aB aB) ?_;rintro _ _ ⟨wE,rfl,rfl⟩
 try simp only [an,aq,au]
 refine O.q 1 rfl<|O.nil<|S.seq<|S.ct (A:=aY aF Fr.emp j0 1 []) (bs:=[dc aF Fr.emp Fr.emp j0 1 []]) aW (fun m h=>dc.toX h) ?_;refine S.region rfl<|O.q 2 rfl<|O.bM (.p rfl) rfl aa rfl rfl ai (F8 hT aB) ?_;rintro _ _ ⟨nY,oa,rfl,rfl⟩
 try simp only [an,aq,au]
 refine O.fo ai fun g hs hm lX=>?_;replace hg:=Fr.aI hg hs;replace hR:=bu hR hm
 try replace hH:=hH.mono hs
 try replace hK:=hK.mono hs
 try replace hT:=hT.mono hs
 clear hs hm;refine O.aC (.p rfl) rfl aa rfl rfl ((Fo)) ?_;rintro _ _ ⟨wA,wG,rfl,rfl⟩
 try simp only [an,aq,au]
 refine O.fo ai fun g hs hm pe=>?_;replace hg:=Fr.aI hg hs;replace hR:=bu hR hm
 try replace hH:=hH.mono hs
 try replace hK:=hK.mono hs
 try replace hT:=hT.mono hs
 try replace lX:=lX.mono hs
 clear hs hm;refine O.q 1 rfl<|O.bM (.p rfl) rfl aa rfl rfl ai (ql (p:=[]) hT bL) ?_;rintro _ _ ⟨a17,qw,rfl,rfl⟩
 try simp only [an,aq,au]
 rw [Rk];refine O.fo ai fun g hs hm lY=>?_;replace hg:=Fr.aI hg hs;replace hR:=bu hR hm
 try replace hH:=hH.mono hs
 try replace hK:=hK.mono hs
 try replace hT:=hT.mono hs
 try replace lX:=lX.mono hs
 try replace pe:=pe.mono hs
 clear hs hm;refine O.bM (.p rfl) rfl aa rfl rfl ai (Ww (x:=(3,1,1,er ((1:Nat):Int) (bw [] []),List.replicate 64 0,())) hT aB (jh.mk ⟨by decide,by decide⟩ ⟨by decide,by decide⟩ ⟨by decide,by decide⟩ lX pe) (K6 aB Jo) rfl lY rfl) ?_;rintro _ _ ⟨rfl,rfl⟩
 try simp only [an,aq,au]
 refine O.q 5 rfl<|O.nil<|S.seq<|S.open (bs:=fun k:Fr=>[jq k,dc aF Fr.emp k j0 1 []]) ai (fun m x=>x) fun k=>?_;simp only [List.cons_append,List.nil_append];refine S.ep (A:=jq k) ai fun g hs hm ⟨_,x',s'⟩=>?_;have hk:=EW s' x';clear x' s';replace hg:=Fr.aI hg hs;replace hR:=bu hR hm
 try replace hH:=hH.mono hs
 try replace hK:=hK.mono hs
 try replace hT:=hT.mono hs
 try replace lX:=lX.mono hs
 try replace pe:=pe.mono hs
 try replace lY:=lY.mono hs
 clear hs hm;obtain ⟨e,he⟩:∃ e:Fr,e=g.h:=⟨_,rfl⟩;have qK:fR g.h e 1 []:=⟨he ▸ Fr.bY _,gu.nil 1,⟨by simp,fun _ h=>by cases h⟩,hH,hK⟩;refine S.ct (A:=dc aF e Fr.emp j0 1 []) (bs:=[dc aF Fr.emp k j0 1 []]) aW (fun m h=>Gd (Fr.c6 _) (he ▸ hk) h) ?_;refine S.region rfl<|O.q 1 rfl<|O.bM (.p rfl) rfl aa rfl rfl ai (FV (peer:=3) (uj:=1) qK aB aB aB) ?_;rintro _ _ ⟨YJ,rfl,rfl⟩
 try simp only [an,aq,au]
 refine O.q 1 rfl<|O.nil<|S.seq<|S.ct (A:=aY aF e j0 1 []) (bs:=[dc aF e Fr.emp j0 1 []]) aW (fun m h=>dc.toX h) ?_;refine S.region rfl<|O.q 2 rfl<|O.bM (.p rfl) rfl aa rfl rfl ai (F8 qK aB) ?_;rintro _ _ ⟨a26,gh,rfl,rfl⟩
 try simp only [an,aq,au]
 refine O.fo ai fun g hs hm w_=>?_;replace hg:=Fr.aI hg hs;replace hR:=bu hR hm
 try replace hH:=hH.mono hs
 try replace hK:=hK.mono hs
 try replace hT:=hT.mono hs
 try replace lX:=lX.mono hs
 try replace pe:=pe.mono hs
 try replace lY:=lY.mono hs
 try replace hk:=hk.mono hs
 try replace qK:=qK.mono hs
 clear hs hm;refine O.aC (.p rfl) rfl aa rfl rfl ((Fo)) ?_;rintro _ _ ⟨a27,s7,rfl,rfl⟩
 try simp only [an,aq,au]
 refine O.fo ai fun g hs hm vq=>?_;replace hg:=Fr.aI hg hs;replace hR:=bu hR hm
 try replace hH:=hH.mono hs
 try replace hK:=hK.mono hs
 try replace hT:=hT.mono hs
 try replace lX:=lX.mono hs
 try replace pe:=pe.mono hs
 try replace lY:=lY.mono hs
 try replace hk:=hk.mono hs
 try replace qK:=qK.mono hs
 try replace w_:=w_.mono hs
 clear hs hm;refine O.q 1 rfl<|O.bM (.p rfl) rfl aa rfl rfl ai (ql (p:=[]) qK bL) ?_;rintro _ _ ⟨a29,y_,rfl,rfl⟩
 try simp only [an,aq,au]
 refine O.fo ai fun g hs hm jK=>?_;replace hg:=Fr.aI hg hs;replace hR:=bu hR hm
 try replace hH:=hH.mono hs
 try replace hK:=hK.mono hs
 try replace hT:=hT.mono hs
 try replace lX:=lX.mono hs
 try replace pe:=pe.mono hs
 try replace lY:=lY.mono hs
 try replace hk:=hk.mono hs
 try replace qK:=qK.mono hs
 try replace w_:=w_.mono hs
 try replace vq:=vq.mono hs
 clear hs hm;refine O.bM (.p rfl) rfl aa rfl rfl ai (Wx (peer:=3) (x:=(4,1,1,er ((1:Nat):Int) (bw [] []),List.replicate 64 0,())) (jh.mk ⟨by decide,by decide⟩ ⟨by decide,by decide⟩ ⟨by decide,by decide⟩ w_ vq) (K6 aB Jo) aB aB ⟨_,_,_,rfl⟩) ?_;rintro _ _ ⟨rfl,rfl⟩
 try simp only [an,aq,au]
 refine O.q 5 rfl<|O.nil<|S.seq<|S.region rfl<|O.q 1 rfl<|O.op (.p rfl) (.eql rfl rfl)<|O.sT 34 rfl aK ?_;refine O.q 2 rfl<|O.op (.g rfl rfl) (.len rfl underlying53 rfl)<|O.op (.g rfl rfl) (.eql rfl rfl)<|O.sT 38 rfl aK ?_;refine O.q 3 rfl<|O.bM (.g rfl rfl) rfl aa rfl rfl ai (Lg aB) ?_;rintro _ _ ⟨rfl,rfl⟩
 try simp only [an,aq,au]
 refine O.sT 42 rfl aK ?_;refine O.q 3 rfl<|O.op (.g rfl rfl) (.eql rfl rfl)<|O.sT 46 rfl aK ?_;refine O.q 3 rfl<|O.bM (.g rfl rfl) rfl aa rfl rfl ai (Lg aB) ?_;rintro _ _ ⟨rfl,rfl⟩
 try simp only [an,aq,au]
 refine O.aM 50 rfl aK ?_;refine O.op (.g rfl rfl) (.not rfl)<|O.q 2 rfl<|O.aC (.g rfl rfl) rfl aa rfl rfl ((Wu TZ)) ?_;rintro _ _ ⟨rfl,rfl⟩
 try simp only [an,aq,au]
 refine O.op (.g rfl rfl) (.rM underlying82 rfl rfl)<|O.sT 55 rfl aK ?_;refine O.q 2 rfl<|O.nil ?_;exact S.rt results51 rfl hR ⟨rfl,rfl⟩
end Go.Proofs.YtojafegjlahajaaGreatDoor
