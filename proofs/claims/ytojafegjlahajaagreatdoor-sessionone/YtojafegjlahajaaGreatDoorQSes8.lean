/- Texts of this proof. -/
import Derived.Test.YtojafegjlahajaaGreatDoorQSes6
open Go Go.Sp Go.Proofs.Tryz
set_option maxRecDepth 100000
set_option maxHeartbeats 1000000
attribute [local irreducible] obj Own av
namespace Go.Proofs.YtojafegjlahajaaGreatDoor
attribute [local irreducible] cF bA
noncomputable def jS (L:List aH) (F:List UInt8→List UInt8) (p:List UInt8) (x:dJ):List (List UInt8):=if x.1=3 then dh L F [p++[48],p++[49]] else []
theorem FU (L:List aH) (F:List UInt8→List UInt8) (p:List UInt8) (x:dJ):(jS L F p x).length≤2:=by
 unfold jS;split
 ·exact FR L F _
 ·exact Nat.zero_le _
def gW (l:List aH) (i k:Nat):List aQ:=((l.take i).map (·.2.1)).flatten++(((l.drop i).head?.map (·.2.1)).getD []).take k
def An (x:dJ):List aQ:=(x.2.2.2.1.map (·.2.1)).flatten
theorem JR (l:List aH):gW l 0 0=[]:=by simp [gW]
theorem EE {l:List aH} {i:Nat} (h:i<l.length) (k:Nat):gW l i k=((l.take i).map (·.2.1)).flatten++l[i].2.1.take k:=by
 unfold gW;rw [List.drop_eq_getElem_cons h];rfl
theorem TA {l:List aH} {i k:Nat} (h:i<l.length) (hk:k<l[i].2.1.length):gW l i k++[l[i].2.1[k]]=gW l i (k+1):=by
 rw [EE h,EE h,List.append_assoc,List.take_succ_eq_append_getElem hk]
theorem JS (l:List aH) (i:Nat):gW l i 0=((l.take i).map (·.2.1)).flatten:=by unfold gW;rw [List.take_zero,List.append_nil]
theorem TC {l:List aH} {i:Nat} (h:i<l.length):gW l i l[i].2.1.length=gW l (i+1) 0:=by
 rw [EE h,JS,List.take_length,List.take_succ_eq_append_getElem h,List.map_append,List.flatten_append];simp
theorem Tz (x:dJ):gW x.2.2.2.1 x.2.2.2.1.length 0=An x:=by rw [JS,List.take_length];rfl
theorem IN {N M:Nat}:∀ (l:List aH),(∀ y∈l,y.2.1.length≤M)→l.length≤N→((l.map (·.2.1)).flatten).length≤N*M
 |[],_,_=>Nat.zero_le _
 |y::l,h,hl=>by
  rw [List.map_cons,List.flatten_cons,List.length_append];rw [List.length_cons] at hl;obtain ⟨N,rfl⟩:∃ k,N=k+1:=⟨N - 1,by omega⟩;have h1:=IN (N:=N) l (fun z hz=>h z (by simp [hz])) ah;have h2:=h y bq;rw [Nat.succ_mul];omega
theorem TB {l:List aH} {i k:Nat} (hl:l.length≤100000) (hs:∀ y∈l,y.2.1.length≤100000):(gW l i k).length≤20000000000:=by
 unfold gW;rw [List.length_append,List.length_take];have h1:=IN (N:=100000) (M:=100000) (l.take i) (fun z hz=>hs z (List.mem_of_mem_take hz)) (by rw [List.length_take];omega);have h2:(((l.drop i).head?.map (·.2.1)).getD []).length≤100000:=by
  cases e:(l.drop i).head? with
  |none=>exact Nat.zero_le _
  |some y=>exact hs y (List.mem_of_mem_drop (List.mem_of_head? e))
 omega
theorem Vw (p:List UInt8):[p++[48],p++[49]].Nodup:=by
 rw [List.nodup_cons];refine ⟨fun h=>?_,by simp⟩;rw [List.mem_singleton] at h;exact absurd (List.append_cancel_left h) zE
theorem KJ {p q:List UInt8} (h:q∈[p++[48],p++[49]]):q=p++[48]∨q=p++[49]:=by simpa using h
theorem NS {x:dJ} (h:gx x) (h3:x.1=3):x.2.1.length=64∧x.2.2.1.length=64:=by
 rcases h.2 with q|q|q|q
 ·rw [q.1] at h3;exact absurd h3 zE
 ·rw [q.1] at h3;exact absurd h3 zE
 ·exact ⟨q.2.1,q.2.2.1⟩
 ·rw [q.1] at h3;exact absurd h3 zE
theorem Tx {v:aQ} (h:ea v=true):v.2.2.2.1.length≤8∧v.2.2.2.2.2.1.length≤1024∧v.2.2.2.2.2.2.1.length=64:=by
 have h1:=x2.1 (vm.1 h).1;exact ⟨xS h1.2.2.2.1,h1.2.2.2.2.2.1,(vm.1 h).2⟩
theorem SR {d:Fr} {aS s n:Nat} {L:List aH} {peer:Int} {bM:Bool} {W:List (List UInt8)} {F F' :List UInt8→List UInt8} {p:List UInt8} {m:Fr} (z:iU W F) (CC:∀ q∈W,F q=F' q)
  (h:Sat (eE aJ 89 d z.k aS z.bz z.mp s L peer bM n (gM z.M p) z.c) m):bN aJ 89 d aS s L peer bM (W.erase p) F' n m :=
 bN.L9 (fun q hq=>CC q (List.mem_of_mem_erase hq)) (bN.del z h)
set_option maxHeartbeats 800000 in
theorem J6 {r d:Fr} {aS s n:Nat} {L:List aH} {peer:Int} {bM:Bool} {W:List (List UInt8)} {F F' :List UInt8→List UInt8} {p:List UInt8} {cs:List Value} {x:dJ} (hT:gH r d s L) (hpos:0<peer) (h:ga.rel r cs x) (hp:p∈W) (hF:(F p).length=64) (hx2:x.2.2.2.1.length≤100000∧∀ y∈x.2.2.2.1,y.2.1.length≤100000) (mz:p.length≤1000) (n4:qm s p (F p) x) (hn:n≤200000)
  (CC:∀ q∈W,F q=F' q) (sV:x.1=3→F' (p++[48])=x.2.1∧F' (p++[49])=x.2.2.1∧p++[48] ∉ W∧p++[49] ∉ W) :
  ay prog 54 #[.pointer (some ⟨aS,0,none⟩),.string (str p),.agg cs.toArray] r [bN aJ 89 d aS s L peer bM W F n] (aM fun v U=>∃ a c a' c',v=.tuple #[.slice a (An x).length c,.slice a' (jS L F' p x).length c',.int .i64 0] ∧
   U=[bN aJ 89 d aS s L peer bM (W.erase p++jS L F' p x) F' (n+(jS L F' p x).length),c_ (eH cS) 102 (.slice a (An x).length c) (An x),av ag.str 9 (.slice a' (jS L F' p x).length c') (jS L F' p x)]):=by
 have h0:=h;obtain ⟨qV,qW,fE,qX,qY,fF,rfl,k1,k2,aR⟩:=ga.sh h;have hok:=n4.1;have h12:=D_ hok;have Pv :x.2.2.2.1.length≤10000000∧∀ y∈x.2.2.2.1,y.2.1.length≤10000000:=⟨by omega,fun y hy=>by have:=hx2.2 y hy;omega⟩;have h2:=FU L F' p x;have hps:(str p).size=p.length:=tU p;have XC:(⟨#[48]⟩:ByteArray).size=1:=rfl;have XD:(⟨#[49]⟩:ByteArray).size=1:=rfl;refine ay.of (n:=104) _ rfl func54 rfl rfl rfl fun g hg R hR=>?_;have hT:=hT.mono hg;have h0:=h0.mono hg;have k1:=k1.mono hg;have k2:=k2.mono hg;have aR:=aR.mono hg;refine S.open (bs:=fun z:iU W F=>eE aJ 89 d z.k aS z.bz z.mp s L peer bM n z.M z.c) .here (fun m h=>bN.gy h) fun z=>?_;simp only [eE,List.cons_append,List.nil_append];obtain ⟨pv,e⟩:=z.has.1 hp;have hv:=z.ok p pv e;obtain ⟨pa,pc,rfl⟩:=hv.shape;rw [hF] at e hv;refine S.seq<|S.region rfl<|O.aO (.p rfl) (.box (cs:=[_,_,_,_]) rfl rfl) ?_;rintro _ _ ⟨gK,rfl,rfl⟩;refine O.q 3 rfl<|O.nil<|S.seq<|S.seq<|S.c7 (b:=gK) (cs' :=[bH x.1,.slice qV x.2.1.length qX,.slice qW x.2.2.1.length qY,.slice fE x.2.2.2.1.length fF]) ai rfl ?_;refine S.cV ai fun g hs hm h5=>?_;replace hg:=Fr.aI hg hs;replace hR:=bt hR hm
 try replace hT:=hT.mono hs
 try replace h0:=h0.mono hs
 try replace k1:=k1.mono hs
 try replace k2:=k2.mono hs
 try replace aR:=aR.mono hs
 clear hs hm;refine S.region rfl<|O.q 1 rfl<|O.bD (.p rfl) rfl aa rfl rfl ai (nE hpos) ?_;rintro _ _ ⟨rfl,rfl⟩
 try simp only [an,aq,au]
 refine O.sT 16 rfl aG ?_;refine O.op (.p rfl) (.not rfl)<|O.nil<|S.aP rfl<|S.skip<|S.seq<|S.region rfl<|O.q 1 rfl<|O.op (.p rfl) (.nilCheck rfl)<|O.op (.p rfl) (.aF oH rfl)<|O.op (.p rfl) (.aF sO rfl)<|O.op (.p rfl) (.lo kK) ?_;refine O.q 1 rfl<|O.op (.p rfl) (.nw underlying75 (o3 underlying9) zeroValue24 rfl rfl ai) ?_;refine O.slot 25 (v' :=.tuple #[.slice pa 64 pc,.bool true]) rfl (by rw [e];rfl) ?_;refine O.q 3 rfl<|O.sT 27 rfl aG ?_;refine O.q 2 rfl<|O.nil<|S.seq<|S.block<|S.seq<|S.region rfl<|O.q 1 rfl<|O.op (.p rfl) (.not rfl)<|O.q 1 rfl<|O.nil<|S.aP rfl<|S.seq<|S.region rfl<|O.q 3 rfl<|O.op (.p rfl) (.bI isAgg27 aa rfl h5) ?_;refine O.cU (.p rfl) rfl aa rfl rfl (bs:=[jt z.k,obj aS 89 [.pointer (some ⟨z.bz,0,none⟩),.map (some z.mp),.int .i64 (n:Int),.int .i64 peer,.bool bM],bp aJ d z.bz s L]) aV (fun m hm hd=>J5 (vk hT.hd hd hm).2.1 (vk hT.hd hd hm).2.2 (hv.mono (vk hT.hd hd hm).1) (ag.rel.mono h0 (Fr.cw _ _)) h12 Pv hF (hT.hH.mono (Fr.cw _ _)) (hT.hK.mono (Fr.cw _ _)) ah) ?_;rintro _ _ ⟨rfl,rfl⟩
 try simp only [an,aq,au]
 refine O.sT 36 rfl (by exact decide_eq_true n4) ?_;refine O.op (.p rfl) (.not rfl)<|O.q 1 rfl<|O.nil<|S.aP rfl<|S.skip<|S.inBlock<|S.seq<|S.region rfl<|O.q 1 rfl<|O.op (.p rfl) (.nilCheck rfl)<|O.op (.p rfl) (.aF oH rfl)<|O.op (.p rfl) (.aF sO rfl)<|O.op (.p rfl) (.lo kK) ?_;refine O.q 1 rfl<|O.GI rfl underlying75 (o3 underlying9) rfl rfl ai ?_;refine O.nil<|S.seq<|S.seq<|S.cg (A:=bN aJ 89 d aS s L peer bM (W.erase p) F' n) (bs:=eE aJ 89 d z.k aS z.bz z.mp s L peer bM n (gM z.M p) z.c) aV (fun m h=>SR z CC h) ?_;refine S.yH (fun (y:Option Addr × Nat)=>True) (fun (y:Option Addr × Nat)=>[(7,.slice y.1 (jS L F' p x).length y.2)]) [(0,_),(5,_),(6,_)] (fun (y:Option Addr × Nat)=>[bN aJ 89 d aS s L peer bM (W.erase p++jS L F' p x) F' (n+(jS L F' p x).length),av ag.str 9 (.slice y.1 (jS L F' p x).length y.2) (jS L F' p x)]) (.cons rfl (.cons rfl (.cons rfl (.nil)))) (fun key=>?_) (fun y hx=>?_)
 ·have bl:=cW (g:=g)
  by_cases cH:x.1=3
  ·obtain ⟨f0,f1,w0,w1⟩:=sV cH
   have ig:=NS hok cH;have sH:jS L F' p x=dh L F' [p++[48],p++[49]]:=by unfold jS;rw [if_pos cH]
   rw [sH] at key;refine S.region rfl<|O.op (.p rfl) (.fieldAddr eA rfl)<|O.op (.p rfl) (.loadAt ez rfl h5 rfl) ?_;refine O.op (.p rfl) (.eql rfl rfl)<|O.sT 46 rfl (by rw [cH];rfl) ?_;refine O.nil<|S.bC rfl<|S.region rfl<|O.q 1 rfl<|O.op (.p rfl) (.fieldAddr mj rfl)<|O.op (.p rfl) (.loadAt bg rfl (h5.drop 1) rfl) ?_;refine O.op (.p rfl) (.fieldAddr mm rfl)<|O.op (.p rfl) (.loadAt bg rfl (h5.drop 2) rfl) ?_;refine O.aO (.p rfl) (.cn (T:=ag.cells 1) (ys:=[[.slice qV x.2.1.length qX],[.slice qW x.2.2.1.length qY]]) underlying109 gr zE rfl rfl ⟨⟨rfl,rfl,by first|(simp;done)|(intro v hv;simp [Value.cells] at hv;rcases hv with rfl|rfl<;>rfl)|(refine List.forall_mem_cons.2 ⟨rfl,?_⟩;repeat (first|exact (fun _ h=>absurd h List.not_mem_nil)|refine List.forall_mem_cons.2 ⟨rfl,?_⟩))⟩,⟨rfl,rfl,by first|(simp;done)|(intro v hv;simp [Value.cells] at hv;rcases hv with rfl|rfl<;>rfl)|(refine List.forall_mem_cons.2 ⟨rfl,?_⟩;repeat (first|exact (fun _ h=>absurd h List.not_mem_nil)|refine List.forall_mem_cons.2 ⟨rfl,?_⟩))⟩,trivial⟩ zE) ?_;rintro _ _ ⟨kg,ki,rfl,rfl⟩;refine O.fB ai fun g hs hm qq=>?_;replace hg:=Fr.aI hg hs;replace hR:=bt hR hm
   try replace hT:=hT.mono hs
   try replace h0:=h0.mono hs
   try replace k1:=k1.mono hs
   try replace k2:=k2.mono hs
   try replace aR:=aR.mono hs
   try replace h5:=h5.mono hs
   replace bl:=eD bl hm;clear hs hm;refine O.q 1 rfl<|O.op (.p rfl) (.yj rfl rfl ah)<|O.slot 54 (v' :=.string (str (p++[48]))) rfl (by exact congrArg _ (AB p [48])) ?_;refine O.q 1 rfl<|O.op (.p rfl) (.yj rfl rfl ah)<|O.slot 56 (v' :=.string (str (p++[49]))) rfl (by exact congrArg _ (AB p [49])) ?_;refine O.aO (.p rfl) (.cn (T:=ag.str) (ys:=[p++[48],p++[49]]) underlying53 iG zE rfl rfl ⟨⟨rfl,by simp;omega⟩,⟨rfl,by simp;omega⟩,trivial⟩ zE) ?_;rintro _ _ ⟨a57,LW,rfl,rfl⟩;refine O.fB ai fun g hs hm NK=>?_;replace hg:=Fr.aI hg hs;replace hR:=bt hR hm
   try replace hT:=hT.mono hs
   try replace h0:=h0.mono hs
   try replace k1:=k1.mono hs
   try replace k2:=k2.mono hs
   try replace aR:=aR.mono hs
   try replace h5:=h5.mono hs
   try replace qq:=qq.mono hs
   replace bl:=eD bl hm;clear hs hm;refine O.bD (.p rfl) rfl aa rfl rfl ai (J1 hT (aj.j4 (T:=ag.slice ag.u8) (xs:=[x.2.1,x.2.2.1]) qq ⟨⟨_,rfl,k1⟩,⟨_,rfl,k2⟩,trivial⟩ rfl) NK (by simp [f0,f1]) bX bX (Vw p) (by intro q hq u;rcases KJ hq with rfl|rfl;exact w0 (List.mem_of_mem_erase u);exact w1 (List.mem_of_mem_erase u)) bq ah) ?_;rintro _ _ ⟨a58,vY,rfl,rfl⟩
   try simp only [an,aq,au]
   refine O.q 1 rfl<|O.nil<|S.pk ?_ (S.iR bl (S.weaken ?_ (key ((a58,vY)) (by trivial))))
   ·repeat (first|exact aW|exact aY|(apply aX;focus (repeat (first|exact aU|apply zt)))|apply aZ)
   repeat (first|exact Sub.nil|refine Sub.cons rfl ?_)
  ·have sH:jS L F' p x=[]:=by unfold jS;rw [if_neg cH]
   rw [sH,List.append_nil] at key;refine S.gd (T:=ag.str) (e:=9) ?_;refine S.region rfl<|O.op (.p rfl) (.fieldAddr eA rfl)<|O.op (.p rfl) (.loadAt ez rfl h5 rfl) ?_;refine O.op (.p rfl) (.eql rfl rfl)<|O.aL 46 rfl (by exact decide_eq_false (fun q=>cH (oy.1 q))) ?_;refine O.nil<|S.aP rfl<|S.skip<|S.pk ?_ (S.weaken ?_ (key ((none,0)) (by trivial)))
   ·repeat (first|exact aW|exact aY|(apply aX;focus (repeat (first|exact aU|apply zt)))|apply aZ)
   repeat (first|exact Sub.nil|refine Sub.cons rfl ?_)
 ·generalize jS L F' p x=f_ at *
  refine S.open (bs:=fun w:iU (W.erase p++f_) F' =>eE aJ 89 d w.k aS w.bz w.mp s L peer bM (n+f_.length) w.M w.c) ai (fun m h=>bN.gy h) fun w=>?_;simp only [eE,List.cons_append,List.nil_append];refine S.seq<|S.seq<|S.region rfl<|O.q 1 rfl<|O.op (.p rfl) (.nilCheck rfl)<|O.op (.p rfl) (.aF oH rfl)<|O.op (.p rfl) (.aF y2 rfl)<|O.op (.p rfl) (.lo cv) ?_;refine O.op (.p rfl) (.gtr rfl rfl)<|O.aL 64 rfl (by exact decide_eq_false ah) ?_;refine O.nil<|S.aP rfl<|S.skip<|S.seq<|S.seq<|S.cg (A:=bN aJ 89 d aS s L peer bM (W.erase p++f_) F' (n+f_.length)) (bs:=eE aJ 89 d w.k aS w.bz w.mp s L peer bM (n+f_.length) w.M w.c) aV (fun m h=>bN.fold w h) ?_;refine S.tC (eH cS) 102 ?_;refine S.pk (ζ:=[c_ (eH cS) 102 (.slice none 0 0) [],bN aJ 89 d aS s L peer bM (W.erase p++f_) F' (n+f_.length),av ag.str 9 (.slice y.1 f_.length y.2) f_]) jM ?_;refine S.imp (ax :=[c_ (eH cS) 102 (.slice none (gW x.2.2.2.1 0 0).length 0) (gW x.2.2.2.1 0 0),bN aJ 89 d aS s L peer bM (W.erase p++f_) F' (n+f_.length),av ag.str 9 (.slice y.1 f_.length y.2) f_]) (fun m h=>by rw [JR];exact h) ?_;refine S.slot 6 (v' :=.slice none (gW x.2.2.2.1 0 0).length 0) rfl (by rw [JR];rfl) ?_;refine S.region rfl<|O.op (.p rfl) (.fieldAddr mo rfl)<|O.op (.p rfl) (.loadAt dO rfl (h5.drop 3) rfl) ?_
  refine O.op (.p rfl) (.len rfl underlying25 rfl)<|O.q 1 rfl<|O.nil<|S.block<|S.jG (ι:=Nat) (dB:=Option Addr × Nat) (fun i u=>i≤x.2.2.2.1.length) (fun i u=>[(73,.int .i64 (i:Int)),(6,.slice u.1 (gW x.2.2.2.1 i 0).length u.2)]) [(7,_),(71,_),(72,_)] (fun i u=>[c_ (eH cS) 102 (.slice u.1 (gW x.2.2.2.1 i 0).length u.2) (gW x.2.2.2.1 i 0),bN aJ 89 d aS s L peer bM (W.erase p++f_) F' (n+f_.length),av ag.str 9 (.slice y.1 f_.length y.2) f_]) (fun i u=>x.2.2.2.1.length - i) (0) ((none,0)) bq (.cons rfl (.cons rfl (.nil))) (.cons rfl (.cons rfl (.cons rfl (.nil)))) rfl fun i u hx ih=>?_;have bl:=cW (g:=g);refine S.seq<|S.region rfl<|O.op (.p rfl) (.lss rfl rfl)<|O.nil (S.seq ?_)
  first|refine S.ct rfl (fun Cy=>?_) (fun Cy=>?_)|refine S.cm rfl (fun Cy=>?_) (fun Cy=>?_)
  ·have hi:i<x.2.2.2.1.length:=by omega
   have C6:=hx2.2 _ (List.getElem_mem hi);have hlo:=xw.1 (hok.1.1 _ (List.getElem_mem hi));have hro:=qL hlo.2.2.1.1;refine S.skip<|S.seq<|S.block<|S.seq<|S.region rfl<|O.b_ (.p rfl) underlying25 dz rfl rfl (show _=(((i):Nat):Int) by omega) (aR) (h:=fun Yv Ww Dk Pf=>?_);obtain ⟨l1,m1,rfl,l2,l3⟩:=cq.sh Pf;have l3:=l3;refine O.op (.p rfl) (.bI isAgg31 aa rfl Dk) ?_;refine O.aO (.p rfl) (.alloc (cs:=[.string ⟨#[]⟩,.slice none 0 0]) zeroValue31 rfl) ?_;rintro _ _ ⟨mV,rfl,rfl⟩;refine O.bw rfl (.cZ aa rfl rfl rfl rfl ai aT) ?_;refine O.nil<|S.seq<|S.c7 (b:=mV) (cs' :=[.string (str x.2.2.2.1[i].1),.slice l1 x.2.2.2.1[i].2.1.length m1]) ai rfl ?_;refine S.cV ai fun g hs hm h12=>?_;replace hg:=Fr.aI hg hs;replace hR:=bt hR hm
   try replace hT:=hT.mono hs
   try replace h0:=h0.mono hs
   try replace k1:=k1.mono hs
   try replace k2:=k2.mono hs
   try replace aR:=aR.mono hs
   try replace h5:=h5.mono hs
   try replace Dk:=Dk.mono hs
   try replace l3:=l3.mono hs
   replace bl:=eD bl hm;clear hs hm;refine S.region rfl<|O.op (.p rfl) (.fieldAddr gl rfl)<|O.op (.p rfl) (.loadAt eN rfl (h12.drop 1) rfl) ?_;refine O.op (.p rfl) (.len rfl underlying22 rfl)<|O.q 1 rfl<|O.nil<|S.block<|S.jG (ι:=Nat) (dB:=Option Addr × Nat) (fun k o=>k≤x.2.2.2.1[i].2.1.length) (fun k o=>[(80,.int .i64 (k:Int)),(6,.slice o.1 (gW x.2.2.2.1 i k).length o.2)]) [(7,_),(71,_),(72,_),(73,_),(78,_),(79,_)] (fun k o=>[c_ (eH cS) 102 (.slice o.1 (gW x.2.2.2.1 i k).length o.2) (gW x.2.2.2.1 i k),bN aJ 89 d aS s L peer bM (W.erase p++f_) F' (n+f_.length),av ag.str 9 (.slice y.1 f_.length y.2) f_]) (fun k o=>x.2.2.2.1[i].2.1.length - k) (0) (u) bq (.cons rfl (.cons rfl (.nil))) (.cons rfl (.cons rfl (.cons rfl (.cons rfl (.cons rfl (.cons rfl (.nil))))))) rfl fun k o hx ih=>?_;have hm2:=cW (g:=g);refine S.seq<|S.region rfl<|O.op (.p rfl) (.lss rfl rfl)<|O.nil (S.seq ?_)
   first|refine S.ct rfl (fun CA=>?_) (fun CA=>?_)|refine S.cm rfl (fun CA=>?_) (fun CA=>?_)
   ·have hk:k<x.2.2.2.1[i].2.1.length:=by omega
    have w_:=hro _ (List.getElem_mem hk);have XB:=Tx w_;have hrl:=TB (i:=i) (k:=k) hx2.1 hx2.2;have eO:=TA hi hk;refine S.skip<|S.seq<|S.block<|S.seq<|S.region rfl<|O.b_ (.p rfl) underlying22 x4 rfl rfl (show _=(((k):Nat):Int) by omega) (l3) (h:=fun Yw Wx OX Pg=>?_);obtain ⟨a3,a5,a6,c3,dM,dD,rfl,o0,o1,o2,kP,lT,lU⟩:=dc.sh Pg;refine O.op (.p rfl) (.bI isAgg102 aa rfl OX) ?_;refine O.aO (.p rfl) (.alloc (cs:=[.string ⟨#[]⟩,.int .i64 0,.int .i64 0,.slice none 0 0,.bool false,.slice none 0 0,.slice none 0 0]) zeroValue102 rfl) ?_;rintro _ _ ⟨FY,rfl,rfl⟩;refine O.bw rfl (.cZ aa rfl rfl rfl rfl ai aT) ?_;refine O.nil (S.seq ?_);generalize x.2.2.2.1[i].2.1[k]=v at *;refine S.c7 (b:=FY) (cs' :=tM v (.slice a3 v.2.2.2.1.length c3) (.slice a5 v.2.2.2.2.2.1.length dM) (.slice a6 v.2.2.2.2.2.2.1.length dD)) ai rfl ?_
    refine S.EF (L:=[0,3,6,1,2,4,5,7,9,8,10,11,12,13,14]) (fun (t:(Option Addr × Nat) × (Option Addr × Nat) × (Option Addr × Nat))=>[]) [(6,_),(7,_),(14,_),(71,_),(72,_),(73,_),(78,_),(79,_),(80,_)] (fun (t:(Option Addr × Nat) × (Option Addr × Nat) × (Option Addr × Nat))=>[obj FY 102 (tM v (.slice t.1.1 v.2.2.2.1.length t.1.2) (.slice t.2.1.1 v.2.2.2.2.2.1.length t.2.1.2) (.slice t.2.2.1 v.2.2.2.2.2.2.1.length t.2.2.2)),av dm 191 (.slice t.1.1 v.2.2.2.1.length t.1.2) v.2.2.2.1,av ag.u8 5 (.slice t.2.1.1 v.2.2.2.2.2.1.length t.2.1.2) v.2.2.2.2.2.1,av ag.u8 5 (.slice t.2.2.1 v.2.2.2.2.2.2.1.length t.2.2.2) v.2.2.2.2.2.2.1,c_ (eH cS) 102 (.slice o.1 (gW x.2.2.2.1 i k).length o.2) (gW x.2.2.2.1 i k),bN aJ 89 d aS s L peer bM (W.erase p++f_) F' (n+f_.length),av ag.str 9 (.slice y.1 f_.length y.2) f_]) (.cons rfl (.cons rfl (.cons rfl (.cons rfl (.cons rfl (.cons rfl (.cons rfl (.cons rfl (.cons rfl (.nil)))))))))) bx aa (fun kk key=>?_) (fun t=>?_)
    ·refine .quiet (.p rfl) rfl (fun _=>.aF fQ rfl)<|.quiet (.p rfl) rfl (fun _=>.aF gD rfl)<|.quiet (.p rfl) rfl (fun _=>.aF jg rfl)<|af.Bj 1 4 7 [2,4,5,7,9,8,10,11,12,13,14] [1,2,5,7,9,8,10,11,12,13,14] [1,2,4,5,9,8,10,11,12,13,14] aa rfl rfl rfl ?_ ?_ ?_
     ·refine bO.cr (.p rfl) aa (fun _=>.cK e5 aG ai aG) ?_
      refine af.Bj 2 4 7 [4,5,7,9,8,10,11,12,13,14] [2,5,7,9,8,10,11,12,13,14] [2,4,5,9,8,10,11,12,13,14] aa rfl rfl rfl ?_ ?_ ?_
      ·refine bO.aC (.p rfl) aa rfl aa rfl rfl ((oB kP ah)) ?_
       rintro _ _ ⟨gb,gi,rfl,rfl⟩
       try simp only [an,aq,au]
       refine af.eW 4 7 [5,7,9,8,10,11,12,13,14] [4,5,9,8,10,11,12,13,14] aa rfl rfl ?_ ?_
       ·refine bO.cr (.p rfl) aa (fun _=>.cK bg aG ai aG) ?_
        refine af.eW 5 7 [7,9,8,10,11,12,13,14] [5,9,8,10,11,12,13,14] aa rfl rfl ?_ ?_
        ·refine bO.aC (.p rfl) aa rfl aa rfl rfl ((er lT ah)) ?_
         rintro _ _ ⟨eo,ep,rfl,rfl⟩
         try simp only [an,aq,au]
         refine af.cr (.p rfl) aa (fun _=>.cK bg aG ai aG) ?_;refine .quiet (.p rfl) rfl (fun _=>.aF fQ rfl)<|af.aC (.p rfl) aa rfl aa rfl rfl ((er lU ah)) ?_;rintro _ _ ⟨e3,e4,rfl,rfl⟩
         try simp only [an,aq,au]
         refine af.bk rfl aa e5 rfl rfl bn ai aT ?_;refine .quiet (.p rfl) rfl (fun _=>.aF gD rfl)<|af.bk rfl aa bg rfl rfl bn ai aT ?_;refine .quiet (.p rfl) rfl (fun _=>.aF jg rfl)<|af.bk rfl aa bg rfl rfl bn ai aT ?_;refine aK.nil<|S.pk ?_ (S.weaken (Sub.app (.nil) (.cons rfl (.cons rfl (.cons rfl (.cons rfl (.cons rfl (.cons rfl (.cons rfl (.cons rfl (.cons rfl (.nil))))))))))) (key ((gb,gi),(eo,ep),(e3,e4))))
         try dsimp only
         repeat (first|exact aW|exact aY|(apply aX;focus (repeat (first|exact aU|apply zt)))|apply aZ)
        ·refine bO.cr (.p rfl) aa (fun _=>.cK bg aG ai aG) ?_
         refine .swap [9,5,8,10,11,12,13,14] aa ?_;refine .quiet (.p rfl) rfl (fun _=>.aF fQ rfl)<|af.aC (.p rfl) aa rfl aa rfl rfl ((er lT ah)) ?_;rintro _ _ ⟨eo,ep,rfl,rfl⟩
         try simp only [an,aq,au]
         refine af.aC (.p rfl) aa rfl aa rfl rfl ((er lU ah)) ?_;rintro _ _ ⟨e3,e4,rfl,rfl⟩
         try simp only [an,aq,au]
         refine af.bk rfl aa e5 rfl rfl bn ai aT ?_;refine .quiet (.p rfl) rfl (fun _=>.aF gD rfl)<|af.bk rfl aa bg rfl rfl bn ai aT ?_;refine .quiet (.p rfl) rfl (fun _=>.aF jg rfl)<|af.bk rfl aa bg rfl rfl bn ai aT ?_;refine aK.nil<|S.pk ?_ (S.weaken (Sub.app (.nil) (.cons rfl (.cons rfl (.cons rfl (.cons rfl (.cons rfl (.cons rfl (.cons rfl (.cons rfl (.cons rfl (.nil))))))))))) (key ((gb,gi),(eo,ep),(e3,e4))))
         try dsimp only
         repeat (first|exact aW|exact aY|(apply aX;focus (repeat (first|exact aU|apply zt)))|apply aZ)
       ·refine bO.cr (.p rfl) aa (fun _=>.cK bg aG ai aG) ?_
        refine .swap [4,9,5,8,10,11,12,13,14] aa ?_;refine af.cr (.p rfl) aa (fun _=>.cK bg aG ai aG) ?_;refine .quiet (.p rfl) rfl (fun _=>.aF fQ rfl)<|af.aC (.p rfl) aa rfl aa rfl rfl ((er lT ah)) ?_;rintro _ _ ⟨eo,ep,rfl,rfl⟩
        try simp only [an,aq,au]
        refine af.aC (.p rfl) aa rfl aa rfl rfl ((er lU ah)) ?_;rintro _ _ ⟨e3,e4,rfl,rfl⟩
        try simp only [an,aq,au]
        refine af.bk rfl aa e5 rfl rfl bn ai aT ?_;refine .quiet (.p rfl) rfl (fun _=>.aF gD rfl)<|af.bk rfl aa bg rfl rfl bn ai aT ?_;refine .quiet (.p rfl) rfl (fun _=>.aF jg rfl)<|af.bk rfl aa bg rfl rfl bn ai aT ?_;refine aK.nil<|S.pk ?_ (S.weaken (Sub.app (.nil) (.cons rfl (.cons rfl (.cons rfl (.cons rfl (.cons rfl (.cons rfl (.cons rfl (.cons rfl (.cons rfl (.nil))))))))))) (key ((gb,gi),(eo,ep),(e3,e4))))
        try dsimp only
        repeat (first|exact aW|exact aY|(apply aX;focus (repeat (first|exact aU|apply zt)))|apply aZ)
      ·refine bO.cr (.p rfl) aa (fun _=>.cK bg aG ai aG) ?_
       refine af.eW 2 7 [5,7,9,8,10,11,12,13,14] [2,5,9,8,10,11,12,13,14] aa rfl rfl ?_ ?_
       ·refine bO.aC (.p rfl) aa rfl aa rfl rfl ((oB kP ah)) ?_
        rintro _ _ ⟨gb,gi,rfl,rfl⟩
        try simp only [an,aq,au]
        refine af.eW 5 7 [7,9,8,10,11,12,13,14] [5,9,8,10,11,12,13,14] aa rfl rfl ?_ ?_
        ·refine bO.aC (.p rfl) aa rfl aa rfl rfl ((er lT ah)) ?_
         rintro _ _ ⟨eo,ep,rfl,rfl⟩
         try simp only [an,aq,au]
         refine af.cr (.p rfl) aa (fun _=>.cK bg aG ai aG) ?_;refine .quiet (.p rfl) rfl (fun _=>.aF fQ rfl)<|af.aC (.p rfl) aa rfl aa rfl rfl ((er lU ah)) ?_;rintro _ _ ⟨e3,e4,rfl,rfl⟩
         try simp only [an,aq,au]
         refine af.bk rfl aa e5 rfl rfl bn ai aT ?_;refine .quiet (.p rfl) rfl (fun _=>.aF gD rfl)<|af.bk rfl aa bg rfl rfl bn ai aT ?_;refine .quiet (.p rfl) rfl (fun _=>.aF jg rfl)<|af.bk rfl aa bg rfl rfl bn ai aT ?_;refine aK.nil<|S.pk ?_ (S.weaken (Sub.app (.nil) (.cons rfl (.cons rfl (.cons rfl (.cons rfl (.cons rfl (.cons rfl (.cons rfl (.cons rfl (.cons rfl (.nil))))))))))) (key ((gb,gi),(eo,ep),(e3,e4))))
         try dsimp only
         repeat (first|exact aW|exact aY|(apply aX;focus (repeat (first|exact aU|apply zt)))|apply aZ)
        ·refine bO.cr (.p rfl) aa (fun _=>.cK bg aG ai aG) ?_
         refine .swap [9,5,8,10,11,12,13,14] aa ?_;refine .quiet (.p rfl) rfl (fun _=>.aF fQ rfl)<|af.aC (.p rfl) aa rfl aa rfl rfl ((er lT ah)) ?_;rintro _ _ ⟨eo,ep,rfl,rfl⟩
         try simp only [an,aq,au]
         refine af.aC (.p rfl) aa rfl aa rfl rfl ((er lU ah)) ?_;rintro _ _ ⟨e3,e4,rfl,rfl⟩
         try simp only [an,aq,au]
         refine af.bk rfl aa e5 rfl rfl bn ai aT ?_;refine .quiet (.p rfl) rfl (fun _=>.aF gD rfl)<|af.bk rfl aa bg rfl rfl bn ai aT ?_;refine .quiet (.p rfl) rfl (fun _=>.aF jg rfl)<|af.bk rfl aa bg rfl rfl bn ai aT ?_;refine aK.nil<|S.pk ?_ (S.weaken (Sub.app (.nil) (.cons rfl (.cons rfl (.cons rfl (.cons rfl (.cons rfl (.cons rfl (.cons rfl (.cons rfl (.cons rfl (.nil))))))))))) (key ((gb,gi),(eo,ep),(e3,e4))))
         try dsimp only
         repeat (first|exact aW|exact aY|(apply aX;focus (repeat (first|exact aU|apply zt)))|apply aZ)
       ·refine bO.cr (.p rfl) aa (fun _=>.cK bg aG ai aG) ?_
        refine .swap [2,9,5,8,10,11,12,13,14] aa ?_;refine af.aC (.p rfl) aa rfl aa rfl rfl ((oB kP ah)) ?_;rintro _ _ ⟨gb,gi,rfl,rfl⟩
        try simp only [an,aq,au]
        refine .quiet (.p rfl) rfl (fun _=>.aF fQ rfl)<|af.aC (.p rfl) aa rfl aa rfl rfl ((er lT ah)) ?_;rintro _ _ ⟨eo,ep,rfl,rfl⟩
        try simp only [an,aq,au]
        refine af.aC (.p rfl) aa rfl aa rfl rfl ((er lU ah)) ?_;rintro _ _ ⟨e3,e4,rfl,rfl⟩
        try simp only [an,aq,au]
        refine af.bk rfl aa e5 rfl rfl bn ai aT ?_;refine .quiet (.p rfl) rfl (fun _=>.aF gD rfl)<|af.bk rfl aa bg rfl rfl bn ai aT ?_;refine .quiet (.p rfl) rfl (fun _=>.aF jg rfl)<|af.bk rfl aa bg rfl rfl bn ai aT ?_;refine aK.nil<|S.pk ?_ (S.weaken (Sub.app (.nil) (.cons rfl (.cons rfl (.cons rfl (.cons rfl (.cons rfl (.cons rfl (.cons rfl (.cons rfl (.cons rfl (.nil))))))))))) (key ((gb,gi),(eo,ep),(e3,e4))))
        try dsimp only
        repeat (first|exact aW|exact aY|(apply aX;focus (repeat (first|exact aU|apply zt)))|apply aZ)
      ·refine bO.cr (.p rfl) aa (fun _=>.cK bg aG ai aG) ?_
       refine .swap [2,4,9,5,8,10,11,12,13,14] aa ?_;refine af.eW 2 4 [4,9,5,8,10,11,12,13,14] [2,9,5,8,10,11,12,13,14] aa rfl rfl ?_ ?_
       ·refine bO.aC (.p rfl) aa rfl aa rfl rfl ((oB kP ah)) ?_
        rintro _ _ ⟨gb,gi,rfl,rfl⟩
        try simp only [an,aq,au]
        refine af.cr (.p rfl) aa (fun _=>.cK bg aG ai aG) ?_;refine .quiet (.p rfl) rfl (fun _=>.aF fQ rfl)<|af.aC (.p rfl) aa rfl aa rfl rfl ((er lT ah)) ?_;rintro _ _ ⟨eo,ep,rfl,rfl⟩
        try simp only [an,aq,au]
        refine af.aC (.p rfl) aa rfl aa rfl rfl ((er lU ah)) ?_;rintro _ _ ⟨e3,e4,rfl,rfl⟩
        try simp only [an,aq,au]
        refine af.bk rfl aa e5 rfl rfl bn ai aT ?_;refine .quiet (.p rfl) rfl (fun _=>.aF gD rfl)<|af.bk rfl aa bg rfl rfl bn ai aT ?_;refine .quiet (.p rfl) rfl (fun _=>.aF jg rfl)<|af.bk rfl aa bg rfl rfl bn ai aT ?_;refine aK.nil<|S.pk ?_ (S.weaken (Sub.app (.nil) (.cons rfl (.cons rfl (.cons rfl (.cons rfl (.cons rfl (.cons rfl (.cons rfl (.cons rfl (.cons rfl (.nil))))))))))) (key ((gb,gi),(eo,ep),(e3,e4))))
        try dsimp only
        repeat (first|exact aW|exact aY|(apply aX;focus (repeat (first|exact aU|apply zt)))|apply aZ)
       ·refine bO.cr (.p rfl) aa (fun _=>.cK bg aG ai aG) ?_
        refine af.aC (.p rfl) aa rfl aa rfl rfl ((oB kP ah)) ?_;rintro _ _ ⟨gb,gi,rfl,rfl⟩
        try simp only [an,aq,au]
        refine .quiet (.p rfl) rfl (fun _=>.aF fQ rfl)<|af.aC (.p rfl) aa rfl aa rfl rfl ((er lT ah)) ?_;rintro _ _ ⟨eo,ep,rfl,rfl⟩
        try simp only [an,aq,au]
        refine af.aC (.p rfl) aa rfl aa rfl rfl ((er lU ah)) ?_;rintro _ _ ⟨e3,e4,rfl,rfl⟩
        try simp only [an,aq,au]
        refine af.bk rfl aa e5 rfl rfl bn ai aT ?_;refine .quiet (.p rfl) rfl (fun _=>.aF gD rfl)<|af.bk rfl aa bg rfl rfl bn ai aT ?_;refine .quiet (.p rfl) rfl (fun _=>.aF jg rfl)<|af.bk rfl aa bg rfl rfl bn ai aT ?_;refine aK.nil<|S.pk ?_ (S.weaken (Sub.app (.nil) (.cons rfl (.cons rfl (.cons rfl (.cons rfl (.cons rfl (.cons rfl (.cons rfl (.cons rfl (.cons rfl (.nil))))))))))) (key ((gb,gi),(eo,ep),(e3,e4))))
        try dsimp only
        repeat (first|exact aW|exact aY|(apply aX;focus (repeat (first|exact aU|apply zt)))|apply aZ)
     ·refine bO.cr (.p rfl) aa (fun _=>.cK bg aG ai aG) ?_
      refine af.eW 1 7 [2,5,7,9,8,10,11,12,13,14] [1,2,5,9,8,10,11,12,13,14] aa rfl rfl ?_ ?_
      ·refine bO.cr (.p rfl) aa (fun _=>.cK e5 aG ai aG) ?_
       refine af.eW 2 7 [5,7,9,8,10,11,12,13,14] [2,5,9,8,10,11,12,13,14] aa rfl rfl ?_ ?_
       ·refine bO.aC (.p rfl) aa rfl aa rfl rfl ((oB kP ah)) ?_
        rintro _ _ ⟨gb,gi,rfl,rfl⟩
        try simp only [an,aq,au]
        refine af.eW 5 7 [7,9,8,10,11,12,13,14] [5,9,8,10,11,12,13,14] aa rfl rfl ?_ ?_
        ·refine bO.aC (.p rfl) aa rfl aa rfl rfl ((er lT ah)) ?_
         rintro _ _ ⟨eo,ep,rfl,rfl⟩
         try simp only [an,aq,au]
         refine af.cr (.p rfl) aa (fun _=>.cK bg aG ai aG) ?_;refine .quiet (.p rfl) rfl (fun _=>.aF fQ rfl)<|af.aC (.p rfl) aa rfl aa rfl rfl ((er lU ah)) ?_;rintro _ _ ⟨e3,e4,rfl,rfl⟩
         try simp only [an,aq,au]
         refine af.bk rfl aa e5 rfl rfl bn ai aT ?_;refine .quiet (.p rfl) rfl (fun _=>.aF gD rfl)<|af.bk rfl aa bg rfl rfl bn ai aT ?_;refine .quiet (.p rfl) rfl (fun _=>.aF jg rfl)<|af.bk rfl aa bg rfl rfl bn ai aT ?_;refine aK.nil<|S.pk ?_ (S.weaken (Sub.app (.nil) (.cons rfl (.cons rfl (.cons rfl (.cons rfl (.cons rfl (.cons rfl (.cons rfl (.cons rfl (.cons rfl (.nil))))))))))) (key ((gb,gi),(eo,ep),(e3,e4))))
         try dsimp only
         repeat (first|exact aW|exact aY|(apply aX;focus (repeat (first|exact aU|apply zt)))|apply aZ)
        ·refine bO.cr (.p rfl) aa (fun _=>.cK bg aG ai aG) ?_
         refine .swap [9,5,8,10,11,12,13,14] aa ?_;refine .quiet (.p rfl) rfl (fun _=>.aF fQ rfl)<|af.aC (.p rfl) aa rfl aa rfl rfl ((er lT ah)) ?_;rintro _ _ ⟨eo,ep,rfl,rfl⟩
         try simp only [an,aq,au]
         refine af.aC (.p rfl) aa rfl aa rfl rfl ((er lU ah)) ?_;rintro _ _ ⟨e3,e4,rfl,rfl⟩
         try simp only [an,aq,au]
         refine af.bk rfl aa e5 rfl rfl bn ai aT ?_;refine .quiet (.p rfl) rfl (fun _=>.aF gD rfl)<|af.bk rfl aa bg rfl rfl bn ai aT ?_;refine .quiet (.p rfl) rfl (fun _=>.aF jg rfl)<|af.bk rfl aa bg rfl rfl bn ai aT ?_;refine aK.nil<|S.pk ?_ (S.weaken (Sub.app (.nil) (.cons rfl (.cons rfl (.cons rfl (.cons rfl (.cons rfl (.cons rfl (.cons rfl (.cons rfl (.cons rfl (.nil))))))))))) (key ((gb,gi),(eo,ep),(e3,e4))))
         try dsimp only
         repeat (first|exact aW|exact aY|(apply aX;focus (repeat (first|exact aU|apply zt)))|apply aZ)
       ·refine bO.cr (.p rfl) aa (fun _=>.cK bg aG ai aG) ?_
        refine .swap [2,9,5,8,10,11,12,13,14] aa ?_;refine af.aC (.p rfl) aa rfl aa rfl rfl ((oB kP ah)) ?_;rintro _ _ ⟨gb,gi,rfl,rfl⟩
        try simp only [an,aq,au]
        refine .quiet (.p rfl) rfl (fun _=>.aF fQ rfl)<|af.aC (.p rfl) aa rfl aa rfl rfl ((er lT ah)) ?_;rintro _ _ ⟨eo,ep,rfl,rfl⟩
        try simp only [an,aq,au]
        refine af.aC (.p rfl) aa rfl aa rfl rfl ((er lU ah)) ?_;rintro _ _ ⟨e3,e4,rfl,rfl⟩
        try simp only [an,aq,au]
        refine af.bk rfl aa e5 rfl rfl bn ai aT ?_;refine .quiet (.p rfl) rfl (fun _=>.aF gD rfl)<|af.bk rfl aa bg rfl rfl bn ai aT ?_;refine .quiet (.p rfl) rfl (fun _=>.aF jg rfl)<|af.bk rfl aa bg rfl rfl bn ai aT ?_;refine aK.nil<|S.pk ?_ (S.weaken (Sub.app (.nil) (.cons rfl (.cons rfl (.cons rfl (.cons rfl (.cons rfl (.cons rfl (.cons rfl (.cons rfl (.cons rfl (.nil))))))))))) (key ((gb,gi),(eo,ep),(e3,e4))))
        try dsimp only
        repeat (first|exact aW|exact aY|(apply aX;focus (repeat (first|exact aU|apply zt)))|apply aZ)
      ·refine bO.cr (.p rfl) aa (fun _=>.cK bg aG ai aG) ?_
       refine .swap [1,2,9,5,8,10,11,12,13,14] aa ?_;refine af.cr (.p rfl) aa (fun _=>.cK e5 aG ai aG) ?_;refine af.aC (.p rfl) aa rfl aa rfl rfl ((oB kP ah)) ?_;rintro _ _ ⟨gb,gi,rfl,rfl⟩
       try simp only [an,aq,au]
       refine .quiet (.p rfl) rfl (fun _=>.aF fQ rfl)<|af.aC (.p rfl) aa rfl aa rfl rfl ((er lT ah)) ?_;rintro _ _ ⟨eo,ep,rfl,rfl⟩
       try simp only [an,aq,au]
       refine af.aC (.p rfl) aa rfl aa rfl rfl ((er lU ah)) ?_;rintro _ _ ⟨e3,e4,rfl,rfl⟩
       try simp only [an,aq,au]
       refine af.bk rfl aa e5 rfl rfl bn ai aT ?_;refine .quiet (.p rfl) rfl (fun _=>.aF gD rfl)<|af.bk rfl aa bg rfl rfl bn ai aT ?_;refine .quiet (.p rfl) rfl (fun _=>.aF jg rfl)<|af.bk rfl aa bg rfl rfl bn ai aT ?_;refine aK.nil<|S.pk ?_ (S.weaken (Sub.app (.nil) (.cons rfl (.cons rfl (.cons rfl (.cons rfl (.cons rfl (.cons rfl (.cons rfl (.cons rfl (.cons rfl (.nil))))))))))) (key ((gb,gi),(eo,ep),(e3,e4))))
       try dsimp only
       repeat (first|exact aW|exact aY|(apply aX;focus (repeat (first|exact aU|apply zt)))|apply aZ)
     ·refine bO.cr (.p rfl) aa (fun _=>.cK bg aG ai aG) ?_
      refine .swap [1,2,4,9,5,8,10,11,12,13,14] aa ?_;refine af.eW 1 4 [2,4,9,5,8,10,11,12,13,14] [1,2,9,5,8,10,11,12,13,14] aa rfl rfl ?_ ?_
      ·refine bO.cr (.p rfl) aa (fun _=>.cK e5 aG ai aG) ?_
       refine af.eW 2 4 [4,9,5,8,10,11,12,13,14] [2,9,5,8,10,11,12,13,14] aa rfl rfl ?_ ?_
       ·refine bO.aC (.p rfl) aa rfl aa rfl rfl ((oB kP ah)) ?_
        rintro _ _ ⟨gb,gi,rfl,rfl⟩
        try simp only [an,aq,au]
        refine af.cr (.p rfl) aa (fun _=>.cK bg aG ai aG) ?_;refine .quiet (.p rfl) rfl (fun _=>.aF fQ rfl)<|af.aC (.p rfl) aa rfl aa rfl rfl ((er lT ah)) ?_;rintro _ _ ⟨eo,ep,rfl,rfl⟩
        try simp only [an,aq,au]
        refine af.aC (.p rfl) aa rfl aa rfl rfl ((er lU ah)) ?_;rintro _ _ ⟨e3,e4,rfl,rfl⟩
        try simp only [an,aq,au]
        refine af.bk rfl aa e5 rfl rfl bn ai aT ?_;refine .quiet (.p rfl) rfl (fun _=>.aF gD rfl)<|af.bk rfl aa bg rfl rfl bn ai aT ?_;refine .quiet (.p rfl) rfl (fun _=>.aF jg rfl)<|af.bk rfl aa bg rfl rfl bn ai aT ?_;refine aK.nil<|S.pk ?_ (S.weaken (Sub.app (.nil) (.cons rfl (.cons rfl (.cons rfl (.cons rfl (.cons rfl (.cons rfl (.cons rfl (.cons rfl (.cons rfl (.nil))))))))))) (key ((gb,gi),(eo,ep),(e3,e4))))
        try dsimp only
        repeat (first|exact aW|exact aY|(apply aX;focus (repeat (first|exact aU|apply zt)))|apply aZ)
       ·refine bO.cr (.p rfl) aa (fun _=>.cK bg aG ai aG) ?_
        refine af.aC (.p rfl) aa rfl aa rfl rfl ((oB kP ah)) ?_;rintro _ _ ⟨gb,gi,rfl,rfl⟩
        try simp only [an,aq,au]
        refine .quiet (.p rfl) rfl (fun _=>.aF fQ rfl)<|af.aC (.p rfl) aa rfl aa rfl rfl ((er lT ah)) ?_;rintro _ _ ⟨eo,ep,rfl,rfl⟩
        try simp only [an,aq,au]
        refine af.aC (.p rfl) aa rfl aa rfl rfl ((er lU ah)) ?_;rintro _ _ ⟨e3,e4,rfl,rfl⟩
        try simp only [an,aq,au]
        refine af.bk rfl aa e5 rfl rfl bn ai aT ?_;refine .quiet (.p rfl) rfl (fun _=>.aF gD rfl)<|af.bk rfl aa bg rfl rfl bn ai aT ?_;refine .quiet (.p rfl) rfl (fun _=>.aF jg rfl)<|af.bk rfl aa bg rfl rfl bn ai aT ?_;refine aK.nil<|S.pk ?_ (S.weaken (Sub.app (.nil) (.cons rfl (.cons rfl (.cons rfl (.cons rfl (.cons rfl (.cons rfl (.cons rfl (.cons rfl (.cons rfl (.nil))))))))))) (key ((gb,gi),(eo,ep),(e3,e4))))
        try dsimp only
        repeat (first|exact aW|exact aY|(apply aX;focus (repeat (first|exact aU|apply zt)))|apply aZ)
      ·refine bO.cr (.p rfl) aa (fun _=>.cK bg aG ai aG) ?_
       refine af.cr (.p rfl) aa (fun _=>.cK e5 aG ai aG) ?_;refine af.aC (.p rfl) aa rfl aa rfl rfl ((oB kP ah)) ?_;rintro _ _ ⟨gb,gi,rfl,rfl⟩
       try simp only [an,aq,au]
       refine .quiet (.p rfl) rfl (fun _=>.aF fQ rfl)<|af.aC (.p rfl) aa rfl aa rfl rfl ((er lT ah)) ?_;rintro _ _ ⟨eo,ep,rfl,rfl⟩
       try simp only [an,aq,au]
       refine af.aC (.p rfl) aa rfl aa rfl rfl ((er lU ah)) ?_;rintro _ _ ⟨e3,e4,rfl,rfl⟩
       try simp only [an,aq,au]
       refine af.bk rfl aa e5 rfl rfl bn ai aT ?_;refine .quiet (.p rfl) rfl (fun _=>.aF gD rfl)<|af.bk rfl aa bg rfl rfl bn ai aT ?_;refine .quiet (.p rfl) rfl (fun _=>.aF jg rfl)<|af.bk rfl aa bg rfl rfl bn ai aT ?_;refine aK.nil<|S.pk ?_ (S.weaken (Sub.app (.nil) (.cons rfl (.cons rfl (.cons rfl (.cons rfl (.cons rfl (.cons rfl (.cons rfl (.cons rfl (.cons rfl (.nil))))))))))) (key ((gb,gi),(eo,ep),(e3,e4))))
       try dsimp only
       repeat (first|exact aW|exact aY|(apply aX;focus (repeat (first|exact aU|apply zt)))|apply aZ)
    refine S.xz (G:=eH cS) (k' :=7) rfl ai fun ak dY=>?_;rw [← dY];refine S.region rfl<|O.q 1 rfl<|O.op (.p rfl) (.gU (news:=[_,_,_,_,_,_,_]) isAgg102) ?_;refine O.aO (.p rfl) (.cn (T:=(ag.cells 7)) (ys:=[_]) underlying22 yN zE rfl rfl ⟨⟨rfl,rfl,by first|(simp;done)|(intro v hv;simp [Value.cells] at hv;rcases hv with rfl|rfl<;>rfl)|(refine List.forall_mem_cons.2 ⟨rfl,?_⟩;repeat (first|exact (fun _ h=>absurd h List.not_mem_nil)|refine List.forall_mem_cons.2 ⟨rfl,?_⟩))⟩,trivial⟩ zE) ?_;rintro _ _ ⟨Wa,Wi,rfl,rfl⟩;refine O.aO (.p rfl) (.gJ (T:=(ag.cells 7)) underlying22 yN zE rfl rfl ai ai bL bL) ?_;rintro _ _ ⟨Lb,L1,rfl,rfl⟩;refine O.q 1 rfl<|O.nil<|S.inBlock<|S.cg (A:=(eH cS).own (tM v (.slice t.1.1 v.2.2.2.1.length t.1.2) (.slice t.2.1.1 v.2.2.2.2.2.1.length t.2.1.2) (.slice t.2.2.1 v.2.2.2.2.2.2.1.length t.2.2.2)) v) (bs:=xR v (.slice t.1.1 v.2.2.2.1.length t.1.2) (.slice t.2.1.1 v.2.2.2.2.2.1.length t.2.1.2) (.slice t.2.2.1 v.2.2.2.2.2.2.1.length t.2.2.2)) aV (fun m h=>JM w_ h) ?_;refine S.xA (G:=eH cS) (k' :=7) rfl ai ai ai ?_;rw [eO];simp only [List.length_singleton];have hcs:ak.length+1=(gW x.2.2.2.1 i (k+1)).length:=by rw [← eO,List.length_append,← dY];rfl
    rw [hcs];refine S.region rfl<|O.op (.p rfl) (.add rfl rfl (IntWalk.i64_in _ ah))<|O.q 1 rfl<|O.nil ?_;exact S.pw (ih (k+1) ((Lb,L1)) ah ah)
   ·clear ih
    have hk:k=x.2.2.2.1[i].2.1.length:=by omega
    subst hk;rw [TC hi];refine S.exit rfl<|S.inBlock<|S.region rfl<|O.op (.p rfl) (.add rfl rfl (IntWalk.i64_in _ ah))<|O.q 1 rfl<|O.nil ?_;exact S.iR bl (S.pw (ih (i+1) (o) ah ah))
  ·clear ih
   have hi:i=x.2.2.2.1.length:=by omega
   subst hi;rw [Tz];refine S.exit rfl<|S.seq<|S.region rfl<|O.q 5 rfl<|O.nil<|S.EI results54 rfl rfl rfl fun w hw=>Holds.end_ hR hw ?_;exact pk ⟨u.1,u.2,y.1,y.2,rfl,rfl⟩
theorem SQ {d:Fr} {aS s:Nat} {L:List aH} {peer:Int} {bM:Bool} (F:List UInt8→List UInt8) {m:Fr} (h:Sat [fq d aS s L peer bM] m):bN aJ 89 d aS s L peer bM [] F 0 m:=by
 obtain ⟨m1,_,_,s1,_,⟨bz,mp,hs0⟩,_⟩:=h;have hs:=Sat.mono s1 hs0;exact ⟨⟨Fr.emp,bz,mp,[],0,gB.nil,rfl,fun p v q=>by cases q⟩,Fr.emp,m,Fr.dW _,Fr.c4 _,Fr.bW _,rfl,hs⟩
theorem T' {r d:Fr} {aS s n:Nat} {L:List aH} {W:List (List UInt8)} {F:List UInt8→List UInt8} {cs:List Value} {x:iV} {mF:Value} {xs:List UInt8} (hT:gH r d s L) (hs4:s<4) (h:gq.rel r cs x) (hok:nD x=true) (h2:x.2.1=(s:Int)) (hn:aj ag.u8 r mF xs) (ig:xs.length=64) (h3:x.2.2.2.1=dw (s:Int) xs) (hF:F []=xs) (hw:[] ∉ W) (hnn:n≤100000000) :
  ay prog 53 #[.pointer (some ⟨aS,0,none⟩),.agg cs.toArray,mF] r [bN aJ 89 d aS s L x.1 false W F n] (aM fun u U=>∃ a c,u=.tuple #[.slice a (dh L F [[]]).length c,.int .i64 0]∧U=[bN aJ 89 d aS s L x.1 true (W++dh L F [[]]) F (n+(dh L F [[]]).length),av ag.str 9 (.slice a (dh L F [[]]).length c) (dh L F [[]])]):=by
 have hpos:0<x.1:=by have:=(xV.1 (xT.1 hok).1).1;omega
 have ht:(dw (s:Int) xs).length=64:=by unfold dw;rw [if_pos ⟨by omega,by omega,ig⟩,o9]
 obtain ⟨a5,dM,rfl⟩:=hn.shape;obtain ⟨fE,pq,fF,py,rfl,k0,k1,k2,aR,pP⟩:=gq.sh h;refine ay.of (n:=54) _ rfl func53 rfl rfl rfl fun g hg R hR=>?_;have hT:=hT.mono hg;have h:=h.mono hg;have hn:=hn.mono hg;have aR:=aR.mono hg;refine S.open (bs:=fun z:iU W F=>eE aJ 89 d z.k aS z.bz z.mp s L x.1 false n z.M z.c) .here (fun m h=>bN.gy h) fun z=>?_;simp only [eE,List.cons_append,List.nil_append];refine S.seq<|S.region rfl<|O.aO (.p rfl) (.box (cs:=[_,_,_,_,_]) rfl rfl) ?_;rintro _ _ ⟨b4,rfl,rfl⟩;refine O.q 2 rfl<|O.nil<|S.seq<|S.block<|S.seq<|S.eC (A:=obj b4 81 [.int .i64 x.1,.int .i64 x.2.1,.int .i64 x.2.2.1,.slice fE x.2.2.2.1.length fF,.slice pq x.2.2.2.2.1.length py]) ai fun g hs hm ⟨_,x',s'⟩=>?_;have h4:=(fun s x=>(fK x).mono s) s' x';clear x' s';replace hg:=Fr.aI hg hs;replace hR:=bt hR hm
 try replace hT:=hT.mono hs
 try replace h:=h.mono hs
 try replace hn:=hn.mono hs
 try replace aR:=aR.mono hs
 clear hs hm;refine S.region rfl<|O.q 1 rfl<|O.bD (.p rfl) rfl aa rfl rfl ai (nE hpos) ?_;rintro _ _ ⟨rfl,rfl⟩
 try simp only [an,aq,au]
 refine O.sT 10 rfl aG ?_;refine O.op (.p rfl) (.not rfl)<|O.q 1 rfl<|O.nil<|S.aP rfl<|S.seq<|S.region rfl<|O.q 1 rfl<|O.op (.p rfl) (.nilCheck rfl)<|O.op (.p rfl) (.aF oI rfl)<|O.op (.p rfl) (.lo ic) ?_;refine O.aL 16 rfl aG ?_;refine O.q 1 rfl<|O.nil<|S.aP rfl<|S.seq<|S.seq<|S.region rfl<|O.op (.p rfl) (.bI isAgg81 aa rfl h4) ?_;refine O.aC (.p rfl) rfl aa rfl rfl ((AE h)) ?_;rintro _ _ ⟨rfl,rfl⟩
 try simp only [an,aq,au]
 refine O.sT 19 rfl (by exact hok) ?_;refine O.op (.p rfl) (.not rfl)<|O.q 1 rfl<|O.nil<|S.aP rfl<|S.seq<|S.bB (L:=[0,1,2,3,4,5,6,7]) bx aa ?_;refine .quiet (.p rfl) rfl (fun _=>.fieldAddr uG rfl)<|.quiet (.p rfl) rfl (fun _=>.loadAt cv rfl h4 rfl) ?_;refine af.q 1 rfl<|.quiet (.p rfl) rfl (fun _=>.nilCheck rfl)<|.quiet (.p rfl) rfl (fun _=>.aF wq rfl)<|af.cr (.p rfl) aa (fun _=>.cK cv aG ai aG) ?_;refine .quiet (.p rfl) rfl (fun _=>.neq rfl rfl)<|af.aL 27 rfl (by exact decide_eq_false (fun q=>q rfl)) ?_;refine af.q 1 rfl<|aK.nil<|S.aP rfl<|S.bB (L:=[0,1,2,3,4,5,6,7,8,9]) bx aa ?_;refine .quiet (.p rfl) rfl (fun _=>.fieldAddr rA rfl)<|.quiet (.p rfl) rfl (fun _=>.loadAt cv rfl (h4.drop 1) rfl) ?_;refine af.q 1 rfl<|.quiet (.p rfl) rfl (fun _=>.nilCheck rfl)<|.quiet (.p rfl) rfl (fun _=>.aF sP rfl)<|.quiet (.p rfl) rfl (fun _=>.aF uI rfl)<|af.cr (.p rfl) aa (fun _=>.cK nQ aG ai aG) ?_;refine af.cU (.p rfl) aa rfl aa rfl rfl (bs:=[bp aJ d z.bz s L]) aV (fun m hm hd=>x3 (bp.jF hT.hd hd hm)) ?_;rintro _ _ ⟨rfl,rfl⟩
 try simp only [an,aq,au]
 refine .quiet (.p rfl) rfl (fun _=>.neq rfl rfl)<|af.aL 36 rfl (by exact decide_eq_false ah) ?_;refine af.q 1 rfl<|aK.nil<|S.aP rfl<|S.seq<|S.bB (L:=[0,1,2,4,5,3,6,7,8]) bx aa<|.quiet (.p rfl) rfl (fun _=>.fieldAddr rA rfl)<|.quiet (.p rfl) rfl (fun _=>.loadAt cv rfl (h4.drop 1) rfl) ?_;refine af.q 1 rfl<|.quiet (.p rfl) rfl (fun _=>.fieldAddr uH rfl)<|.quiet (.p rfl) rfl (fun _=>.loadAt bg rfl (h4.drop 3) rfl) ?_;refine af.aC (.p rfl) aa rfl aa rfl rfl ((tW hn k1 hT.hH hT.hK ah)) ?_;rintro _ _ ⟨a41,sF,rfl,rfl⟩
 try simp only [an,aq,au]
 refine af.cU (.p rfl) aa rfl aa rfl rfl (bs:=[av ag.u8 5 (.slice a41 (dw x.2.1 xs).length sF) (dw x.2.1 xs)]) aV (fun m hm hd=>nK ((Sat.arr hm).mono (Fr.dA hd)) (aR.mono (Fr.cw _ _))) ?_;rintro _ _ ⟨rfl,rfl⟩
 try simp only [an,aq,au]
 refine af.sT 44 rfl (by exact decide_eq_true (by rw [h3,h2])) ?_;refine .quiet (.p rfl) rfl (fun _=>.not rfl)<|af.q 1 rfl<|aK.nil<|S.aP rfl<|S.skip<|S.inBlock<|S.seq<|S.region rfl<|O.q 1 rfl<|O.op (.p rfl) (.nilCheck rfl)<|O.op (.p rfl) (.aF oI rfl)<|O.bw rfl (.bk ic rfl rfl bn ai aT) ?_;refine O.nil<|S.seq<|S.cg (A:=bN aJ 89 d aS s L x.1 true W F n) (bs:=eE aJ 89 d z.k aS z.bz z.mp s L x.1 true n z.M z.c) aV (fun m h=>bN.fold z h) ?_;refine S.region rfl<|O.q 2 rfl<|O.aO (.p rfl) (.cn (T:=ag.cells 1) (ys:=[[.slice a5 xs.length dM]]) underlying109 gr zE rfl rfl ⟨⟨rfl,rfl,by first|(simp;done)|(intro v hv;simp [Value.cells] at hv;rcases hv with rfl|rfl<;>rfl)|(refine List.forall_mem_cons.2 ⟨rfl,?_⟩;repeat (first|exact (fun _ h=>absurd h List.not_mem_nil)|refine List.forall_mem_cons.2 ⟨rfl,?_⟩))⟩,trivial⟩ zE) ?_;rintro _ _ ⟨a51,yy,rfl,rfl⟩;refine O.fB ai fun g hs hm nq=>?_;replace hg:=Fr.aI hg hs;replace hR:=bt hR hm
 try replace hT:=hT.mono hs
 try replace h:=h.mono hs
 try replace hn:=hn.mono hs
 try replace aR:=aR.mono hs
 try replace h4:=h4.mono hs
 clear hs hm;refine O.aO (.p rfl) (.cn (T:=ag.str) (ys:=[[]]) underlying53 iG zE rfl rfl ⟨⟨rfl,by decide⟩,trivial⟩ zE) ?_;rintro _ _ ⟨kg,ki,rfl,rfl⟩;refine O.fB ai fun g hs hm qq=>?_;replace hg:=Fr.aI hg hs;replace hR:=bt hR hm
 try replace hT:=hT.mono hs
 try replace h:=h.mono hs
 try replace hn:=hn.mono hs
 try replace aR:=aR.mono hs
 try replace h4:=h4.mono hs
 try replace nq:=nq.mono hs
 clear hs hm;refine O.bD (.p rfl) rfl aa rfl rfl ai (J1 hT (aj.j4 (T:=ag.slice ag.u8) (xs:=[xs]) nq (⟨⟨_,rfl,hn⟩,trivial⟩) rfl) qq (by rw [List.map_cons,hF];rfl) bq bX bq (by simpa using hw) bq ah) ?_;rintro _ _ ⟨a53,uA,rfl,rfl⟩
 try simp only [an,aq,au]
 refine O.q 2 rfl<|O.nil<|S.lg results53 rfl rfl fun w hw=>Holds.end_ hR hw ?_;exact pk ⟨a53,uA,rfl,rfl⟩
theorem T9 {r d:Fr} {aS s n:Nat} {L:List aH} {W:List (List UInt8)} {F:List UInt8→List UInt8} {cs:List Value} {x:iV} {mF:Value} {xs:List UInt8} (hT:gH r d s L) (hs4:s<4) (h:gq.rel r cs x) (hok:nD x=true) (h2:x.2.1=(s:Int)) (hn:aj ag.u8 r mF xs) (hl:xs.length≤1000000) (h3:dw (s:Int) xs≠x.2.2.2.1) :
  ay prog 53 #[.pointer (some ⟨aS,0,none⟩),.agg cs.toArray,mF] r [bN aJ 89 d aS s L x.1 false W F n] (aM fun u U=>u=.tuple #[.slice none 0 0,.int .i64 23]∧U=[bN aJ 89 d aS s L x.1 false W F n]):=by
 have hpos:0<x.1:=by have:=(xV.1 (xT.1 hok).1).1;omega
 obtain ⟨a5,dM,rfl⟩:=hn.shape;obtain ⟨fE,pq,fF,py,rfl,k0,k1,k2,aR,pP⟩:=gq.sh h;refine ay.of (n:=54) _ rfl func53 rfl rfl rfl fun g hg R hR=>?_;have hT:=hT.mono hg;have h:=h.mono hg;have hn:=hn.mono hg;have aR:=aR.mono hg;refine S.open (bs:=fun z:iU W F=>eE aJ 89 d z.k aS z.bz z.mp s L x.1 false n z.M z.c) .here (fun m h=>bN.gy h) fun z=>?_;simp only [eE,List.cons_append,List.nil_append];refine S.seq<|S.region rfl<|O.aO (.p rfl) (.box (cs:=[_,_,_,_,_]) rfl rfl) ?_;rintro _ _ ⟨b4,rfl,rfl⟩;refine O.q 2 rfl<|O.nil<|S.seq<|S.block<|S.seq<|S.eC (A:=obj b4 81 [.int .i64 x.1,.int .i64 x.2.1,.int .i64 x.2.2.1,.slice fE x.2.2.2.1.length fF,.slice pq x.2.2.2.2.1.length py]) ai fun g hs hm ⟨_,x',s'⟩=>?_;have h4:=(fun s x=>(fK x).mono s) s' x';clear x' s';replace hg:=Fr.aI hg hs;replace hR:=bt hR hm
 try replace hT:=hT.mono hs
 try replace h:=h.mono hs
 try replace hn:=hn.mono hs
 try replace aR:=aR.mono hs
 clear hs hm;refine S.region rfl<|O.q 1 rfl<|O.bD (.p rfl) rfl aa rfl rfl ai (nE hpos) ?_;rintro _ _ ⟨rfl,rfl⟩
 try simp only [an,aq,au]
 refine O.sT 10 rfl aG ?_;refine O.op (.p rfl) (.not rfl)<|O.q 1 rfl<|O.nil<|S.aP rfl<|S.seq<|S.region rfl<|O.q 1 rfl<|O.op (.p rfl) (.nilCheck rfl)<|O.op (.p rfl) (.aF oI rfl)<|O.op (.p rfl) (.lo ic) ?_;refine O.aL 16 rfl aG ?_;refine O.q 1 rfl<|O.nil<|S.aP rfl<|S.seq<|S.seq<|S.region rfl<|O.op (.p rfl) (.bI isAgg81 aa rfl h4) ?_;refine O.aC (.p rfl) rfl aa rfl rfl ((AE h)) ?_;rintro _ _ ⟨rfl,rfl⟩
 try simp only [an,aq,au]
 refine O.sT 19 rfl (by exact hok) ?_;refine O.op (.p rfl) (.not rfl)<|O.q 1 rfl<|O.nil<|S.aP rfl<|S.seq<|S.bB (L:=[0,1,2,3,4,5,6,7]) bx aa ?_;refine .quiet (.p rfl) rfl (fun _=>.fieldAddr uG rfl)<|.quiet (.p rfl) rfl (fun _=>.loadAt cv rfl h4 rfl) ?_;refine af.q 1 rfl<|.quiet (.p rfl) rfl (fun _=>.nilCheck rfl)<|.quiet (.p rfl) rfl (fun _=>.aF wq rfl)<|af.cr (.p rfl) aa (fun _=>.cK cv aG ai aG) ?_;refine .quiet (.p rfl) rfl (fun _=>.neq rfl rfl)<|af.aL 27 rfl (by exact decide_eq_false (fun q=>q rfl)) ?_;refine af.q 1 rfl<|aK.nil<|S.aP rfl<|S.bB (L:=[0,1,2,3,4,5,6,7,8,9]) bx aa ?_;refine .quiet (.p rfl) rfl (fun _=>.fieldAddr rA rfl)<|.quiet (.p rfl) rfl (fun _=>.loadAt cv rfl (h4.drop 1) rfl) ?_;refine af.q 1 rfl<|.quiet (.p rfl) rfl (fun _=>.nilCheck rfl)<|.quiet (.p rfl) rfl (fun _=>.aF sP rfl)<|.quiet (.p rfl) rfl (fun _=>.aF uI rfl)<|af.cr (.p rfl) aa (fun _=>.cK nQ aG ai aG) ?_;refine af.cU (.p rfl) aa rfl aa rfl rfl (bs:=[bp aJ d z.bz s L]) aV (fun m hm hd=>x3 (bp.jF hT.hd hd hm)) ?_;rintro _ _ ⟨rfl,rfl⟩
 try simp only [an,aq,au]
 refine .quiet (.p rfl) rfl (fun _=>.neq rfl rfl)<|af.aL 36 rfl (by exact decide_eq_false ah) ?_;refine af.q 1 rfl<|aK.nil<|S.aP rfl<|S.seq<|S.bB (L:=[0,1,2,4,5,3,6,7,8]) bx aa<|.quiet (.p rfl) rfl (fun _=>.fieldAddr rA rfl)<|.quiet (.p rfl) rfl (fun _=>.loadAt cv rfl (h4.drop 1) rfl) ?_;refine af.q 1 rfl<|.quiet (.p rfl) rfl (fun _=>.fieldAddr uH rfl)<|.quiet (.p rfl) rfl (fun _=>.loadAt bg rfl (h4.drop 3) rfl) ?_;refine af.aC (.p rfl) aa rfl aa rfl rfl ((tW hn k1 hT.hH hT.hK ah)) ?_;rintro _ _ ⟨a41,sF,rfl,rfl⟩
 try simp only [an,aq,au]
 refine af.cU (.p rfl) aa rfl aa rfl rfl (bs:=[av ag.u8 5 (.slice a41 (dw x.2.1 xs).length sF) (dw x.2.1 xs)]) aV (fun m hm hd=>nK ((Sat.arr hm).mono (Fr.dA hd)) (aR.mono (Fr.cw _ _))) ?_;rintro _ _ ⟨rfl,rfl⟩
 try simp only [an,aq,au]
 refine af.aL 44 rfl (by exact decide_eq_false (by rw [h2];exact h3)) ?_;refine .quiet (.p rfl) rfl (fun _=>.not rfl)<|af.q 1 rfl<|aK.nil<|S.bC rfl<|S.seq<|S.region rfl<|O.q 2 rfl<|O.nil<|S.cg (A:=bN aJ 89 d aS s L x.1 false W F n) (bs:=eE aJ 89 d z.k aS z.bz z.mp s L x.1 false n z.M z.c) aV (fun m h=>bN.fold z h) ?_;refine S.lg results53 rfl rfl fun w hw=>Holds.end_ hR hw ?_;exact pk ⟨rfl,rfl⟩
theorem T8 {r d:Fr} {aS s n:Nat} {L:List aH} {W:List (List UInt8)} {F:List UInt8→List UInt8} {peer:Int} {cs:List Value} {x:iV} {mF:Value} (h:gq.rel r cs x) (hpos:0<peer) (C_:∃ a n c,mF=.slice a n c) :
  ay prog 53 #[.pointer (some ⟨aS,0,none⟩),.agg cs.toArray,mF] r [bN aJ 89 d aS s L peer true W F n] (aM fun u U=>u=.tuple #[.slice none 0 0,.int .i64 27]∧U=[bN aJ 89 d aS s L peer true W F n]):=by
 obtain ⟨a5,n5,dM,rfl⟩:=C_;obtain ⟨fE,pq,fF,py,rfl,k0,k1,k2,aR,pP⟩:=gq.sh h;refine ay.of (n:=54) _ rfl func53 rfl rfl rfl fun g hg R hR=>?_;refine S.open (bs:=fun z:iU W F=>eE aJ 89 d z.k aS z.bz z.mp s L peer true n z.M z.c) .here (fun m h=>bN.gy h) fun z=>?_;simp only [eE,List.cons_append,List.nil_append];refine S.seq<|S.region rfl<|O.aO (.p rfl) (.box (cs:=[_,_,_,_,_]) rfl rfl) ?_;rintro _ _ ⟨b4,rfl,rfl⟩;refine O.q 2 rfl<|O.nil<|S.seq<|S.block<|S.seq<|S.region rfl<|O.q 1 rfl<|O.bD (.p rfl) rfl aa rfl rfl ai (nE hpos) ?_;rintro _ _ ⟨rfl,rfl⟩
 try simp only [an,aq,au]
 refine O.sT 10 rfl aG ?_;refine O.op (.p rfl) (.not rfl)<|O.q 1 rfl<|O.nil<|S.aP rfl<|S.seq<|S.region rfl<|O.q 1 rfl<|O.op (.p rfl) (.nilCheck rfl)<|O.op (.p rfl) (.aF oI rfl)<|O.op (.p rfl) (.lo ic) ?_;refine O.sT 16 rfl aG ?_;refine O.q 1 rfl<|O.nil<|S.bC rfl<|S.seq<|S.region rfl<|O.q 2 rfl<|O.nil<|S.cg (A:=bN aJ 89 d aS s L peer true W F n) (bs:=eE aJ 89 d z.k aS z.bz z.mp s L peer true n z.M z.c) aV (fun m h=>bN.fold z h) ?_;refine S.lg results53 rfl rfl fun w hw=>Holds.end_ hR hw ?_;exact pk ⟨rfl,rfl⟩
theorem EN {r d:Fr} {aS s n:Nat} {L:List aH} {peer:Int} {bM:Bool} {W:List (List UInt8)} {F:List UInt8→List UInt8} (hp:0<peer):ay prog 55 #[.pointer (some ⟨aS,0,none⟩)] r [bN aJ 89 d aS s L peer bM W F n] (aM fun v U=>v=.bool (bM && decide (W.length=0))∧U=[bN aJ 89 d aS s L peer bM W F n]):=by
 refine ay.of (n:=20) _ rfl func55 rfl rfl rfl fun g hg R hR=>?_;refine S.open (bs:=fun z:iU W F=>eE aJ 89 d z.k aS z.bz z.mp s L peer bM n z.M z.c) .here (fun m h=>bN.gy h) fun z=>?_;simp only [eE,List.cons_append,List.nil_append];have hl:=z.len
 cases bM with
 |false =>
  refine S.seq<|S.region rfl<|O.q 1 rfl<|O.nil<|S.seq<|S.region rfl<|O.q 1 rfl<|O.bD (.p rfl) rfl aa rfl rfl ai (nE hp) ?_;rintro _ _ ⟨rfl,rfl⟩
  try simp only [an,aq,au]
  refine O.sT 4 rfl aG ?_;refine O.q 2 rfl<|O.op (.g rfl rfl) (.nilCheck rfl)<|O.op (.g rfl rfl) (.aF oI rfl)<|O.op (.g rfl rfl) (.lo ic) ?_;refine O.aL 9 rfl aG ?_;refine O.q 11 rfl<|O.nil<|S.cg (A:=bN aJ 89 d aS s L peer false W F n) (bs:=eE aJ 89 d z.k aS z.bz z.mp s L peer false n z.M z.c) aV (fun m h=>bN.fold z h) ?_;exact S.rt results55 rfl hR ⟨rfl,rfl⟩
 |true =>
  refine S.seq<|S.region rfl<|O.q 1 rfl<|O.nil<|S.seq<|S.region rfl<|O.q 1 rfl<|O.bD (.p rfl) rfl aa rfl rfl ai (nE hp) ?_;rintro _ _ ⟨rfl,rfl⟩
  try simp only [an,aq,au]
  refine O.sT 4 rfl aG ?_;refine O.q 2 rfl<|O.op (.g rfl rfl) (.nilCheck rfl)<|O.op (.g rfl rfl) (.aF oI rfl)<|O.op (.g rfl rfl) (.lo ic) ?_;refine O.sT 9 rfl aG ?_;refine O.q 3 rfl<|O.op (.g rfl rfl) (.nilCheck rfl)<|O.op (.g rfl rfl) (.aF oH rfl)<|O.op (.g rfl rfl) (.aF sO rfl)<|O.op (.g rfl rfl) (.lo kK) ?_;refine O.op (.g rfl rfl) (.IP (l:=z.M) underlying75 rfl ai) ?_;refine O.slot 17 (v' :=.int .i64 (W.length:Int)) rfl (by rw [hl]) ?_;refine O.op (.g rfl rfl) (.eql rfl rfl)<|O.q 2 rfl<|O.nil<|S.cg (A:=bN aJ 89 d aS s L peer true W F n) (bs:=eE aJ 89 d z.k aS z.bz z.mp s L peer true n z.M z.c) aV (fun m h=>bN.fold z h) ?_;exact S.rt results55 rfl hR ⟨congrArg Value.bool (by rw [Bool.true_and,Bool.eq_iff_iff,decide_eq_true_iff,decide_eq_true_iff];omega),rfl⟩
theorem Av {r d:Fr} {aS s n:Nat} {L:List aH} {peer:Int} {bM:Bool} {W:List (List UInt8)} {F:List UInt8→List UInt8} (hp:0<peer):ay prog 56 #[.pointer (some ⟨aS,0,none⟩)] r [bN aJ 89 d aS s L peer bM W F n] (aM fun v U=>v=.int .i64 (n:Int)∧U=[bN aJ 89 d aS s L peer bM W F n]):=by
 refine ay.of (n:=11) _ rfl func56 rfl rfl rfl fun g hg R hR=>?_;refine S.open (bs:=fun z:iU W F=>eE aJ 89 d z.k aS z.bz z.mp s L peer bM n z.M z.c) .here (fun m h=>bN.gy h) fun z=>?_;simp only [eE,List.cons_append,List.nil_append];refine S.seq<|S.region rfl<|O.q 1 rfl<|O.nil<|S.seq<|S.seq<|S.region rfl<|O.q 1 rfl<|O.bD (.p rfl) rfl aa rfl rfl ai (nE hp) ?_;rintro _ _ ⟨rfl,rfl⟩
 try simp only [an,aq,au]
 refine O.sT 4 rfl aG ?_;refine O.op (.p rfl) (.not rfl)<|O.nil<|S.aP rfl<|S.skip<|S.seq<|S.region rfl<|O.q 1 rfl<|O.op (.p rfl) (.nilCheck rfl)<|O.op (.p rfl) (.aF oH rfl)<|O.op (.p rfl) (.aF y2 rfl)<|O.op (.p rfl) (.lo cv) ?_;refine O.q 1 rfl<|O.nil<|S.cg (A:=bN aJ 89 d aS s L peer bM W F n) (bs:=eE aJ 89 d z.k aS z.bz z.mp s L peer bM n z.M z.c) aV (fun m h=>bN.fold z h) ?_;exact S.rt results56 rfl hR ⟨rfl,rfl⟩
end Go.Proofs.YtojafegjlahajaaGreatDoor
