/- Texts of this proof. -/
import Derived.Test.YtojafegjlahajaaGreatDoorQSes6
open Go Go.Sp Go.Proofs.Tryz
set_option maxRecDepth 100000
set_option maxHeartbeats 1000000
attribute [local irreducible] obj Own av
namespace Go.Proofs.YtojafegjlahajaaGreatDoor
attribute [local irreducible] bw bZ
noncomputable def gw (L:List aG) (F:List UInt8→List UInt8) (p:List UInt8) (x:dJ):List (List UInt8):=if x.1=3 then dh L F [p++[48],p++[49]] else []
theorem BP (L:List aG) (F:List UInt8→List UInt8) (p:List UInt8) (x:dJ):(gw L F p x).length≤2:=by
 unfold gw;split
 ·exact GA L F _
 ·exact Nat.zero_le _
def ig (l:List aG) (i k:Nat):List aP:=((l.take i).map (·.2.1)).flatten++(((l.drop i).head?.map (·.2.1)).getD []).take k
def oD (x:dJ):List aP:=(x.2.2.2.1.map (·.2.1)).flatten
theorem Kw (l:List aG):ig l 0 0=[]:=by simp [ig]
theorem Fs {l:List aG} {i:Nat} (h:i<l.length) (k:Nat):ig l i k=((l.take i).map (·.2.1)).flatten++l[i].2.1.take k:=by
 unfold ig;rw [List.drop_eq_getElem_cons h];rfl
theorem Vh {l:List aG} {i k:Nat} (h:i<l.length) (hk:k<l[i].2.1.length):ig l i k++[l[i].2.1[k]]=ig l i (k+1):=by
 rw [Fs h,Fs h,List.append_assoc,List.take_succ_eq_append_getElem hk]
theorem Kx (l:List aG) (i:Nat):ig l i 0=((l.take i).map (·.2.1)).flatten:=by unfold ig;rw [List.take_zero,List.append_nil]
theorem Vj {l:List aG} {i:Nat} (h:i<l.length):ig l i l[i].2.1.length=ig l (i+1) 0:=by
 rw [Fs h,Kx,List.take_length,List.take_succ_eq_append_getElem h,List.map_append,List.flatten_append];simp
theorem Vg (x:dJ):ig x.2.2.2.1 x.2.2.2.1.length 0=oD x:=by rw [Kx,List.take_length];rfl
theorem EE {N M:Nat}:∀ (l:List aG),(∀ y∈l,y.2.1.length≤M)→l.length≤N→((l.map (·.2.1)).flatten).length≤N*M
 |[],_,_=>Nat.zero_le _
 |y::l,h,hl=>by
  rw [List.map_cons,List.flatten_cons,List.length_append];rw [List.length_cons] at hl;obtain ⟨N,rfl⟩:∃ k,N=k+1:=⟨N - 1,by omega⟩;have h1:=EE (N:=N) l (fun z hz=>h z (by simp [hz])) ah;have h2:=h y bI;rw [Nat.succ_mul];omega
theorem Vi {l:List aG} {i k:Nat} (hl:l.length≤100000) (hs:∀ y∈l,y.2.1.length≤100000):(ig l i k).length≤20000000000:=by
 unfold ig;rw [List.length_append,List.length_take];have h1:=EE (N:=100000) (M:=100000) (l.take i) (fun z hz=>hs z (List.mem_of_mem_take hz)) (by rw [List.length_take];omega);have h2:(((l.drop i).head?.map (·.2.1)).getD []).length≤100000:=by
  cases e:(l.drop i).head? with
  |none=>exact Nat.zero_le _
  |some y=>exact hs y (List.mem_of_mem_drop (List.mem_of_head? e))
 omega
theorem Lr (p:List UInt8):[p++[48],p++[49]].Nodup:=by
 rw [List.nodup_cons];refine ⟨fun h=>?_,by simp⟩;rw [List.mem_singleton] at h;exact absurd (List.append_cancel_left h) aC
theorem Lq {p q:List UInt8} (h:q∈[p++[48],p++[49]]):q=p++[48]∨q=p++[49]:=by simpa using h
theorem O1 {x:dJ} (h:gE x) (h3:x.1=3):x.2.1.length=64∧x.2.2.1.length=64:=by
 rcases h.2 with q|q|q|q
 ·rw [q.1] at h3;exact absurd h3 aC
 ·rw [q.1] at h3;exact absurd h3 aC
 ·exact ⟨q.2.1,q.2.2.1⟩
 ·rw [q.1] at h3;exact absurd h3 aC
theorem Vd {v:aP} (h:ee v=true):v.2.2.2.1.length≤8∧v.2.2.2.2.2.1.length≤1024∧v.2.2.2.2.2.2.1.length=64:=by
 have h1:=yz.1 (vW.1 h).1;exact ⟨yp h1.2.2.2.1,h1.2.2.2.2.2.1,(vW.1 h).2⟩
theorem Ui {d:Fr} {bh s n:Nat} {L:List aG} {peer:Int} {cm:Bool} {W:List (List UInt8)} {F F' :List UInt8→List UInt8} {p:List UInt8} {m:Fr} (z:lQ W F) (C':∀ q∈W,F q=F' q)
  (h:Sat (jV aJ 89 d z.k bh z.bH z.mp s L peer cm n (gX z.M p) z.c) m):cN aJ 89 d bh s L peer cm (W.erase p) F' n m :=
 cN.M1 (fun q hq=>C' q (List.mem_of_mem_erase hq)) (cN.del z h)
set_option maxHeartbeats 800000 in
theorem KL {r d:Fr} {bh s n:Nat} {L:List aG} {peer:Int} {cm:Bool} {W:List (List UInt8)} {F F' :List UInt8→List UInt8} {p:List UInt8} {cs:List Value} {x:dJ} (hT:gK r d s L) (hpos:0<peer) (h:gv.rel r cs x) (hp:p∈W) (hF:(F p).length=64) (hx2:x.2.2.2.1.length≤100000∧∀ y∈x.2.2.2.1,y.2.1.length≤100000) (mO:p.length≤1000) (oo:p5 s p (F p) x) (hn:n≤200000)
  (C':∀ q∈W,F q=F' q) (zI:x.1=3→F' (p++[48])=x.2.1∧F' (p++[49])=x.2.2.1∧p++[48] ∉ W∧p++[49] ∉ W) :
  ay prog 54 #[.pointer (some ⟨bh,0,none⟩),.string (str p),.agg cs.toArray] r [cN aJ 89 d bh s L peer cm W F n] (aL fun v U=>∃ a c a' c',v=.tuple #[.slice a (oD x).length c,.slice a' (gw L F' p x).length c',.int .i64 0] ∧
   U=[cN aJ 89 d bh s L peer cm (W.erase p++gw L F' p x) F' (n+(gw L F' p x).length),cH (ef cD) 102 (.slice a (oD x).length c) (oD x),av ag.str 9 (.slice a' (gw L F' p x).length c') (gw L F' p x)]):=by
 have h0:=h;obtain ⟨sH,uA,gI,sJ,uB,gJ,rfl,k1,k2,bg⟩:=gv.sh h;have hok:=oo.1;have h12:=Au hok;have QX :x.2.2.2.1.length≤10000000∧∀ y∈x.2.2.2.1,y.2.1.length≤10000000:=⟨by omega,fun y hy=>by have:=hx2.2 y hy;omega⟩;have h2:=BP L F' p x;have hps:(str p).size=p.length:=uu p;have Zq:(⟨#[48]⟩:ByteArray).size=1:=rfl;have Zr:(⟨#[49]⟩:ByteArray).size=1:=rfl;refine ay.of (n:=104) _ rfl func54 rfl rfl rfl fun g hg R hR=>?_;have hT:=hT.mono hg;have h0:=h0.mono hg;have k1:=k1.mono hg;have k2:=k2.mono hg;have bg:=bg.mono hg;refine S.open (bs:=fun z:lQ W F=>jV aJ 89 d z.k bh z.bH z.mp s L peer cm n z.M z.c) .here (fun m h=>cN.jq h) fun z=>?_;simp only [jV,List.cons_append,List.nil_append];obtain ⟨pv,e⟩:=z.has.1 hp;have hv:=z.ok p pv e;obtain ⟨pa,pc,rfl⟩:=hv.shape;rw [hF] at e hv;refine S.seq<|S.region rfl<|O.aM (.p rfl) (.box (cs:=[_,_,_,_]) rfl rfl) ?_;rintro _ _ ⟨gU,rfl,rfl⟩;refine O.q 3 rfl<|O.nil<|S.seq<|S.seq<|S.c7 (b:=gU) (cs' :=[bD x.1,.slice sH x.2.1.length sJ,.slice uA x.2.2.1.length uB,.slice gI x.2.2.2.1.length gJ]) ai rfl ?_;refine S.cW ai fun g hs hm h5=>?_;replace hg:=Fr.aH hg hs;replace hR:=bp hR hm
 try replace hT:=hT.mono hs
 try replace h0:=h0.mono hs
 try replace k1:=k1.mono hs
 try replace k2:=k2.mono hs
 try replace bg:=bg.mono hs
 clear hs hm;refine S.region rfl<|O.q 1 rfl<|O.bM (.p rfl) rfl aa rfl rfl ai (uj hpos) ?_;rintro _ _ ⟨rfl,rfl⟩
 try simp only [an,aq,au]
 refine O.sT 16 rfl aK ?_;refine O.op (.p rfl) (.not rfl)<|O.nil<|S.aQ rfl<|S.skip<|S.seq<|S.region rfl<|O.q 1 rfl<|O.op (.p rfl) (.nilCheck rfl)<|O.op (.p rfl) (.aD rO rfl)<|O.op (.p rfl) (.aD w6 rfl)<|O.op (.p rfl) (.lo lW) ?_;refine O.q 1 rfl<|O.op (.p rfl) (.ow underlying75 (qa underlying9) zeroValue24 rfl rfl ai) ?_;refine O.slot 25 (v' :=.tuple #[.slice pa 64 pc,.bool true]) rfl (by rw [e];rfl) ?_;refine O.q 3 rfl<|O.sT 27 rfl aK ?_;refine O.q 2 rfl<|O.nil<|S.seq<|S.block<|S.seq<|S.region rfl<|O.q 1 rfl<|O.op (.p rfl) (.not rfl)<|O.q 1 rfl<|O.nil<|S.aQ rfl<|S.seq<|S.region rfl<|O.q 3 rfl<|O.op (.p rfl) (.bz isAgg27 aa rfl h5) ?_;refine O.dw (.p rfl) rfl aa rfl rfl (bs:=[jK z.k,obj bh 89 [.pointer (some ⟨z.bH,0,none⟩),.map (some z.mp),.int .i64 (n:Int),.int .i64 peer,.bool cm],bl aJ d z.bH s L]) bf (fun m hm hd=>KK (vU hT.hd hd hm).2.1 (vU hT.hd hd hm).2.2 (hv.mono (vU hT.hd hd hm).1) (ag.rel.mono h0 (Fr.de _ _)) h12 QX hF (hT.hH.mono (Fr.de _ _)) (hT.hK.mono (Fr.de _ _)) ah) ?_;rintro _ _ ⟨rfl,rfl⟩
 try simp only [an,aq,au]
 refine O.sT 36 rfl (by exact decide_eq_true oo) ?_;refine O.op (.p rfl) (.not rfl)<|O.q 1 rfl<|O.nil<|S.aQ rfl<|S.skip<|S.inBlock<|S.seq<|S.region rfl<|O.q 1 rfl<|O.op (.p rfl) (.nilCheck rfl)<|O.op (.p rfl) (.aD rO rfl)<|O.op (.p rfl) (.aD w6 rfl)<|O.op (.p rfl) (.lo lW) ?_;refine O.q 1 rfl<|O.Hr rfl underlying75 (qa underlying9) rfl rfl ai ?_;refine O.nil<|S.seq<|S.seq<|S.cB (A:=cN aJ 89 d bh s L peer cm (W.erase p) F' n) (bs:=jV aJ 89 d z.k bh z.bH z.mp s L peer cm n (gX z.M p) z.c) bf (fun m h=>Ui z C' h) ?_;refine S.zc (fun (y:Option Addr × Nat)=>True) (fun (y:Option Addr × Nat)=>[(7,.slice y.1 (gw L F' p x).length y.2)]) [(0,_),(5,_),(6,_)] (fun (y:Option Addr × Nat)=>[cN aJ 89 d bh s L peer cm (W.erase p++gw L F' p x) F' (n+(gw L F' p x).length),av ag.str 9 (.slice y.1 (gw L F' p x).length y.2) (gw L F' p x)]) (.cons rfl (.cons rfl (.cons rfl (.nil)))) (fun key=>?_) (fun y hx=>?_)
 ·have aX:=cL (g:=g)
  by_cases cF:x.1=3
  ·obtain ⟨f0,f1,w0,w1⟩:=zI cF
   have iE:=O1 hok cF;have s4:gw L F' p x=dh L F' [p++[48],p++[49]]:=by unfold gw;rw [if_pos cF]
   rw [s4] at key;refine S.region rfl<|O.op (.p rfl) (.fieldAddr ez rfl)<|O.op (.p rfl) (.loadAt ey rfl h5 rfl) ?_;refine O.op (.p rfl) (.eql rfl rfl)<|O.sT 46 rfl (by rw [cF];rfl) ?_;refine O.nil<|S.bx rfl<|S.region rfl<|O.q 1 rfl<|O.op (.p rfl) (.fieldAddr lX rfl)<|O.op (.p rfl) (.loadAt bc rfl (h5.drop 1) rfl) ?_;refine O.op (.p rfl) (.fieldAddr lY rfl)<|O.op (.p rfl) (.loadAt bc rfl (h5.drop 2) rfl) ?_;refine O.aM (.p rfl) (.ct (T:=ag.cells 1) (ys:=[[.slice sH x.2.1.length sJ],[.slice uA x.2.2.1.length uB]]) underlying109 iC aC rfl rfl ⟨⟨rfl,rfl,by first|(simp;done)|(intro v hv;simp [Value.cells] at hv;rcases hv with rfl|rfl<;>rfl)|(refine List.forall_mem_cons.2 ⟨rfl,?_⟩;repeat (first|exact (fun _ h=>absurd h List.not_mem_nil)|refine List.forall_mem_cons.2 ⟨rfl,?_⟩))⟩,⟨rfl,rfl,by first|(simp;done)|(intro v hv;simp [Value.cells] at hv;rcases hv with rfl|rfl<;>rfl)|(refine List.forall_mem_cons.2 ⟨rfl,?_⟩;repeat (first|exact (fun _ h=>absurd h List.not_mem_nil)|refine List.forall_mem_cons.2 ⟨rfl,?_⟩))⟩,trivial⟩ aC) ?_;rintro _ _ ⟨kD,kE,rfl,rfl⟩;refine O.fo ai fun g hs hm qL=>?_;replace hg:=Fr.aH hg hs;replace hR:=bp hR hm
   try replace hT:=hT.mono hs
   try replace h0:=h0.mono hs
   try replace k1:=k1.mono hs
   try replace k2:=k2.mono hs
   try replace bg:=bg.mono hs
   try replace h5:=h5.mono hs
   replace aX:=dH aX hm;clear hs hm;refine O.q 1 rfl<|O.op (.p rfl) (.yR rfl rfl ah)<|O.slot 54 (v' :=.string (str (p++[48]))) rfl (by exact congrArg _ (Ba p [48])) ?_;refine O.q 1 rfl<|O.op (.p rfl) (.yR rfl rfl ah)<|O.slot 56 (v' :=.string (str (p++[49]))) rfl (by exact congrArg _ (Ba p [49])) ?_;refine O.aM (.p rfl) (.ct (T:=ag.str) (ys:=[p++[48],p++[49]]) underlying53 gY aC rfl rfl ⟨⟨rfl,by simp;omega⟩,⟨rfl,by simp;omega⟩,trivial⟩ aC) ?_;rintro _ _ ⟨a57,MO,rfl,rfl⟩;refine O.fo ai fun g hs hm ON=>?_;replace hg:=Fr.aH hg hs;replace hR:=bp hR hm
   try replace hT:=hT.mono hs
   try replace h0:=h0.mono hs
   try replace k1:=k1.mono hs
   try replace k2:=k2.mono hs
   try replace bg:=bg.mono hs
   try replace h5:=h5.mono hs
   try replace qL:=qL.mono hs
   replace aX:=dH aX hm;clear hs hm;refine O.bM (.p rfl) rfl aa rfl rfl ai (KG hT (aj.kO (T:=ag.slice ag.u8) (xs:=[x.2.1,x.2.2.1]) qL ⟨⟨_,rfl,k1⟩,⟨_,rfl,k2⟩,trivial⟩ rfl) ON (by simp [f0,f1]) b5 b5 (Lr p) (by intro q hq u;rcases Lq hq with rfl|rfl;exact w0 (List.mem_of_mem_erase u);exact w1 (List.mem_of_mem_erase u)) bI ah) ?_;rintro _ _ ⟨a58,wN,rfl,rfl⟩
   try simp only [an,aq,au]
   refine O.q 1 rfl<|O.nil<|S.pk ?_ (S.ic aX (S.weaken ?_ (key ((a58,wN)) (by trivial))))
   ·repeat (first|exact aS|exact aU|(apply aT;focus (repeat (first|exact aR|apply zt)))|apply aV)
   repeat (first|exact Sub.nil|refine Sub.cons rfl ?_)
  ·have s4:gw L F' p x=[]:=by unfold gw;rw [if_neg cF]
   rw [s4,List.append_nil] at key;refine S.gh (T:=ag.str) (e:=9) ?_;refine S.region rfl<|O.op (.p rfl) (.fieldAddr ez rfl)<|O.op (.p rfl) (.loadAt ey rfl h5 rfl) ?_;refine O.op (.p rfl) (.eql rfl rfl)<|O.aN 46 rfl (by exact decide_eq_false (fun q=>cF (oU.1 q))) ?_;refine O.nil<|S.aQ rfl<|S.skip<|S.pk ?_ (S.weaken ?_ (key ((none,0)) (by trivial)))
   ·repeat (first|exact aS|exact aU|(apply aT;focus (repeat (first|exact aR|apply zt)))|apply aV)
   repeat (first|exact Sub.nil|refine Sub.cons rfl ?_)
 ·generalize gw L F' p x=dD at *
  refine S.open (bs:=fun w:lQ (W.erase p++dD) F' =>jV aJ 89 d w.k bh w.bH w.mp s L peer cm (n+dD.length) w.M w.c) ai (fun m h=>cN.jq h) fun w=>?_;simp only [jV,List.cons_append,List.nil_append];refine S.seq<|S.seq<|S.region rfl<|O.q 1 rfl<|O.op (.p rfl) (.nilCheck rfl)<|O.op (.p rfl) (.aD rO rfl)<|O.op (.p rfl) (.aD CG rfl)<|O.op (.p rfl) (.lo cv) ?_;refine O.op (.p rfl) (.gtr rfl rfl)<|O.aN 64 rfl (by exact decide_eq_false ah) ?_;refine O.nil<|S.aQ rfl<|S.skip<|S.seq<|S.seq<|S.cB (A:=cN aJ 89 d bh s L peer cm (W.erase p++dD) F' (n+dD.length)) (bs:=jV aJ 89 d w.k bh w.bH w.mp s L peer cm (n+dD.length) w.M w.c) bf (fun m h=>cN.fold w h) ?_;refine S.r9 (ef cD) 102 ?_;refine S.pk (ζ:=[cH (ef cD) 102 (.slice none 0 0) [],cN aJ 89 d bh s L peer cm (W.erase p++dD) F' (n+dD.length),av ag.str 9 (.slice y.1 dD.length y.2) dD]) jx ?_;refine S.imp (ax :=[cH (ef cD) 102 (.slice none (ig x.2.2.2.1 0 0).length 0) (ig x.2.2.2.1 0 0),cN aJ 89 d bh s L peer cm (W.erase p++dD) F' (n+dD.length),av ag.str 9 (.slice y.1 dD.length y.2) dD]) (fun m h=>by rw [Kw];exact h) ?_;refine S.slot 6 (v' :=.slice none (ig x.2.2.2.1 0 0).length 0) rfl (by rw [Kw];rfl) ?_;refine S.region rfl<|O.op (.p rfl) (.fieldAddr lZ rfl)<|O.op (.p rfl) (.loadAt dK rfl (h5.drop 3) rfl) ?_
  refine O.op (.p rfl) (.len rfl underlying25 rfl)<|O.q 1 rfl<|O.nil<|S.block<|S.jT (ι:=Nat) (dI:=Option Addr × Nat) (fun i u=>i≤x.2.2.2.1.length) (fun i u=>[(73,.int .i64 (i:Int)),(6,.slice u.1 (ig x.2.2.2.1 i 0).length u.2)]) [(7,_),(71,_),(72,_)] (fun i u=>[cH (ef cD) 102 (.slice u.1 (ig x.2.2.2.1 i 0).length u.2) (ig x.2.2.2.1 i 0),cN aJ 89 d bh s L peer cm (W.erase p++dD) F' (n+dD.length),av ag.str 9 (.slice y.1 dD.length y.2) dD]) (fun i u=>x.2.2.2.1.length - i) (0) ((none,0)) bI (.cons rfl (.cons rfl (.nil))) (.cons rfl (.cons rfl (.cons rfl (.nil)))) rfl fun i u hx ih=>?_;have aX:=cL (g:=g);refine S.seq<|S.region rfl<|O.op (.p rfl) (.lss rfl rfl)<|O.nil (S.seq ?_)
  first|refine S.cc rfl (fun C4=>?_) (fun C4=>?_)|refine S.b7 rfl (fun C4=>?_) (fun C4=>?_)
  ·have hi:i<x.2.2.2.1.length:=by omega
   have DF:=hx2.2 _ (List.getElem_mem hi);have hlo:=vF.1 (hok.1.1 _ (List.getElem_mem hi));have hro:=q7 hlo.2.2.1.1;refine S.skip<|S.seq<|S.block<|S.seq<|S.region rfl<|O.b8 (.p rfl) underlying25 di rfl rfl (show _=(((i):Nat):Int) by omega) (bg) (h:=fun aah Yk DY QE=>?_);obtain ⟨l1,m1,rfl,l2,l3⟩:=bW.sh QE;have l3:=l3;refine O.op (.p rfl) (.bz isAgg31 aa rfl DY) ?_;refine O.aM (.p rfl) (.alloc (cs:=[.string ⟨#[]⟩,.slice none 0 0]) zeroValue31 rfl) ?_;rintro _ _ ⟨nr,rfl,rfl⟩;refine O.bu rfl (.cZ aa rfl rfl rfl rfl ai aW) ?_;refine O.nil<|S.seq<|S.c7 (b:=nr) (cs' :=[.string (str x.2.2.2.1[i].1),.slice l1 x.2.2.2.1[i].2.1.length m1]) ai rfl ?_;refine S.cW ai fun g hs hm h12=>?_;replace hg:=Fr.aH hg hs;replace hR:=bp hR hm
   try replace hT:=hT.mono hs
   try replace h0:=h0.mono hs
   try replace k1:=k1.mono hs
   try replace k2:=k2.mono hs
   try replace bg:=bg.mono hs
   try replace h5:=h5.mono hs
   try replace DY:=DY.mono hs
   try replace l3:=l3.mono hs
   replace aX:=dH aX hm;clear hs hm;refine S.region rfl<|O.op (.p rfl) (.fieldAddr fG rfl)<|O.op (.p rfl) (.loadAt ew rfl (h12.drop 1) rfl) ?_;refine O.op (.p rfl) (.len rfl underlying22 rfl)<|O.q 1 rfl<|O.nil<|S.block<|S.jT (ι:=Nat) (dI:=Option Addr × Nat) (fun k o=>k≤x.2.2.2.1[i].2.1.length) (fun k o=>[(80,.int .i64 (k:Int)),(6,.slice o.1 (ig x.2.2.2.1 i k).length o.2)]) [(7,_),(71,_),(72,_),(73,_),(78,_),(79,_)] (fun k o=>[cH (ef cD) 102 (.slice o.1 (ig x.2.2.2.1 i k).length o.2) (ig x.2.2.2.1 i k),cN aJ 89 d bh s L peer cm (W.erase p++dD) F' (n+dD.length),av ag.str 9 (.slice y.1 dD.length y.2) dD]) (fun k o=>x.2.2.2.1[i].2.1.length - k) (0) (u) bI (.cons rfl (.cons rfl (.nil))) (.cons rfl (.cons rfl (.cons rfl (.cons rfl (.cons rfl (.cons rfl (.nil))))))) rfl fun k o hx ih=>?_;have hm2:=cL (g:=g);refine S.seq<|S.region rfl<|O.op (.p rfl) (.lss rfl rfl)<|O.nil (S.seq ?_)
   first|refine S.cc rfl (fun C6=>?_) (fun C6=>?_)|refine S.b7 rfl (fun C6=>?_) (fun C6=>?_)
   ·have hk:k<x.2.2.2.1[i].2.1.length:=by omega
    have xK:=hro _ (List.getElem_mem hk);have Zp:=Vd xK;have hrl:=Vi (i:=i) (k:=k) hx2.1 hx2.2;have eU:=Vh hi hk;refine S.skip<|S.seq<|S.block<|S.seq<|S.region rfl<|O.b8 (.p rfl) underlying22 nQ rfl rfl (show _=(((k):Nat):Int) by omega) (l3) (h:=fun aai Yl Ql QF=>?_);obtain ⟨a3,a5,a6,c3,dP,dF,rfl,o0,o1,o2,k7,mi,mj⟩:=cq.sh QF;refine O.op (.p rfl) (.bz isAgg102 aa rfl Ql) ?_;refine O.aM (.p rfl) (.alloc (cs:=[.string ⟨#[]⟩,.int .i64 0,.int .i64 0,.slice none 0 0,.bool false,.slice none 0 0,.slice none 0 0]) zeroValue102 rfl) ?_;rintro _ _ ⟨GF,rfl,rfl⟩;refine O.bu rfl (.cZ aa rfl rfl rfl rfl ai aW) ?_;refine O.nil (S.seq ?_);generalize x.2.2.2.1[i].2.1[k]=v at *;refine S.c7 (b:=GF) (cs' :=ug v (.slice a3 v.2.2.2.1.length c3) (.slice a5 v.2.2.2.2.2.1.length dP) (.slice a6 v.2.2.2.2.2.2.1.length dF)) ai rfl ?_
    refine S.Ft (L:=[0,3,6,1,2,4,5,7,9,8,10,11,12,13,14]) (fun (t:(Option Addr × Nat) × (Option Addr × Nat) × (Option Addr × Nat))=>[]) [(6,_),(7,_),(14,_),(71,_),(72,_),(73,_),(78,_),(79,_),(80,_)] (fun (t:(Option Addr × Nat) × (Option Addr × Nat) × (Option Addr × Nat))=>[obj GF 102 (ug v (.slice t.1.1 v.2.2.2.1.length t.1.2) (.slice t.2.1.1 v.2.2.2.2.2.1.length t.2.1.2) (.slice t.2.2.1 v.2.2.2.2.2.2.1.length t.2.2.2)),av c5 191 (.slice t.1.1 v.2.2.2.1.length t.1.2) v.2.2.2.1,av ag.u8 5 (.slice t.2.1.1 v.2.2.2.2.2.1.length t.2.1.2) v.2.2.2.2.2.1,av ag.u8 5 (.slice t.2.2.1 v.2.2.2.2.2.2.1.length t.2.2.2) v.2.2.2.2.2.2.1,cH (ef cD) 102 (.slice o.1 (ig x.2.2.2.1 i k).length o.2) (ig x.2.2.2.1 i k),cN aJ 89 d bh s L peer cm (W.erase p++dD) F' (n+dD.length),av ag.str 9 (.slice y.1 dD.length y.2) dD]) (.cons rfl (.cons rfl (.cons rfl (.cons rfl (.cons rfl (.cons rfl (.cons rfl (.cons rfl (.cons rfl (.nil)))))))))) bA aa (fun kk key=>?_) (fun t=>?_)
    ·refine .quiet (.p rfl) rfl (fun _=>.aD fF rfl)<|.quiet (.p rfl) rfl (fun _=>.aD gl rfl)<|.quiet (.p rfl) rfl (fun _=>.aD iU rfl)<|af.BO 1 4 7 [2,4,5,7,9,8,10,11,12,13,14] [1,2,5,7,9,8,10,11,12,13,14] [1,2,4,5,9,8,10,11,12,13,14] aa rfl rfl rfl ?_ ?_ ?_
     ·refine bO.cu (.p rfl) aa (fun _=>.cS eS aK ai aK) ?_
      refine af.BO 2 4 7 [4,5,7,9,8,10,11,12,13,14] [2,5,7,9,8,10,11,12,13,14] [2,4,5,9,8,10,11,12,13,14] aa rfl rfl rfl ?_ ?_ ?_
      ·refine bO.aB (.p rfl) aa rfl aa rfl rfl ((oZ k7 ah)) ?_
       rintro _ _ ⟨gR,gW,rfl,rfl⟩
       try simp only [an,aq,au]
       refine af.eY 4 7 [5,7,9,8,10,11,12,13,14] [4,5,9,8,10,11,12,13,14] aa rfl rfl ?_ ?_
       ·refine bO.cu (.p rfl) aa (fun _=>.cS bc aK ai aK) ?_
        refine af.eY 5 7 [7,9,8,10,11,12,13,14] [5,9,8,10,11,12,13,14] aa rfl rfl ?_ ?_
        ·refine bO.aB (.p rfl) aa rfl aa rfl rfl ((eE mi ah)) ?_
         rintro _ _ ⟨fU,fZ,rfl,rfl⟩
         try simp only [an,aq,au]
         refine af.cu (.p rfl) aa (fun _=>.cS bc aK ai aK) ?_;refine .quiet (.p rfl) rfl (fun _=>.aD fF rfl)<|af.aB (.p rfl) aa rfl aa rfl rfl ((eE mj ah)) ?_;rintro _ _ ⟨fV,f_,rfl,rfl⟩
         try simp only [an,aq,au]
         refine af.bn rfl aa eS rfl rfl bq ai aW ?_;refine .quiet (.p rfl) rfl (fun _=>.aD gl rfl)<|af.bn rfl aa bc rfl rfl bq ai aW ?_;refine .quiet (.p rfl) rfl (fun _=>.aD iU rfl)<|af.bn rfl aa bc rfl rfl bq ai aW ?_;refine aI.nil<|S.pk ?_ (S.weaken (Sub.app (.nil) (.cons rfl (.cons rfl (.cons rfl (.cons rfl (.cons rfl (.cons rfl (.cons rfl (.cons rfl (.cons rfl (.nil))))))))))) (key ((gR,gW),(fU,fZ),(fV,f_))))
         try dsimp only
         repeat (first|exact aS|exact aU|(apply aT;focus (repeat (first|exact aR|apply zt)))|apply aV)
        ·refine bO.cu (.p rfl) aa (fun _=>.cS bc aK ai aK) ?_
         refine .swap [9,5,8,10,11,12,13,14] aa ?_;refine .quiet (.p rfl) rfl (fun _=>.aD fF rfl)<|af.aB (.p rfl) aa rfl aa rfl rfl ((eE mi ah)) ?_;rintro _ _ ⟨fU,fZ,rfl,rfl⟩
         try simp only [an,aq,au]
         refine af.aB (.p rfl) aa rfl aa rfl rfl ((eE mj ah)) ?_;rintro _ _ ⟨fV,f_,rfl,rfl⟩
         try simp only [an,aq,au]
         refine af.bn rfl aa eS rfl rfl bq ai aW ?_;refine .quiet (.p rfl) rfl (fun _=>.aD gl rfl)<|af.bn rfl aa bc rfl rfl bq ai aW ?_;refine .quiet (.p rfl) rfl (fun _=>.aD iU rfl)<|af.bn rfl aa bc rfl rfl bq ai aW ?_;refine aI.nil<|S.pk ?_ (S.weaken (Sub.app (.nil) (.cons rfl (.cons rfl (.cons rfl (.cons rfl (.cons rfl (.cons rfl (.cons rfl (.cons rfl (.cons rfl (.nil))))))))))) (key ((gR,gW),(fU,fZ),(fV,f_))))
         try dsimp only
         repeat (first|exact aS|exact aU|(apply aT;focus (repeat (first|exact aR|apply zt)))|apply aV)
       ·refine bO.cu (.p rfl) aa (fun _=>.cS bc aK ai aK) ?_
        refine .swap [4,9,5,8,10,11,12,13,14] aa ?_;refine af.cu (.p rfl) aa (fun _=>.cS bc aK ai aK) ?_;refine .quiet (.p rfl) rfl (fun _=>.aD fF rfl)<|af.aB (.p rfl) aa rfl aa rfl rfl ((eE mi ah)) ?_;rintro _ _ ⟨fU,fZ,rfl,rfl⟩
        try simp only [an,aq,au]
        refine af.aB (.p rfl) aa rfl aa rfl rfl ((eE mj ah)) ?_;rintro _ _ ⟨fV,f_,rfl,rfl⟩
        try simp only [an,aq,au]
        refine af.bn rfl aa eS rfl rfl bq ai aW ?_;refine .quiet (.p rfl) rfl (fun _=>.aD gl rfl)<|af.bn rfl aa bc rfl rfl bq ai aW ?_;refine .quiet (.p rfl) rfl (fun _=>.aD iU rfl)<|af.bn rfl aa bc rfl rfl bq ai aW ?_;refine aI.nil<|S.pk ?_ (S.weaken (Sub.app (.nil) (.cons rfl (.cons rfl (.cons rfl (.cons rfl (.cons rfl (.cons rfl (.cons rfl (.cons rfl (.cons rfl (.nil))))))))))) (key ((gR,gW),(fU,fZ),(fV,f_))))
        try dsimp only
        repeat (first|exact aS|exact aU|(apply aT;focus (repeat (first|exact aR|apply zt)))|apply aV)
      ·refine bO.cu (.p rfl) aa (fun _=>.cS bc aK ai aK) ?_
       refine af.eY 2 7 [5,7,9,8,10,11,12,13,14] [2,5,9,8,10,11,12,13,14] aa rfl rfl ?_ ?_
       ·refine bO.aB (.p rfl) aa rfl aa rfl rfl ((oZ k7 ah)) ?_
        rintro _ _ ⟨gR,gW,rfl,rfl⟩
        try simp only [an,aq,au]
        refine af.eY 5 7 [7,9,8,10,11,12,13,14] [5,9,8,10,11,12,13,14] aa rfl rfl ?_ ?_
        ·refine bO.aB (.p rfl) aa rfl aa rfl rfl ((eE mi ah)) ?_
         rintro _ _ ⟨fU,fZ,rfl,rfl⟩
         try simp only [an,aq,au]
         refine af.cu (.p rfl) aa (fun _=>.cS bc aK ai aK) ?_;refine .quiet (.p rfl) rfl (fun _=>.aD fF rfl)<|af.aB (.p rfl) aa rfl aa rfl rfl ((eE mj ah)) ?_;rintro _ _ ⟨fV,f_,rfl,rfl⟩
         try simp only [an,aq,au]
         refine af.bn rfl aa eS rfl rfl bq ai aW ?_;refine .quiet (.p rfl) rfl (fun _=>.aD gl rfl)<|af.bn rfl aa bc rfl rfl bq ai aW ?_;refine .quiet (.p rfl) rfl (fun _=>.aD iU rfl)<|af.bn rfl aa bc rfl rfl bq ai aW ?_;refine aI.nil<|S.pk ?_ (S.weaken (Sub.app (.nil) (.cons rfl (.cons rfl (.cons rfl (.cons rfl (.cons rfl (.cons rfl (.cons rfl (.cons rfl (.cons rfl (.nil))))))))))) (key ((gR,gW),(fU,fZ),(fV,f_))))
         try dsimp only
         repeat (first|exact aS|exact aU|(apply aT;focus (repeat (first|exact aR|apply zt)))|apply aV)
        ·refine bO.cu (.p rfl) aa (fun _=>.cS bc aK ai aK) ?_
         refine .swap [9,5,8,10,11,12,13,14] aa ?_;refine .quiet (.p rfl) rfl (fun _=>.aD fF rfl)<|af.aB (.p rfl) aa rfl aa rfl rfl ((eE mi ah)) ?_;rintro _ _ ⟨fU,fZ,rfl,rfl⟩
         try simp only [an,aq,au]
         refine af.aB (.p rfl) aa rfl aa rfl rfl ((eE mj ah)) ?_;rintro _ _ ⟨fV,f_,rfl,rfl⟩
         try simp only [an,aq,au]
         refine af.bn rfl aa eS rfl rfl bq ai aW ?_;refine .quiet (.p rfl) rfl (fun _=>.aD gl rfl)<|af.bn rfl aa bc rfl rfl bq ai aW ?_;refine .quiet (.p rfl) rfl (fun _=>.aD iU rfl)<|af.bn rfl aa bc rfl rfl bq ai aW ?_;refine aI.nil<|S.pk ?_ (S.weaken (Sub.app (.nil) (.cons rfl (.cons rfl (.cons rfl (.cons rfl (.cons rfl (.cons rfl (.cons rfl (.cons rfl (.cons rfl (.nil))))))))))) (key ((gR,gW),(fU,fZ),(fV,f_))))
         try dsimp only
         repeat (first|exact aS|exact aU|(apply aT;focus (repeat (first|exact aR|apply zt)))|apply aV)
       ·refine bO.cu (.p rfl) aa (fun _=>.cS bc aK ai aK) ?_
        refine .swap [2,9,5,8,10,11,12,13,14] aa ?_;refine af.aB (.p rfl) aa rfl aa rfl rfl ((oZ k7 ah)) ?_;rintro _ _ ⟨gR,gW,rfl,rfl⟩
        try simp only [an,aq,au]
        refine .quiet (.p rfl) rfl (fun _=>.aD fF rfl)<|af.aB (.p rfl) aa rfl aa rfl rfl ((eE mi ah)) ?_;rintro _ _ ⟨fU,fZ,rfl,rfl⟩
        try simp only [an,aq,au]
        refine af.aB (.p rfl) aa rfl aa rfl rfl ((eE mj ah)) ?_;rintro _ _ ⟨fV,f_,rfl,rfl⟩
        try simp only [an,aq,au]
        refine af.bn rfl aa eS rfl rfl bq ai aW ?_;refine .quiet (.p rfl) rfl (fun _=>.aD gl rfl)<|af.bn rfl aa bc rfl rfl bq ai aW ?_;refine .quiet (.p rfl) rfl (fun _=>.aD iU rfl)<|af.bn rfl aa bc rfl rfl bq ai aW ?_;refine aI.nil<|S.pk ?_ (S.weaken (Sub.app (.nil) (.cons rfl (.cons rfl (.cons rfl (.cons rfl (.cons rfl (.cons rfl (.cons rfl (.cons rfl (.cons rfl (.nil))))))))))) (key ((gR,gW),(fU,fZ),(fV,f_))))
        try dsimp only
        repeat (first|exact aS|exact aU|(apply aT;focus (repeat (first|exact aR|apply zt)))|apply aV)
      ·refine bO.cu (.p rfl) aa (fun _=>.cS bc aK ai aK) ?_
       refine .swap [2,4,9,5,8,10,11,12,13,14] aa ?_;refine af.eY 2 4 [4,9,5,8,10,11,12,13,14] [2,9,5,8,10,11,12,13,14] aa rfl rfl ?_ ?_
       ·refine bO.aB (.p rfl) aa rfl aa rfl rfl ((oZ k7 ah)) ?_
        rintro _ _ ⟨gR,gW,rfl,rfl⟩
        try simp only [an,aq,au]
        refine af.cu (.p rfl) aa (fun _=>.cS bc aK ai aK) ?_;refine .quiet (.p rfl) rfl (fun _=>.aD fF rfl)<|af.aB (.p rfl) aa rfl aa rfl rfl ((eE mi ah)) ?_;rintro _ _ ⟨fU,fZ,rfl,rfl⟩
        try simp only [an,aq,au]
        refine af.aB (.p rfl) aa rfl aa rfl rfl ((eE mj ah)) ?_;rintro _ _ ⟨fV,f_,rfl,rfl⟩
        try simp only [an,aq,au]
        refine af.bn rfl aa eS rfl rfl bq ai aW ?_;refine .quiet (.p rfl) rfl (fun _=>.aD gl rfl)<|af.bn rfl aa bc rfl rfl bq ai aW ?_;refine .quiet (.p rfl) rfl (fun _=>.aD iU rfl)<|af.bn rfl aa bc rfl rfl bq ai aW ?_;refine aI.nil<|S.pk ?_ (S.weaken (Sub.app (.nil) (.cons rfl (.cons rfl (.cons rfl (.cons rfl (.cons rfl (.cons rfl (.cons rfl (.cons rfl (.cons rfl (.nil))))))))))) (key ((gR,gW),(fU,fZ),(fV,f_))))
        try dsimp only
        repeat (first|exact aS|exact aU|(apply aT;focus (repeat (first|exact aR|apply zt)))|apply aV)
       ·refine bO.cu (.p rfl) aa (fun _=>.cS bc aK ai aK) ?_
        refine af.aB (.p rfl) aa rfl aa rfl rfl ((oZ k7 ah)) ?_;rintro _ _ ⟨gR,gW,rfl,rfl⟩
        try simp only [an,aq,au]
        refine .quiet (.p rfl) rfl (fun _=>.aD fF rfl)<|af.aB (.p rfl) aa rfl aa rfl rfl ((eE mi ah)) ?_;rintro _ _ ⟨fU,fZ,rfl,rfl⟩
        try simp only [an,aq,au]
        refine af.aB (.p rfl) aa rfl aa rfl rfl ((eE mj ah)) ?_;rintro _ _ ⟨fV,f_,rfl,rfl⟩
        try simp only [an,aq,au]
        refine af.bn rfl aa eS rfl rfl bq ai aW ?_;refine .quiet (.p rfl) rfl (fun _=>.aD gl rfl)<|af.bn rfl aa bc rfl rfl bq ai aW ?_;refine .quiet (.p rfl) rfl (fun _=>.aD iU rfl)<|af.bn rfl aa bc rfl rfl bq ai aW ?_;refine aI.nil<|S.pk ?_ (S.weaken (Sub.app (.nil) (.cons rfl (.cons rfl (.cons rfl (.cons rfl (.cons rfl (.cons rfl (.cons rfl (.cons rfl (.cons rfl (.nil))))))))))) (key ((gR,gW),(fU,fZ),(fV,f_))))
        try dsimp only
        repeat (first|exact aS|exact aU|(apply aT;focus (repeat (first|exact aR|apply zt)))|apply aV)
     ·refine bO.cu (.p rfl) aa (fun _=>.cS bc aK ai aK) ?_
      refine af.eY 1 7 [2,5,7,9,8,10,11,12,13,14] [1,2,5,9,8,10,11,12,13,14] aa rfl rfl ?_ ?_
      ·refine bO.cu (.p rfl) aa (fun _=>.cS eS aK ai aK) ?_
       refine af.eY 2 7 [5,7,9,8,10,11,12,13,14] [2,5,9,8,10,11,12,13,14] aa rfl rfl ?_ ?_
       ·refine bO.aB (.p rfl) aa rfl aa rfl rfl ((oZ k7 ah)) ?_
        rintro _ _ ⟨gR,gW,rfl,rfl⟩
        try simp only [an,aq,au]
        refine af.eY 5 7 [7,9,8,10,11,12,13,14] [5,9,8,10,11,12,13,14] aa rfl rfl ?_ ?_
        ·refine bO.aB (.p rfl) aa rfl aa rfl rfl ((eE mi ah)) ?_
         rintro _ _ ⟨fU,fZ,rfl,rfl⟩
         try simp only [an,aq,au]
         refine af.cu (.p rfl) aa (fun _=>.cS bc aK ai aK) ?_;refine .quiet (.p rfl) rfl (fun _=>.aD fF rfl)<|af.aB (.p rfl) aa rfl aa rfl rfl ((eE mj ah)) ?_;rintro _ _ ⟨fV,f_,rfl,rfl⟩
         try simp only [an,aq,au]
         refine af.bn rfl aa eS rfl rfl bq ai aW ?_;refine .quiet (.p rfl) rfl (fun _=>.aD gl rfl)<|af.bn rfl aa bc rfl rfl bq ai aW ?_;refine .quiet (.p rfl) rfl (fun _=>.aD iU rfl)<|af.bn rfl aa bc rfl rfl bq ai aW ?_;refine aI.nil<|S.pk ?_ (S.weaken (Sub.app (.nil) (.cons rfl (.cons rfl (.cons rfl (.cons rfl (.cons rfl (.cons rfl (.cons rfl (.cons rfl (.cons rfl (.nil))))))))))) (key ((gR,gW),(fU,fZ),(fV,f_))))
         try dsimp only
         repeat (first|exact aS|exact aU|(apply aT;focus (repeat (first|exact aR|apply zt)))|apply aV)
        ·refine bO.cu (.p rfl) aa (fun _=>.cS bc aK ai aK) ?_
         refine .swap [9,5,8,10,11,12,13,14] aa ?_;refine .quiet (.p rfl) rfl (fun _=>.aD fF rfl)<|af.aB (.p rfl) aa rfl aa rfl rfl ((eE mi ah)) ?_;rintro _ _ ⟨fU,fZ,rfl,rfl⟩
         try simp only [an,aq,au]
         refine af.aB (.p rfl) aa rfl aa rfl rfl ((eE mj ah)) ?_;rintro _ _ ⟨fV,f_,rfl,rfl⟩
         try simp only [an,aq,au]
         refine af.bn rfl aa eS rfl rfl bq ai aW ?_;refine .quiet (.p rfl) rfl (fun _=>.aD gl rfl)<|af.bn rfl aa bc rfl rfl bq ai aW ?_;refine .quiet (.p rfl) rfl (fun _=>.aD iU rfl)<|af.bn rfl aa bc rfl rfl bq ai aW ?_;refine aI.nil<|S.pk ?_ (S.weaken (Sub.app (.nil) (.cons rfl (.cons rfl (.cons rfl (.cons rfl (.cons rfl (.cons rfl (.cons rfl (.cons rfl (.cons rfl (.nil))))))))))) (key ((gR,gW),(fU,fZ),(fV,f_))))
         try dsimp only
         repeat (first|exact aS|exact aU|(apply aT;focus (repeat (first|exact aR|apply zt)))|apply aV)
       ·refine bO.cu (.p rfl) aa (fun _=>.cS bc aK ai aK) ?_
        refine .swap [2,9,5,8,10,11,12,13,14] aa ?_;refine af.aB (.p rfl) aa rfl aa rfl rfl ((oZ k7 ah)) ?_;rintro _ _ ⟨gR,gW,rfl,rfl⟩
        try simp only [an,aq,au]
        refine .quiet (.p rfl) rfl (fun _=>.aD fF rfl)<|af.aB (.p rfl) aa rfl aa rfl rfl ((eE mi ah)) ?_;rintro _ _ ⟨fU,fZ,rfl,rfl⟩
        try simp only [an,aq,au]
        refine af.aB (.p rfl) aa rfl aa rfl rfl ((eE mj ah)) ?_;rintro _ _ ⟨fV,f_,rfl,rfl⟩
        try simp only [an,aq,au]
        refine af.bn rfl aa eS rfl rfl bq ai aW ?_;refine .quiet (.p rfl) rfl (fun _=>.aD gl rfl)<|af.bn rfl aa bc rfl rfl bq ai aW ?_;refine .quiet (.p rfl) rfl (fun _=>.aD iU rfl)<|af.bn rfl aa bc rfl rfl bq ai aW ?_;refine aI.nil<|S.pk ?_ (S.weaken (Sub.app (.nil) (.cons rfl (.cons rfl (.cons rfl (.cons rfl (.cons rfl (.cons rfl (.cons rfl (.cons rfl (.cons rfl (.nil))))))))))) (key ((gR,gW),(fU,fZ),(fV,f_))))
        try dsimp only
        repeat (first|exact aS|exact aU|(apply aT;focus (repeat (first|exact aR|apply zt)))|apply aV)
      ·refine bO.cu (.p rfl) aa (fun _=>.cS bc aK ai aK) ?_
       refine .swap [1,2,9,5,8,10,11,12,13,14] aa ?_;refine af.cu (.p rfl) aa (fun _=>.cS eS aK ai aK) ?_;refine af.aB (.p rfl) aa rfl aa rfl rfl ((oZ k7 ah)) ?_;rintro _ _ ⟨gR,gW,rfl,rfl⟩
       try simp only [an,aq,au]
       refine .quiet (.p rfl) rfl (fun _=>.aD fF rfl)<|af.aB (.p rfl) aa rfl aa rfl rfl ((eE mi ah)) ?_;rintro _ _ ⟨fU,fZ,rfl,rfl⟩
       try simp only [an,aq,au]
       refine af.aB (.p rfl) aa rfl aa rfl rfl ((eE mj ah)) ?_;rintro _ _ ⟨fV,f_,rfl,rfl⟩
       try simp only [an,aq,au]
       refine af.bn rfl aa eS rfl rfl bq ai aW ?_;refine .quiet (.p rfl) rfl (fun _=>.aD gl rfl)<|af.bn rfl aa bc rfl rfl bq ai aW ?_;refine .quiet (.p rfl) rfl (fun _=>.aD iU rfl)<|af.bn rfl aa bc rfl rfl bq ai aW ?_;refine aI.nil<|S.pk ?_ (S.weaken (Sub.app (.nil) (.cons rfl (.cons rfl (.cons rfl (.cons rfl (.cons rfl (.cons rfl (.cons rfl (.cons rfl (.cons rfl (.nil))))))))))) (key ((gR,gW),(fU,fZ),(fV,f_))))
       try dsimp only
       repeat (first|exact aS|exact aU|(apply aT;focus (repeat (first|exact aR|apply zt)))|apply aV)
     ·refine bO.cu (.p rfl) aa (fun _=>.cS bc aK ai aK) ?_
      refine .swap [1,2,4,9,5,8,10,11,12,13,14] aa ?_;refine af.eY 1 4 [2,4,9,5,8,10,11,12,13,14] [1,2,9,5,8,10,11,12,13,14] aa rfl rfl ?_ ?_
      ·refine bO.cu (.p rfl) aa (fun _=>.cS eS aK ai aK) ?_
       refine af.eY 2 4 [4,9,5,8,10,11,12,13,14] [2,9,5,8,10,11,12,13,14] aa rfl rfl ?_ ?_
       ·refine bO.aB (.p rfl) aa rfl aa rfl rfl ((oZ k7 ah)) ?_
        rintro _ _ ⟨gR,gW,rfl,rfl⟩
        try simp only [an,aq,au]
        refine af.cu (.p rfl) aa (fun _=>.cS bc aK ai aK) ?_;refine .quiet (.p rfl) rfl (fun _=>.aD fF rfl)<|af.aB (.p rfl) aa rfl aa rfl rfl ((eE mi ah)) ?_;rintro _ _ ⟨fU,fZ,rfl,rfl⟩
        try simp only [an,aq,au]
        refine af.aB (.p rfl) aa rfl aa rfl rfl ((eE mj ah)) ?_;rintro _ _ ⟨fV,f_,rfl,rfl⟩
        try simp only [an,aq,au]
        refine af.bn rfl aa eS rfl rfl bq ai aW ?_;refine .quiet (.p rfl) rfl (fun _=>.aD gl rfl)<|af.bn rfl aa bc rfl rfl bq ai aW ?_;refine .quiet (.p rfl) rfl (fun _=>.aD iU rfl)<|af.bn rfl aa bc rfl rfl bq ai aW ?_;refine aI.nil<|S.pk ?_ (S.weaken (Sub.app (.nil) (.cons rfl (.cons rfl (.cons rfl (.cons rfl (.cons rfl (.cons rfl (.cons rfl (.cons rfl (.cons rfl (.nil))))))))))) (key ((gR,gW),(fU,fZ),(fV,f_))))
        try dsimp only
        repeat (first|exact aS|exact aU|(apply aT;focus (repeat (first|exact aR|apply zt)))|apply aV)
       ·refine bO.cu (.p rfl) aa (fun _=>.cS bc aK ai aK) ?_
        refine af.aB (.p rfl) aa rfl aa rfl rfl ((oZ k7 ah)) ?_;rintro _ _ ⟨gR,gW,rfl,rfl⟩
        try simp only [an,aq,au]
        refine .quiet (.p rfl) rfl (fun _=>.aD fF rfl)<|af.aB (.p rfl) aa rfl aa rfl rfl ((eE mi ah)) ?_;rintro _ _ ⟨fU,fZ,rfl,rfl⟩
        try simp only [an,aq,au]
        refine af.aB (.p rfl) aa rfl aa rfl rfl ((eE mj ah)) ?_;rintro _ _ ⟨fV,f_,rfl,rfl⟩
        try simp only [an,aq,au]
        refine af.bn rfl aa eS rfl rfl bq ai aW ?_;refine .quiet (.p rfl) rfl (fun _=>.aD gl rfl)<|af.bn rfl aa bc rfl rfl bq ai aW ?_;refine .quiet (.p rfl) rfl (fun _=>.aD iU rfl)<|af.bn rfl aa bc rfl rfl bq ai aW ?_;refine aI.nil<|S.pk ?_ (S.weaken (Sub.app (.nil) (.cons rfl (.cons rfl (.cons rfl (.cons rfl (.cons rfl (.cons rfl (.cons rfl (.cons rfl (.cons rfl (.nil))))))))))) (key ((gR,gW),(fU,fZ),(fV,f_))))
        try dsimp only
        repeat (first|exact aS|exact aU|(apply aT;focus (repeat (first|exact aR|apply zt)))|apply aV)
      ·refine bO.cu (.p rfl) aa (fun _=>.cS bc aK ai aK) ?_
       refine af.cu (.p rfl) aa (fun _=>.cS eS aK ai aK) ?_;refine af.aB (.p rfl) aa rfl aa rfl rfl ((oZ k7 ah)) ?_;rintro _ _ ⟨gR,gW,rfl,rfl⟩
       try simp only [an,aq,au]
       refine .quiet (.p rfl) rfl (fun _=>.aD fF rfl)<|af.aB (.p rfl) aa rfl aa rfl rfl ((eE mi ah)) ?_;rintro _ _ ⟨fU,fZ,rfl,rfl⟩
       try simp only [an,aq,au]
       refine af.aB (.p rfl) aa rfl aa rfl rfl ((eE mj ah)) ?_;rintro _ _ ⟨fV,f_,rfl,rfl⟩
       try simp only [an,aq,au]
       refine af.bn rfl aa eS rfl rfl bq ai aW ?_;refine .quiet (.p rfl) rfl (fun _=>.aD gl rfl)<|af.bn rfl aa bc rfl rfl bq ai aW ?_;refine .quiet (.p rfl) rfl (fun _=>.aD iU rfl)<|af.bn rfl aa bc rfl rfl bq ai aW ?_;refine aI.nil<|S.pk ?_ (S.weaken (Sub.app (.nil) (.cons rfl (.cons rfl (.cons rfl (.cons rfl (.cons rfl (.cons rfl (.cons rfl (.cons rfl (.cons rfl (.nil))))))))))) (key ((gR,gW),(fU,fZ),(fV,f_))))
       try dsimp only
       repeat (first|exact aS|exact aU|(apply aT;focus (repeat (first|exact aR|apply zt)))|apply aV)
    refine S.x3 (G:=ef cD) (k' :=7) rfl ai fun ak eb=>?_;rw [← eb];refine S.region rfl<|O.q 1 rfl<|O.op (.p rfl) (.ia (news:=[_,_,_,_,_,_,_]) isAgg102) ?_;refine O.aM (.p rfl) (.ct (T:=(ag.cells 7)) (ys:=[_]) underlying22 zj aC rfl rfl ⟨⟨rfl,rfl,by first|(simp;done)|(intro v hv;simp [Value.cells] at hv;rcases hv with rfl|rfl<;>rfl)|(refine List.forall_mem_cons.2 ⟨rfl,?_⟩;repeat (first|exact (fun _ h=>absurd h List.not_mem_nil)|refine List.forall_mem_cons.2 ⟨rfl,?_⟩))⟩,trivial⟩ aC) ?_;rintro _ _ ⟨XY,X7,rfl,rfl⟩;refine O.aM (.p rfl) (.gT (T:=(ag.cells 7)) underlying22 zj aC rfl rfl ai ai bJ bJ) ?_;rintro _ _ ⟨L5,MT,rfl,rfl⟩;refine O.q 1 rfl<|O.nil<|S.inBlock<|S.cB (A:=(ef cD).own (ug v (.slice t.1.1 v.2.2.2.1.length t.1.2) (.slice t.2.1.1 v.2.2.2.2.2.1.length t.2.1.2) (.slice t.2.2.1 v.2.2.2.2.2.2.1.length t.2.2.2)) v) (bs:=yo v (.slice t.1.1 v.2.2.2.1.length t.1.2) (.slice t.2.1.1 v.2.2.2.2.2.1.length t.2.1.2) (.slice t.2.2.1 v.2.2.2.2.2.2.1.length t.2.2.2)) bf (fun m h=>Kr xK h) ?_;refine S.x4 (G:=ef cD) (k' :=7) rfl ai ai ai ?_;rw [eU];simp only [List.length_singleton];have hcs:ak.length+1=(ig x.2.2.2.1 i (k+1)).length:=by rw [← eU,List.length_append,← eb];rfl
    rw [hcs];refine S.region rfl<|O.op (.p rfl) (.add rfl rfl (IntWalk.i64_in _ ah))<|O.q 1 rfl<|O.nil ?_;exact S.pw (ih (k+1) ((L5,MT)) ah ah)
   ·clear ih
    have hk:k=x.2.2.2.1[i].2.1.length:=by omega
    subst hk;rw [Vj hi];refine S.exit rfl<|S.inBlock<|S.region rfl<|O.op (.p rfl) (.add rfl rfl (IntWalk.i64_in _ ah))<|O.q 1 rfl<|O.nil ?_;exact S.ic aX (S.pw (ih (i+1) (o) ah ah))
  ·clear ih
   have hi:i=x.2.2.2.1.length:=by omega
   subst hi;rw [Vg];refine S.exit rfl<|S.seq<|S.region rfl<|O.q 5 rfl<|O.nil<|S.Ky results54 rfl rfl rfl fun w hw=>Holds.end_ hR hw ?_;exact pk ⟨u.1,u.2,y.1,y.2,rfl,rfl⟩
theorem Uh {d:Fr} {bh s:Nat} {L:List aG} {peer:Int} {cm:Bool} (F:List UInt8→List UInt8) {m:Fr} (h:Sat [fD d bh s L peer cm] m):cN aJ 89 d bh s L peer cm [] F 0 m:=by
 obtain ⟨m1,_,_,s1,_,⟨bH,mp,hs0⟩,_⟩:=h;have hs:=Sat.mono s1 hs0;exact ⟨⟨Fr.emp,bH,mp,[],0,gL.nil,rfl,fun p v q=>by cases q⟩,Fr.emp,m,Fr.dZ _,Fr.cV _,Fr.bU _,rfl,hs⟩
theorem VS {r d:Fr} {bh s n:Nat} {L:List aG} {W:List (List UInt8)} {F:List UInt8→List UInt8} {cs:List Value} {x:j5} {sj:Value} {xs:List UInt8} (hT:gK r d s L) (hs4:s<4) (h:jg.rel r cs x) (hok:oE x=true) (h2:x.2.1=(s:Int)) (hn:aj ag.u8 r sj xs) (iE:xs.length=64) (h3:x.2.2.2.1=ek (s:Int) xs) (hF:F []=xs) (hw:[] ∉ W) (hnn:n≤100000000) :
  ay prog 53 #[.pointer (some ⟨bh,0,none⟩),.agg cs.toArray,sj] r [cN aJ 89 d bh s L x.1 false W F n] (aL fun u U=>∃ a c,u=.tuple #[.slice a (dh L F [[]]).length c,.int .i64 0]∧U=[cN aJ 89 d bh s L x.1 true (W++dh L F [[]]) F (n+(dh L F [[]]).length),av ag.str 9 (.slice a (dh L F [[]]).length c) (dh L F [[]])]):=by
 have hpos:0<x.1:=by have:=(AY.1 (AX.1 hok).1).1;omega
 have ht:(ek (s:Int) xs).length=64:=by unfold ek;rw [if_pos ⟨by omega,by omega,iE⟩,qj]
 obtain ⟨a5,dP,rfl⟩:=hn.shape;obtain ⟨gI,sI,gJ,sK,rfl,k0,k1,k2,bg,vE⟩:=jg.sh h;refine ay.of (n:=54) _ rfl func53 rfl rfl rfl fun g hg R hR=>?_;have hT:=hT.mono hg;have h:=h.mono hg;have hn:=hn.mono hg;have bg:=bg.mono hg;refine S.open (bs:=fun z:lQ W F=>jV aJ 89 d z.k bh z.bH z.mp s L x.1 false n z.M z.c) .here (fun m h=>cN.jq h) fun z=>?_;simp only [jV,List.cons_append,List.nil_append];refine S.seq<|S.region rfl<|O.aM (.p rfl) (.box (cs:=[_,_,_,_,_]) rfl rfl) ?_;rintro _ _ ⟨b4,rfl,rfl⟩;refine O.q 2 rfl<|O.nil<|S.seq<|S.block<|S.seq<|S.d_ (A:=obj b4 81 [.int .i64 x.1,.int .i64 x.2.1,.int .i64 x.2.2.1,.slice gI x.2.2.2.1.length gJ,.slice sI x.2.2.2.2.1.length sK]) ai fun g hs hm ⟨_,x',s'⟩=>?_;have h4:=(fun s x=>(gf x).mono s) s' x';clear x' s';replace hg:=Fr.aH hg hs;replace hR:=bp hR hm
 try replace hT:=hT.mono hs
 try replace h:=h.mono hs
 try replace hn:=hn.mono hs
 try replace bg:=bg.mono hs
 clear hs hm;refine S.region rfl<|O.q 1 rfl<|O.bM (.p rfl) rfl aa rfl rfl ai (uj hpos) ?_;rintro _ _ ⟨rfl,rfl⟩
 try simp only [an,aq,au]
 refine O.sT 10 rfl aK ?_;refine O.op (.p rfl) (.not rfl)<|O.q 1 rfl<|O.nil<|S.aQ rfl<|S.seq<|S.region rfl<|O.q 1 rfl<|O.op (.p rfl) (.nilCheck rfl)<|O.op (.p rfl) (.aD tc rfl)<|O.op (.p rfl) (.lo ji) ?_;refine O.aN 16 rfl aK ?_;refine O.q 1 rfl<|O.nil<|S.aQ rfl<|S.seq<|S.seq<|S.region rfl<|O.op (.p rfl) (.bz isAgg81 aa rfl h4) ?_;refine O.aB (.p rfl) rfl aa rfl rfl ((FK h)) ?_;rintro _ _ ⟨rfl,rfl⟩
 try simp only [an,aq,au]
 refine O.sT 19 rfl (by exact hok) ?_;refine O.op (.p rfl) (.not rfl)<|O.q 1 rfl<|O.nil<|S.aQ rfl<|S.seq<|S.bB (L:=[0,1,2,3,4,5,6,7]) bA aa ?_;refine .quiet (.p rfl) rfl (fun _=>.fieldAddr wZ rfl)<|.quiet (.p rfl) rfl (fun _=>.loadAt cv rfl h4 rfl) ?_;refine af.q 1 rfl<|.quiet (.p rfl) rfl (fun _=>.nilCheck rfl)<|.quiet (.p rfl) rfl (fun _=>.aD zy rfl)<|af.cu (.p rfl) aa (fun _=>.cS cv aK ai aK) ?_;refine .quiet (.p rfl) rfl (fun _=>.neq rfl rfl)<|af.aN 27 rfl (by exact decide_eq_false (fun q=>q rfl)) ?_;refine af.q 1 rfl<|aI.nil<|S.aQ rfl<|S.bB (L:=[0,1,2,3,4,5,6,7,8,9]) bA aa ?_;refine .quiet (.p rfl) rfl (fun _=>.fieldAddr vi rfl)<|.quiet (.p rfl) rfl (fun _=>.loadAt cv rfl (h4.drop 1) rfl) ?_;refine af.q 1 rfl<|.quiet (.p rfl) rfl (fun _=>.nilCheck rfl)<|.quiet (.p rfl) rfl (fun _=>.aD vj rfl)<|.quiet (.p rfl) rfl (fun _=>.aD w5 rfl)<|af.cu (.p rfl) aa (fun _=>.cS o8 aK ai aK) ?_;refine af.dw (.p rfl) aa rfl aa rfl rfl (bs:=[bl aJ d z.bH s L]) bf (fun m hm hd=>A7 (bl.jG hT.hd hd hm)) ?_;rintro _ _ ⟨rfl,rfl⟩
 try simp only [an,aq,au]
 refine .quiet (.p rfl) rfl (fun _=>.neq rfl rfl)<|af.aN 36 rfl (by exact decide_eq_false ah) ?_;refine af.q 1 rfl<|aI.nil<|S.aQ rfl<|S.seq<|S.bB (L:=[0,1,2,4,5,3,6,7,8]) bA aa<|.quiet (.p rfl) rfl (fun _=>.fieldAddr vi rfl)<|.quiet (.p rfl) rfl (fun _=>.loadAt cv rfl (h4.drop 1) rfl) ?_;refine af.q 1 rfl<|.quiet (.p rfl) rfl (fun _=>.fieldAddr CF rfl)<|.quiet (.p rfl) rfl (fun _=>.loadAt bc rfl (h4.drop 3) rfl) ?_;refine af.aB (.p rfl) aa rfl aa rfl rfl ((Bb hn k1 hT.hH hT.hK ah)) ?_;rintro _ _ ⟨a41,wK,rfl,rfl⟩
 try simp only [an,aq,au]
 refine af.dw (.p rfl) aa rfl aa rfl rfl (bs:=[av ag.u8 5 (.slice a41 (ek x.2.1 xs).length wK) (ek x.2.1 xs)]) bf (fun m hm hd=>oS ((Sat.arr hm).mono (Fr.dL hd)) (bg.mono (Fr.de _ _))) ?_;rintro _ _ ⟨rfl,rfl⟩
 try simp only [an,aq,au]
 refine af.sT 44 rfl (by exact decide_eq_true (by rw [h3,h2])) ?_;refine .quiet (.p rfl) rfl (fun _=>.not rfl)<|af.q 1 rfl<|aI.nil<|S.aQ rfl<|S.skip<|S.inBlock<|S.seq<|S.region rfl<|O.q 1 rfl<|O.op (.p rfl) (.nilCheck rfl)<|O.op (.p rfl) (.aD tc rfl)<|O.bu rfl (.bn ji rfl rfl bq ai aW) ?_;refine O.nil<|S.seq<|S.cB (A:=cN aJ 89 d bh s L x.1 true W F n) (bs:=jV aJ 89 d z.k bh z.bH z.mp s L x.1 true n z.M z.c) bf (fun m h=>cN.fold z h) ?_;refine S.region rfl<|O.q 2 rfl<|O.aM (.p rfl) (.ct (T:=ag.cells 1) (ys:=[[.slice a5 xs.length dP]]) underlying109 iC aC rfl rfl ⟨⟨rfl,rfl,by first|(simp;done)|(intro v hv;simp [Value.cells] at hv;rcases hv with rfl|rfl<;>rfl)|(refine List.forall_mem_cons.2 ⟨rfl,?_⟩;repeat (first|exact (fun _ h=>absurd h List.not_mem_nil)|refine List.forall_mem_cons.2 ⟨rfl,?_⟩))⟩,trivial⟩ aC) ?_;rintro _ _ ⟨a51,y4,rfl,rfl⟩;refine O.fo ai fun g hs hm nE=>?_;replace hg:=Fr.aH hg hs;replace hR:=bp hR hm
 try replace hT:=hT.mono hs
 try replace h:=h.mono hs
 try replace hn:=hn.mono hs
 try replace bg:=bg.mono hs
 try replace h4:=h4.mono hs
 clear hs hm;refine O.aM (.p rfl) (.ct (T:=ag.str) (ys:=[[]]) underlying53 gY aC rfl rfl ⟨⟨rfl,by decide⟩,trivial⟩ aC) ?_;rintro _ _ ⟨kD,kE,rfl,rfl⟩;refine O.fo ai fun g hs hm qL=>?_;replace hg:=Fr.aH hg hs;replace hR:=bp hR hm
 try replace hT:=hT.mono hs
 try replace h:=h.mono hs
 try replace hn:=hn.mono hs
 try replace bg:=bg.mono hs
 try replace h4:=h4.mono hs
 try replace nE:=nE.mono hs
 clear hs hm;refine O.bM (.p rfl) rfl aa rfl rfl ai (KG hT (aj.kO (T:=ag.slice ag.u8) (xs:=[xs]) nE (⟨⟨_,rfl,hn⟩,trivial⟩) rfl) qL (by rw [List.map_cons,hF];rfl) bI b5 bI (by simpa using hw) bI ah) ?_;rintro _ _ ⟨a53,u5,rfl,rfl⟩
 try simp only [an,aq,au]
 refine O.q 2 rfl<|O.nil<|S.mW results53 rfl rfl fun w hw=>Holds.end_ hR hw ?_;exact pk ⟨a53,u5,rfl,rfl⟩
end Go.Proofs.YtojafegjlahajaaGreatDoor
