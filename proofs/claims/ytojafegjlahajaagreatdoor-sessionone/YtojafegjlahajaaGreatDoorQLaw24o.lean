/- Texts of this proof. -/
import Derived.Test.YtojafegjlahajaaGreatDoorQSes8
import Derived.Test.YtojafegjlahajaaGreatDoorQLaw12b
open Go Go.Sp Go.Proofs.Tryz
set_option maxRecDepth 100000
set_option maxHeartbeats 1000000
attribute [local irreducible] obj Own av
namespace Go.Proofs.YtojafegjlahajaaGreatDoor
attribute [local irreducible] cF bA fW
theorem Ej {g m:Fr} {e1 e2:TypeId} {v1 v2:Value} {xs:List UInt8} (hm:Sat [av ag.u8 e1 v1 xs,av (ag.cells 1) e2 v2 [[v1]]] m) (hd:g.cI m):aj (ag.slice ag.u8) (g.add m) v2 [xs]:=by
 obtain ⟨m1,m2,_,s1,s2,o1,m3,m4,_,s3,oh,o2,_⟩:=hm;exact (aj.j4 (T:=ag.slice ag.u8) (xs:=[xs]) (o2.arr.mono (Fr.aI s3 s2)) ⟨⟨_,rfl,o1.arr.mono s1⟩,trivial⟩ rfl).mono (Fr.dA hd)
theorem VC {s:Nat} {L:List aH} (h:gI s L) {p:List UInt8} {e:aH} (he:e∈dG p L):mL s p e.1=true:=by
 obtain ⟨h1,h2⟩:=List.mem_filter.1 he;unfold mL;rw [decide_eq_true (h.1 e h1).2,Bool.true_and];exact h2
theorem KC (L:List aH) (p:List UInt8):(cF L p).2.2.2.1=[]∨(cF L p).2.2.2.1=dG p L:=by
 unfold cF;exact Jd _ _ _
theorem KB (L:List aH) {p:List UInt8} (hp:p.length≤510):((cF L p).1=3→p.length<510)∧((cF L p).1=4→p.length=510):=by
 rcases Nat.lt_or_ge (dG p L).length 2 with q|q
 ·match e:dG p L with
  |[]=>rw [E2 e];exact ⟨fun h=>absurd (show (1:UInt8)=3 from h) zE,fun h=>absurd (show (1:UInt8)=4 from h) zE⟩
  |[x]=>rw [E3 e];exact ⟨fun h=>absurd (show (2:UInt8)=3 from h) zE,fun h=>absurd (show (2:UInt8)=4 from h) zE⟩
  |x::y::l=>rw [e] at q;simp at q;omega
 ·rcases Nat.lt_or_ge p.length 510 with u|u
  ·rw [E4 q u];exact ⟨fun _=>u,fun h=>absurd (show (3:UInt8)=4 from h) zE⟩
  ·have u:p.length=510:=by omega
   rw [KD q u];exact ⟨fun h=>absurd (show (4:UInt8)=3 from h) zE,fun _=>u⟩
theorem KG {s:Nat} {L:List aH} (h:gI s L) {p:List UInt8} (hp:p.length≤510):qm s p (bA L p) (cF L p):=by
 obtain ⟨aR,pP⟩:=KB L hp;refine ⟨AF h p,E5 L p,fun q=>by have:=aR q.1;omega,fun q=>q.2 (pP q.1),fun e he=>?_⟩
 rcases KC L p with q|q
 ·rw [q] at he;cases he
 ·rw [q] at he;exact VC h he
theorem AG {L:List aH} {p:List UInt8} (hp:p.length≤510) (h3:(cF L p).1=3):bA L (p++[48])=(cF L p).2.1∧bA L (p++[49])=(cF L p).2.2.1:=by
 have hl:=(KB L hp).1 h3
 rcases Nat.lt_or_ge (dG p L).length 2 with q|q
 ·match e:dG p L with
  |[]=>rw [E2 e] at h3;exact absurd (show (1:UInt8)=3 from h3) zE
  |[x]=>rw [E3 e] at h3;exact absurd (show (2:UInt8)=3 from h3) zE
  |x::y::l=>rw [e] at q;simp at q;omega
 ·rw [E4 q hl];exact ⟨rfl,rfl⟩
theorem UW (L:List aH):tV L []=bA L []:=by unfold tV;rw [if_pos ⟨by simp,fun c hc=>by cases hc⟩]
theorem FV (L:List aH) (F:List UInt8→List UInt8) (p q:List UInt8) (x:dJ) (h:q.length≤p.length):q ∉ jS L F p x:=fun hq=>by
 unfold jS at hq
 split at hq
 ·rcases KJ (FT.1 hq).1 with rfl|rfl
  ·rw [List.length_append] at h;exact absurd h bq
  ·rw [List.length_append] at h;exact absurd h bq
 ·cases hq
theorem U' {L:List aH} (h1:L.length≤1000) (h2:∀ y∈L,y.2.1.length≤1000) (p:List UInt8):(cF L p).2.2.2.1.length≤100000∧∀ y∈(cF L p).2.2.2.1,y.2.1.length≤100000:=by
 rcases KC L p with q|q
 ·rw [q];exact ⟨Nat.zero_le _,fun y hy=>by cases hy⟩
 ·rw [q]
  have:=(x7 p L).length_le;exact ⟨by omega,fun y hy=>by have:=h2 y ((List.mem_filter.1 hy).1);omega⟩
theorem JC (s:Nat) (l:List aH):gI s (if jo s l=0 then fW [] l else []):=by
 split
 ·rename_i q;exact gI.Ev (gI.nil s) (Eu.1 q)
 ·exact gI.nil s
theorem JA (s:Nat) {l:List aH} (h1:l.length≤20) (h2:∀ y∈l,y.2.1.length≤60):(if jo s l=0 then fW [] l else []).length≤20∧∀ y∈(if jo s l=0 then fW [] l else []),y.2.1.length≤60:=by
 have:=Ew l [];rw [List.length_nil] at this
 split
 ·exact ⟨by omega,JD l [] (fun _ h=>by cases h) h2⟩
 ·exact ⟨by simp,fun _ h=>by cases h⟩
theorem Bo {L:List aH} (h:L.length≤20∧∀ y∈L,y.2.1.length≤60):L.length≤10000000∧∀ y∈L,y.2.1.length≤10000000:=⟨by omega,fun y hy=>by have:=h.2 y hy;omega⟩
theorem TN {p:Int} {s:Nat} {t:List UInt8} (hp:1≤p∧p≤7) (hs:s<4) (ht:t.length=64):nD ((p,(s:Int),1,t,List.replicate 64 0,()):iV)=true :=
 xT.2 ⟨xV.2 ⟨hp.1,hp.2,by show (0:Int)≤s;omega,by show (s:Int)<4;omega,(by decide:(1:Int)≤1),(by decide:(1:Int)≤1073741824),ht⟩,List.length_replicate ..⟩
theorem Ln (L:List aH) (F:List UInt8→List UInt8) (p:List UInt8):dh L F [p]=[]∨dh L F [p]=[p]:=by
 unfold dh;rw [List.filter_cons];split
 ·exact .inr rfl
 ·exact .inl rfl
theorem UY (L:List aH):jJ L []=bA L []:=UW L
theorem M8 (xs:List UInt8):[xs].flatten=xs:=by simp
theorem vh {r m:Fr} {e:TypeId} {v:Value} {xs:List UInt8} (h:Sat [av ag.u8 e v xs] m) (hd:r.cI m):aj ag.u8 (r.add m) v xs:=(tH h).right hd
theorem R2 (L:List aH):k6 L []=cF L []:=by unfold k6;rw [if_pos ⟨by simp,fun c hc=>by cases hc⟩]
theorem Jj {f_:List (List UInt8)} (h:[] ∉ f_):([]:List UInt8) ∉ (([]++[[]]:List (List UInt8)).erase []++f_):=by simpa using h
set_option maxHeartbeats 800000 in
theorem Uk {r:Fr} {z:Int} {va kQ:Value} {l l2:List aH} {cs:List Value} {x:dJ} (hz:cE z) (ha:aj cq r va l) (hb:aj cq r kQ l2) (h:ga.rel r cs x) (hH:At r ⟨0,0,none⟩ (bQ ed)) (hK:At r ⟨1,0,none⟩ (bQ fZ)) :
  ay prog 9 #[.int .i64 z,va,kQ,.agg cs.toArray] r [] (aM fun v U=>v=.bool true∧U=[]):=by
 have h0:=h;obtain ⟨a1,c1,rfl⟩:=ha.shape;obtain ⟨a2,c2,rfl⟩:=hb.shape;obtain ⟨qV,qW,fE,qX,qY,fF,rfl,k1,k2,aR⟩:=ga.sh h;obtain ⟨s,hs,hs4⟩:=SK z (n:=4) zE;have hs' :pick z 4=(s:Int):=hs;refine ay.of (n:=212) _ rfl func9 rfl rfl rfl fun g hg R hR=>?_;have ha:=ha.mono hg;have hb:=hb.mono hg;have h0:=h0.mono hg;have k1:=k1.mono hg;have k2:=k2.mono hg;have aR:=aR.mono hg;have hH:=hH.mono hg;have hK:=hK.mono hg;refine S.seq<|S.region rfl<|O.aO (.p rfl) (.box (cs:=[_,_,_,_]) rfl rfl) ?_;rintro _ _ ⟨mW,rfl,rfl⟩;refine O.q 1 rfl<|O.nil<|S.seq<|S.seq<|S.c7 (b:=mW) (cs' :=[bH x.1,.slice qV x.2.1.length qX,.slice qW x.2.2.1.length qY,.slice fE x.2.2.2.1.length fF]) ai rfl ?_;refine S.cV ai fun g hs hm h7=>?_;replace hg:=Fr.aI hg hs;replace hR:=bt hR hm
 try replace ha:=ha.mono hs
 try replace hb:=hb.mono hs
 try replace h0:=h0.mono hs
 try replace k1:=k1.mono hs
 try replace k2:=k2.mono hs
 try replace aR:=aR.mono hs
 try replace hH:=hH.mono hs
 try replace hK:=hK.mono hs
 clear hs hm;refine S.region rfl<|O.aC (.p rfl) rfl aa rfl rfl ((Lq hH hK)) ?_;rintro _ _ ⟨rfl,rfl⟩
 try simp only [an,aq,au]
 refine O.sT 34 rfl aG ?_;refine O.op (.p rfl) (.not rfl)<|O.nil<|S.aP rfl<|S.skip<|S.seq<|S.seq<|S.region rfl<|O.q 1 rfl<|O.aC (.p rfl) rfl aa rfl rfl ((DZ ha)) ?_;rintro _ _ ⟨Ye,OD,rfl,rfl⟩
 try simp only [an,aq,au]
 refine O.op (.p rfl) ((by first|exact .k7 rfl|exact .not rfl)) ?_;refine O.q 1 rfl ?_
 first|refine O.dV 39 rfl (fun rD=>?_) (fun rD=>?_)|refine O.dF 39 rfl (fun rD=>?_) (fun rD=>?_)
 ·refine O.q 22 rfl<|O.nil<|S.bC rfl<|S.seq<|S.region rfl<|O.q 1 rfl<|O.nil ?_
  exact S.rt results9 rfl hR ⟨rfl,rfl⟩
 ·refine O.q 1 rfl<|O.aC (.g rfl rfl) rfl aa rfl rfl ((DZ hb)) ?_
  rintro _ _ ⟨vg,OE,rfl,rfl⟩
  try simp only [an,aq,au]
  refine O.op (.g rfl rfl) ((by first|exact .k7 rfl|exact .not rfl)) ?_;refine O.q 2 rfl ?_
  first|refine O.dV 44 rfl (fun rE=>?_) (fun rE=>?_)|refine O.dF 44 rfl (fun rE=>?_) (fun rE=>?_)
  ·refine O.q 17 rfl<|O.nil<|S.bC rfl<|S.seq<|S.region rfl<|O.q 1 rfl<|O.nil ?_
   exact S.rt results9 rfl hR ⟨rfl,rfl⟩
  ·refine O.op (.g rfl rfl) (.fieldAddr mo rfl)<|O.op (.g rfl rfl) (.loadAt dO rfl (h7.drop 3) rfl) ?_
   refine O.aC (.g rfl rfl) rfl aa rfl rfl ((DZ aR)) ?_;rintro _ _ ⟨Yf,OF,rfl,rfl⟩
   try simp only [an,aq,au]
   refine O.op (.g rfl rfl) ((by first|exact .k7 rfl|exact .not rfl)) ?_;refine O.q 2 rfl ?_
   first|refine O.dV 50 rfl (fun h50=>?_) (fun h50=>?_)|refine O.dF 50 rfl (fun h50=>?_) (fun h50=>?_)
   ·refine O.q 11 rfl<|O.nil<|S.bC rfl<|S.seq<|S.region rfl<|O.q 1 rfl<|O.nil ?_
    exact S.rt results9 rfl hR ⟨rfl,rfl⟩
   ·refine O.op (.g rfl rfl) (.fieldAddr mj rfl)<|O.op (.g rfl rfl) (.loadAt bg rfl (h7.drop 1) rfl) ?_
    refine O.op (.g rfl rfl) (.len rfl underlying24 rfl)<|O.op (.g rfl rfl) (.gtr rfl rfl)<|O.q 2 rfl ?_
    first|refine O.dV 56 rfl (fun y7=>?_) (fun y7=>?_)|refine O.dF 56 rfl (fun y7=>?_) (fun y7=>?_)
    ·refine O.q 5 rfl<|O.nil<|S.bC rfl<|S.seq<|S.region rfl<|O.q 1 rfl<|O.nil ?_
     exact S.rt results9 rfl hR ⟨rfl,rfl⟩
    ·refine O.op (.g rfl rfl) (.fieldAddr mm rfl)<|O.op (.g rfl rfl) (.loadAt bg rfl (h7.drop 2) rfl) ?_
     refine O.op (.g rfl rfl) (.len rfl underlying24 rfl)<|O.op (.g rfl rfl) (.gtr rfl rfl)<|O.q 1 rfl<|O.nil ?_
     first|refine S.ct rfl (fun nT=>?_) (fun nT=>?_)|refine S.cm rfl (fun nT=>?_) (fun nT=>?_)
     ·refine S.seq<|S.region rfl<|O.q 1 rfl<|O.nil ?_
      exact S.rt results9 rfl hR ⟨rfl,rfl⟩
     ·obtain ⟨rI,_,HO⟩:=OD (by simpa using rD)
      obtain ⟨zq,_,HV⟩:=OE (by simpa using rE);obtain ⟨hq1,_,Dq⟩:=OF (by simpa using h50);have g1:x.2.1.length≤100:=by have:=y7;simp at this;omega
      have g2:x.2.2.1.length≤100:=by have:=nT;simp at this;omega
      have fD:∀ y∈l,y.2.1.length≤10000000:=fun y hy=>by have:=(HO y hy).2.1;omega
      have cR:∀ y∈l2,y.2.1.length≤10000000:=fun y hy=>by have:=(HV y hy).2.1;omega
      have hx0:x.2.1.length≤1000000000000∧x.2.2.1.length≤1000000000000:=⟨by omega,by omega⟩;have pM:x.2.2.2.1.length≤10000000∧∀ y∈x.2.2.2.1,y.2.1.length≤10000000:=⟨by omega,fun y hy=>by have:=(Dq y hy).2.1;omega⟩;have hT:gH g.h Fr.emp s []:=⟨Fr.c4 _,gI.nil s,⟨by simp,fun _ h=>by cases h⟩,hH,hK⟩;have y8:=JC s l;have Hh:=JA s rI fun y hy=>(HO y hy).2.1;have uL:=JC s l2;have y9:=JA s zq fun y hy=>(HV y hy).2.1;refine S.skip<|S.seq<|S.region rfl<|O.q 1 rfl<|O.aC (.p rfl) rfl aa rfl rfl ((K7 _ _ (by constructor<;>decide))) ?_;rintro _ _ ⟨rfl,rfl⟩
      try simp only [an,aq,au]
      refine O.slot 63 (v' :=.int .i64 (s:Int)) rfl (by rw [hs']) ?_;refine O.q 1 rfl<|O.nil<|S.seq<|S.region rfl<|O.q 1 rfl<|O.aC (.p rfl) rfl aa rfl rfl ((Ja hs4)) ?_;rintro _ _ ⟨kG,rfl,rfl⟩
      try simp only [an,aq,au]
      refine O.q 1 rfl<|O.aC (.p rfl) rfl aa rfl rfl ((Ja hs4)) ?_;rintro _ _ ⟨q9,rfl,rfl⟩
      try simp only [an,aq,au]
      refine O.q 2 rfl<|O.nil<|S.seq<|S.region rfl<|O.q 2 rfl<|O.bD (.p rfl) rfl aa rfl rfl ai (Kx (b:=kG) hT ha bX fD) ?_;rintro _ _ ⟨rfl,rfl⟩
      try simp only [an,aq,au]
      refine O.nil<|S.seq<|S.region rfl<|O.q 2 rfl<|O.bD (.p rfl) rfl aa rfl rfl ai (Kx (b:=q9) hT hb bX cR) ?_;rintro _ _ ⟨rfl,rfl⟩
      try simp only [an,aq,au]
      refine O.nil (S.seq ?_);generalize (if jo s l=0 then fW [] l else [])=nH at y8 Hh ⊢;generalize (if jo s l2=0 then fW [] l2 else [])=b9 at uL y9 ⊢;have iM:gH g.h Fr.emp s b9:=⟨Fr.c4 _,uL,Bo y9,hH,hK⟩;refine S.open (bs:=fun k:Fr=>[jt k,dS aJ Fr.emp k kG s nH]) ai (fun m x=>x) fun k=>?_;simp only [List.cons_append,List.nil_append];refine S.eC (A:=jt k) ai fun g hs hm ⟨_,x',s'⟩=>?_;have hk:=Iy s' x';clear x' s';replace hg:=Fr.aI hg hs;replace hR:=bt hR hm
      try replace ha:=ha.mono hs
      try replace hb:=hb.mono hs
      try replace h0:=h0.mono hs
      try replace k1:=k1.mono hs
      try replace k2:=k2.mono hs
      try replace aR:=aR.mono hs
      try replace hH:=hH.mono hs
      try replace hK:=hK.mono hs
      try replace h7:=h7.mono hs
      try replace hT:=hT.mono hs
      try replace iM:=iM.mono hs
      clear hs hm;obtain ⟨e,he⟩:∃ e:Fr,e=g.h:=⟨_,rfl⟩;have jB:gH g.h e s nH:=⟨he ▸ Fr.bW _,y8,Bo Hh,hH,hK⟩;refine S.cg (A:=dS aJ e Fr.emp kG s nH) (bs:=[dS aJ Fr.emp k kG s nH]) aV (fun m h=>KF (Fr.c4 _) (he ▸ hk) h) ?_;refine S.region rfl<|O.q 1 rfl<|O.bD (.p rfl) rfl aa rfl rfl ai (EO (peer:=3) (tD:=1) jB hs4 zE zE) ?_;rintro _ _ ⟨aS,rfl,rfl⟩
      try simp only [an,aq,au]
      refine O.q 1 rfl<|O.nil<|S.seq<|S.cg (A:=bN aJ 89 e aS s nH 3 false [] (bA b9) 0) (bs:=[fq e aS s nH 3 false]) aV (fun m h=>SQ _ h) ?_;have sV:(bA b9 []).length=64:=qT uL [];have xe:dw (s:Int) (bA b9 [])=gY (4::Sp.byteOf (s:Int)::bA b9 []):=by unfold dw;rw [if_pos ⟨by omega,by omega,sV⟩]
      have jl:(dw (s:Int) (bA b9 [])).length=64:=by rw [xe,o9]
      have xa:=UY b9;have hfl:=M8 (bA b9 []);have WR:=o9 (bA b9 []);have hzs:cE (s:Int):=⟨by omega,by omega⟩;refine S.region rfl<|O.q 1 rfl<|O.op (.p rfl) (.build (cs:=[_,_,_,_]) underlying27 rfl rfl rfl rfl rfl)<|O.bD (.p rfl) rfl aa rfl rfl ai (EP (x:=(1,[],[],[],())) zE (show ga.rel _ [.int .u8 1,.slice none 0 0,.slice none 0 0,.slice none 0 0] (1,[],[],[],()) from ga.mk (x0:=1) aj.nil aj.nil aj.nil) bq) ?_;rintro _ _ ⟨rfl,rfl⟩
      try simp only [an,aq,au]
      refine O.q 7 rfl<|O.nil<|S.seq<|S.region rfl<|O.q 2 rfl<|O.bD (.p rfl) rfl aa rfl rfl ai (EZ (b:=q9) iM hs4) ?_;rintro _ _ ⟨a85,Gh,rfl,rfl⟩
      try simp only [an,aq,au]
      refine O.fB ai fun g hs hm lI=>?_;replace hg:=Fr.aI hg hs;replace hR:=bt hR hm
      try replace ha:=ha.mono hs
      try replace hb:=hb.mono hs
      try replace h0:=h0.mono hs
      try replace k1:=k1.mono hs
      try replace k2:=k2.mono hs
      try replace aR:=aR.mono hs
      try replace hH:=hH.mono hs
      try replace hK:=hK.mono hs
      try replace h7:=h7.mono hs
      try replace hT:=hT.mono hs
      try replace iM:=iM.mono hs
      try replace hk:=hk.mono hs
      try replace jB:=jB.mono hs
      clear hs hm;refine O.aC (.p rfl) rfl aa rfl rfl ((Eh)) ?_;rintro _ _ ⟨gb,gi,rfl,rfl⟩
      try simp only [an,aq,au]
      refine O.fB ai fun g hs hm oN=>?_;replace hg:=Fr.aI hg hs;replace hR:=bt hR hm
      try replace ha:=ha.mono hs
      try replace hb:=hb.mono hs
      try replace h0:=h0.mono hs
      try replace k1:=k1.mono hs
      try replace k2:=k2.mono hs
      try replace aR:=aR.mono hs
      try replace hH:=hH.mono hs
      try replace hK:=hK.mono hs
      try replace h7:=h7.mono hs
      try replace hT:=hT.mono hs
      try replace iM:=iM.mono hs
      try replace hk:=hk.mono hs
      try replace jB:=jB.mono hs
      try replace lI:=lI.mono hs
      clear hs hm;refine O.aO (.p rfl) (.alloc (cs:=[.int .i64 0,.int .i64 0,.int .i64 0,.slice none 0 0,.slice none 0 0]) zeroValue81 rfl) ?_;rintro _ _ ⟨Ls,rfl,rfl⟩;refine O.bw rfl (.cZ aa rfl rfl rfl rfl ai aT) ?_;refine O.nil<|S.seq<|S.seq<|S.c7 (b:=Ls) (cs' :=[.int .i64 3,.int .i64 (s:Int),.int .i64 1,.slice a85 64 Gh,.slice gb 64 gi]) ai rfl ?_;refine S.cV ai fun g hs hm e7=>?_;replace hg:=Fr.aI hg hs;replace hR:=bt hR hm
      try replace ha:=ha.mono hs
      try replace hb:=hb.mono hs
      try replace h0:=h0.mono hs
      try replace k1:=k1.mono hs
      try replace k2:=k2.mono hs
      try replace aR:=aR.mono hs
      try replace hH:=hH.mono hs
      try replace hK:=hK.mono hs
      try replace h7:=h7.mono hs
      try replace hT:=hT.mono hs
      try replace iM:=iM.mono hs
      try replace hk:=hk.mono hs
      try replace jB:=jB.mono hs
      try replace lI:=lI.mono hs
      try replace oN:=oN.mono hs
      clear hs hm;have hr:gq.rel g.h [.int .i64 3,.int .i64 (s:Int),.int .i64 1,.slice a85 64 Gh,.slice gb 64 gi] ((3,(s:Int),1,dw (s:Int) (bA b9 []),List.replicate 64 0,()):iV):=gq.mk ⟨by decide,by decide⟩ ⟨by omega,by omega⟩ ⟨by decide,by decide⟩ lI oN;have H9:nD ((3,(s:Int),1,dw (s:Int) (bA b9 []),List.replicate 64 0,()):iV)=true:=TN zE hs4 jl
      by_cases qe:dw (s:Int) (gY (bA b9 []))=dw (s:Int) (bA b9 [])
      ·
       refine S.bB (L:=[0,1,6,7,2,3,4,5,8]) bx aa ?_;refine af.q 2 rfl<|.quiet (.p rfl) rfl (fun _=>.fieldAddr uH rfl)<|.quiet (.p rfl) rfl (fun _=>.loadAt bg rfl (e7.drop 3) rfl) ?_;refine af.bD (.p rfl) aa rfl aa rfl rfl ai (pX (b:=q9) (p:=[]) iM bq) ?_;rintro _ _ ⟨eo,ep,rfl,rfl⟩
       try simp only [an,aq,au]
       rw [xa];refine af.cn (.p rfl) aa (T:=ag.cells 1) (ys:=[[.slice eo (bA b9 []).length ep]]) underlying109 gr zE rfl rfl ⟨⟨rfl,rfl,by first|(simp;done)|(intro v hv;simp [Value.cells] at hv;rcases hv with rfl|rfl<;>rfl)|(refine List.forall_mem_cons.2 ⟨rfl,?_⟩;repeat (first|exact (fun _ h=>absurd h List.not_mem_nil)|refine List.forall_mem_cons.2 ⟨rfl,?_⟩))⟩,trivial⟩ zE (fun Bg BA=>?_);refine af.cU (.p rfl) aa rfl aa rfl rfl (bs:=[av ag.u8 5 (.slice eo (bA b9 []).length ep) (bA b9 []),av (ag.cells 1) 24 (.slice Bg 1 BA) [[.slice eo (bA b9 []).length ep]]]) aV (fun m hm hd=>r_ (ps:=[bA b9 []]) (Ej hm hd) (hH.mono (Fr.cw _ _)) (hK.mono (Fr.cw _ _)) bX) ?_;rintro _ _ ⟨a91,BB,rfl,rfl⟩
       try simp only [an,aq,au]
       rw [hfl];refine af.cU (.p rfl) aa rfl aa rfl rfl (bs:=[av ag.u8 5 (.slice a91 64 BB) (gY (bA b9 []))]) aV (fun m hm hd=>tW (vh hm hd) hzs (hH.mono (Fr.cw _ _)) (hK.mono (Fr.cw _ _)) ah) ?_;rintro _ _ ⟨e3,e4,rfl,rfl⟩
       try simp only [an,aq,au]
       refine af.cU (.p rfl) aa rfl aa rfl rfl (bs:=[av ag.u8 5 (.slice e3 (dw (s:Int) (gY (bA b9 []))).length e4) (dw (s:Int) (gY (bA b9 [])))]) aV (fun m hm hd=>yg (vh hm hd) (lI.mono (Fr.cw _ _))) ?_;rintro _ _ ⟨rfl,rfl⟩
       try simp only [an,aq,au]
       refine af.sT 95 rfl (by exact decide_eq_true qe) ?_;refine aK.nil<|S.bC rfl<|S.seq<|S.region rfl<|O.q 1 rfl<|O.nil ?_;exact S.rt results9 rfl hR ⟨rfl,rfl⟩
      ·
       refine S.bB (L:=[0,1,6,7,2,3,4,5,8]) bx aa ?_;refine af.q 2 rfl<|.quiet (.p rfl) rfl (fun _=>.fieldAddr uH rfl)<|.quiet (.p rfl) rfl (fun _=>.loadAt bg rfl (e7.drop 3) rfl) ?_;refine af.bD (.p rfl) aa rfl aa rfl rfl ai (pX (b:=q9) (p:=[]) iM bq) ?_;rintro _ _ ⟨eo,ep,rfl,rfl⟩
       try simp only [an,aq,au]
       rw [xa];refine af.cn (.p rfl) aa (T:=ag.cells 1) (ys:=[[.slice eo (bA b9 []).length ep]]) underlying109 gr zE rfl rfl ⟨⟨rfl,rfl,by first|(simp;done)|(intro v hv;simp [Value.cells] at hv;rcases hv with rfl|rfl<;>rfl)|(refine List.forall_mem_cons.2 ⟨rfl,?_⟩;repeat (first|exact (fun _ h=>absurd h List.not_mem_nil)|refine List.forall_mem_cons.2 ⟨rfl,?_⟩))⟩,trivial⟩ zE (fun Bg BA=>?_);refine af.cU (.p rfl) aa rfl aa rfl rfl (bs:=[av ag.u8 5 (.slice eo (bA b9 []).length ep) (bA b9 []),av (ag.cells 1) 24 (.slice Bg 1 BA) [[.slice eo (bA b9 []).length ep]]]) aV (fun m hm hd=>r_ (ps:=[bA b9 []]) (Ej hm hd) (hH.mono (Fr.cw _ _)) (hK.mono (Fr.cw _ _)) bX) ?_;rintro _ _ ⟨a91,BB,rfl,rfl⟩
       try simp only [an,aq,au]
       rw [hfl];refine af.cU (.p rfl) aa rfl aa rfl rfl (bs:=[av ag.u8 5 (.slice a91 64 BB) (gY (bA b9 []))]) aV (fun m hm hd=>tW (vh hm hd) hzs (hH.mono (Fr.cw _ _)) (hK.mono (Fr.cw _ _)) ah) ?_;rintro _ _ ⟨e3,e4,rfl,rfl⟩
       try simp only [an,aq,au]
       refine af.cU (.p rfl) aa rfl aa rfl rfl (bs:=[av ag.u8 5 (.slice e3 (dw (s:Int) (gY (bA b9 []))).length e4) (dw (s:Int) (gY (bA b9 [])))]) aV (fun m hm hd=>yg (vh hm hd) (lI.mono (Fr.cw _ _))) ?_;rintro _ _ ⟨rfl,rfl⟩
       try simp only [an,aq,au]
       refine af.aL 95 rfl (by exact decide_eq_false qe) ?_;refine aK.nil<|S.aP rfl<|S.skip<|S.seq<|S.bB (L:=[0,1,2,3,4,5,6,7,8,9,10,11]) bx aa<|af.q 1 rfl<|.quiet (.p rfl) rfl (fun _=>.bI isAgg81 aa rfl e7) ?_;refine af.q 1 rfl<|af.bD (.p rfl) aa rfl aa rfl rfl ai (pX (b:=q9) (p:=[]) iM bq) ?_;rintro _ _ ⟨Bc,Bp,rfl,rfl⟩
       try simp only [an,aq,au]
       rw [xa];refine af.cn (.p rfl) aa (T:=ag.cells 1) (ys:=[[.slice Bc (bA b9 []).length Bp]]) underlying109 gr zE rfl rfl ⟨⟨rfl,rfl,by first|(simp;done)|(intro v hv;simp [Value.cells] at hv;rcases hv with rfl|rfl<;>rfl)|(refine List.forall_mem_cons.2 ⟨rfl,?_⟩;repeat (first|exact (fun _ h=>absurd h List.not_mem_nil)|refine List.forall_mem_cons.2 ⟨rfl,?_⟩))⟩,trivial⟩ zE (fun K9 LR=>?_);refine af.cU (.p rfl) aa rfl aa rfl rfl (bs:=[av ag.u8 5 (.slice Bc (bA b9 []).length Bp) (bA b9 []),av (ag.cells 1) 24 (.slice K9 1 LR) [[.slice Bc (bA b9 []).length Bp]]]) aV (fun m hm hd=>r_ (ps:=[bA b9 []]) (Ej hm hd) (hH.mono (Fr.cw _ _)) (hK.mono (Fr.cw _ _)) bX) ?_;rintro _ _ ⟨FH,Ge,rfl,rfl⟩
       try simp only [an,aq,au]
       rw [hfl];refine af.eL (.p rfl) aa rfl aa rfl rfl (bs:=[bN aJ 89 e aS s nH 3 false [] (bA b9) 0,av ag.u8 5 (.slice FH 64 Ge) (gY (bA b9 []))]) aV (ay.tv (U:=[bN aJ 89 e aS s nH 3 false [] (bA b9) 0]) (bs:=[av ag.u8 5 (.slice FH 64 Ge) (gY (bA b9 []))]) (fun m hm hd=>T9 (jB.mono (Fr.cw _ _)) hs4 (ag.rel.mono hr (Fr.cw _ _)) H9 rfl (vh hm hd) ah qe)) ?_;rintro _ _ ⟨rfl,rfl⟩
       try simp only [an,aq,au]
       refine af.q 5 rfl<|aK.nil<|S.seq<|S.bB (L:=[0,1,2,3,4,5,6,7,8,9]) bx aa<|af.q 1 rfl<|.quiet (.p rfl) rfl (fun _=>.bI isAgg81 aa rfl e7) ?_;refine af.q 1 rfl<|af.bD (.p rfl) aa rfl aa rfl rfl ai (pX (b:=q9) (p:=[]) iM bq) ?_;rintro _ _ ⟨FI,Gf,rfl,rfl⟩
       try simp only [an,aq,au]
       rw [xa];refine af.eL (.p rfl) aa rfl aa rfl rfl (bs:=[bN aJ 89 e aS s nH 3 false [] (bA b9) 0,av ag.u8 5 (.slice FI (bA b9 []).length Gf) (bA b9 [])]) aV (ay.tv (U:=[bN aJ 89 e aS s nH 3 false [] (bA b9) 0]) (bs:=[av ag.u8 5 (.slice FI (bA b9 []).length Gf) (bA b9 [])]) (fun m hm hd=>T' (jB.mono (Fr.cw _ _)) hs4 (ag.rel.mono hr (Fr.cw _ _)) H9 rfl (vh hm hd) sV rfl rfl bq ah)) ?_;rintro _ _ ⟨V9,Wf,rfl,rfl⟩
       try simp only [an,aq,au]
       refine af.q 5 rfl<|aK.nil<|S.seq<|S.bB (L:=[0,1,2,3,4,5,6,7,8,9]) bx aa<|af.q 1 rfl<|.quiet (.p rfl) rfl (fun _=>.bI isAgg81 aa rfl e7) ?_;refine af.q 1 rfl<|af.bD (.p rfl) aa rfl aa rfl rfl ai (pX (b:=q9) (p:=[]) iM bq) ?_;rintro _ _ ⟨V_,Wg,rfl,rfl⟩
       try simp only [an,aq,au]
       rw [xa];refine af.bD (.p rfl) aa rfl aa rfl rfl ai (T8 (peer:=3) hr zE ⟨_,_,_,rfl⟩) ?_;rintro _ _ ⟨rfl,rfl⟩
       try simp only [an,aq,au]
       refine af.q 5 rfl<|aK.nil (S.seq (S.seq ?_))
       rcases Ln nH (bA b9) [] with CB|CB
       ·rw [CB]
        refine S.region rfl<|O.q 1 rfl<|O.op (.p rfl) (.neq rfl rfl)<|O.aL 123 rfl aG ?_;refine O.q 2 rfl<|O.op (.g rfl rfl) (.neq rfl rfl)<|O.aL 126 rfl aG ?_;refine O.q 3 rfl<|O.op (.g rfl rfl) (.neq rfl rfl)<|O.aL 130 rfl aG ?_;refine O.q 3 rfl<|O.op (.g rfl rfl) (.neq rfl rfl)<|O.aL 134 rfl aG ?_;refine O.q 3 rfl<|O.op (.g rfl rfl) (.len rfl underlying53 rfl)<|O.op (.g rfl rfl) (.gtr rfl rfl)<|O.aL 139 rfl aG ?_;refine O.q 3 rfl<|O.bD (.g rfl rfl) rfl aa rfl rfl ai (EN zE) ?_;rintro _ _ ⟨rfl,rfl⟩
        try simp only [an,aq,au]
        refine O.q 1 rfl<|O.op (.g rfl rfl) (.len rfl underlying53 rfl)<|O.op (.g rfl rfl) (.eql rfl rfl)<|O.op (.g rfl rfl) (.I9 underlying4 rfl rfl)<|O.aL 147 rfl aG ?_;refine O.q 1 rfl<|O.nil<|S.aP rfl<|S.skip<|S.seq<|S.seq<|S.region rfl<|O.q 1 rfl<|O.op (.p rfl) (.len rfl underlying53 rfl)<|O.op (.p rfl) (.eql rfl rfl)<|O.sT 151 rfl aG ?_;refine O.nil<|S.bC rfl<|S.seq<|S.region rfl<|O.q 1 rfl<|O.bD (.p rfl) rfl aa rfl rfl ai (Av zE) ?_;rintro _ _ ⟨rfl,rfl⟩
        try simp only [an,aq,au]
        refine O.op (.p rfl) (.eql rfl rfl)<|O.sT 154 rfl aG ?_;refine O.q 1 rfl<|O.nil ?_;exact S.rt results9 rfl hR ⟨rfl,rfl⟩
       ·rw [CB]
        refine S.region rfl<|O.q 1 rfl<|O.op (.p rfl) (.neq rfl rfl)<|O.aL 123 rfl aG ?_;refine O.q 2 rfl<|O.op (.g rfl rfl) (.neq rfl rfl)<|O.aL 126 rfl aG ?_;refine O.q 3 rfl<|O.op (.g rfl rfl) (.neq rfl rfl)<|O.aL 130 rfl aG ?_;refine O.q 3 rfl<|O.op (.g rfl rfl) (.neq rfl rfl)<|O.aL 134 rfl aG ?_;refine O.q 3 rfl<|O.op (.g rfl rfl) (.len rfl underlying53 rfl)<|O.op (.g rfl rfl) (.gtr rfl rfl)<|O.aL 139 rfl aG ?_;refine O.q 3 rfl<|O.bD (.g rfl rfl) rfl aa rfl rfl ai (EN zE) ?_;rintro _ _ ⟨rfl,rfl⟩
        try simp only [an,aq,au]
        refine O.q 1 rfl<|O.op (.g rfl rfl) (.len rfl underlying53 rfl)<|O.op (.g rfl rfl) (.eql rfl rfl)<|O.op (.g rfl rfl) (.I9 underlying4 rfl rfl)<|O.aL 147 rfl aG ?_;refine O.q 1 rfl<|O.nil<|S.aP rfl<|S.skip<|S.seq<|S.seq<|S.region rfl<|O.q 1 rfl<|O.op (.p rfl) (.len rfl underlying53 rfl)<|O.op (.p rfl) (.eql rfl rfl)<|O.aL 151 rfl aG ?_;refine O.nil<|S.aP rfl<|S.skip<|S.seq<|S.region rfl<|O.q 1 rfl<|O.bD (.p rfl) rfl aa rfl rfl ai (U3 (b:=q9) (p:=[]) iM bq) ?_;rintro _ _ ⟨q1,d1,q2,d2,cH,d3,rfl,rfl⟩
        try simp only [an,aq,au]
        rw [R2];refine O.q 3 rfl<|O.aO (.p rfl) (.alloc (cs:=[.int .u8 0,.slice none 0 0,.slice none 0 0,.slice none 0 0]) zeroValue27 rfl) ?_;rintro _ _ ⟨Lt,rfl,rfl⟩;refine O.bw rfl (.cZ aa rfl rfl rfl rfl ai aT) ?_;refine O.q 1 rfl<|O.nil<|S.seq<|S.seq<|S.c7 (b:=Lt) (cs' :=[bH (cF b9 []).1,.slice q1 (cF b9 []).2.1.length d1,.slice q2 (cF b9 []).2.2.1.length d2,.slice cH (cF b9 []).2.2.2.1.length d3]) ai rfl ?_;refine S.cV ai fun g hs hm h23=>?_;replace hg:=Fr.aI hg hs;replace hR:=bt hR hm
        try replace ha:=ha.mono hs
        try replace hb:=hb.mono hs
        try replace h0:=h0.mono hs
        try replace k1:=k1.mono hs
        try replace k2:=k2.mono hs
        try replace aR:=aR.mono hs
        try replace hH:=hH.mono hs
        try replace hK:=hK.mono hs
        try replace h7:=h7.mono hs
        try replace hT:=hT.mono hs
        try replace iM:=iM.mono hs
        try replace hk:=hk.mono hs
        try replace jB:=jB.mono hs
        try replace lI:=lI.mono hs
        try replace oN:=oN.mono hs
        try replace e7:=e7.mono hs
        try replace hr:=hr.mono hs
        clear hs hm;refine S.eC (A:=av ag.u8 5 (.slice q1 (cF b9 []).2.1.length d1) (cF b9 []).2.1) ai fun g hs hm ⟨_,x',s'⟩=>?_;have uV:=(fun s x=>aj.mono s (av.arr x)) s' x';clear x' s';replace hg:=Fr.aI hg hs;replace hR:=bt hR hm
        try replace ha:=ha.mono hs
        try replace hb:=hb.mono hs
        try replace h0:=h0.mono hs
        try replace k1:=k1.mono hs
        try replace k2:=k2.mono hs
        try replace aR:=aR.mono hs
        try replace hH:=hH.mono hs
        try replace hK:=hK.mono hs
        try replace h7:=h7.mono hs
        try replace hT:=hT.mono hs
        try replace iM:=iM.mono hs
        try replace hk:=hk.mono hs
        try replace jB:=jB.mono hs
        try replace lI:=lI.mono hs
        try replace oN:=oN.mono hs
        try replace e7:=e7.mono hs
        try replace hr:=hr.mono hs
        try replace h23:=h23.mono hs
        clear hs hm;refine S.eC (A:=av ag.u8 5 (.slice q2 (cF b9 []).2.2.1.length d2) (cF b9 []).2.2.1) ai fun g hs hm ⟨_,x',s'⟩=>?_;have hn2:=(fun s x=>aj.mono s (av.arr x)) s' x';clear x' s';replace hg:=Fr.aI hg hs;replace hR:=bt hR hm
        try replace ha:=ha.mono hs
        try replace hb:=hb.mono hs
        try replace h0:=h0.mono hs
        try replace k1:=k1.mono hs
        try replace k2:=k2.mono hs
        try replace aR:=aR.mono hs
        try replace hH:=hH.mono hs
        try replace hK:=hK.mono hs
        try replace h7:=h7.mono hs
        try replace hT:=hT.mono hs
        try replace iM:=iM.mono hs
        try replace hk:=hk.mono hs
        try replace jB:=jB.mono hs
        try replace lI:=lI.mono hs
        try replace oN:=oN.mono hs
        try replace e7:=e7.mono hs
        try replace hr:=hr.mono hs
        try replace h23:=h23.mono hs
        try replace uV:=uV.mono hs
        clear hs hm;refine S.eC (A:=c_ (ef cS) 31 (.slice cH (cF b9 []).2.2.2.1.length d3) (cF b9 []).2.2.2.1) ai fun g hs hm ⟨_,x',s'⟩=>?_;have C8:=(fun s x=>(c_.arr x).mono s) s' x';clear x' s';replace hg:=Fr.aI hg hs;replace hR:=bt hR hm
        try replace ha:=ha.mono hs
        try replace hb:=hb.mono hs
        try replace h0:=h0.mono hs
        try replace k1:=k1.mono hs
        try replace k2:=k2.mono hs
        try replace aR:=aR.mono hs
        try replace hH:=hH.mono hs
        try replace hK:=hK.mono hs
        try replace h7:=h7.mono hs
        try replace hT:=hT.mono hs
        try replace iM:=iM.mono hs
        try replace hk:=hk.mono hs
        try replace jB:=jB.mono hs
        try replace lI:=lI.mono hs
        try replace oN:=oN.mono hs
        try replace e7:=e7.mono hs
        try replace hr:=hr.mono hs
        try replace h23:=h23.mono hs
        try replace uV:=uV.mono hs
        try replace hn2:=hn2.mono hs
        clear hs hm;have uW:ga.rel g.h [bH (cF b9 []).1,.slice q1 (cF b9 []).2.1.length d1,.slice q2 (cF b9 []).2.2.1.length d2,.slice cH (cF b9 []).2.2.2.1.length d3] (cF b9 []):=ga.mk uV hn2 C8;have HT:=U' (p:=[]) (L:=b9) ah (fun y hy=>by have:=y9.2 y hy;omega);have HS:=D_ (AF uL []);have hnb:(cF b9 []).2.2.2.1.length≤10000000∧∀ y∈(cF b9 []).2.2.2.1,y.2.1.length≤10000000:=KE (Bo y9) [];have Ib:=E5 b9 [];have h2:=FU nH (bA b9) [] (cF b9 [])
        by_cases jq:fV x=bA b9 []
        ·
         refine S.bB (L:=[0,2,1,3,4,5]) bx aa ?_;refine .quiet (.p rfl) rfl (fun _=>.bI isAgg27 aa rfl h7) ?_;refine .quiet (.p rfl) rfl (fun _=>.bI isAgg27 aa rfl h23) ?_;refine af.aC (.p rfl) aa rfl aa rfl rfl ((vb h0 hx0 pM hH hK)) ?_;rintro _ _ ⟨Bd,Bq,rfl,rfl⟩
         try simp only [an,aq,au]
         refine af.aC (.p rfl) aa rfl aa rfl rfl ((vb uW HS hnb hH hK)) ?_;rintro _ _ ⟨Be,Br,rfl,rfl⟩
         try simp only [an,aq,au]
         rw [Ib];refine af.cU (.p rfl) aa rfl aa rfl rfl (bs:=[av ag.u8 5 (.slice Bd (fV x).length Bq) (fV x),av ag.u8 5 (.slice Be (bA b9 []).length Br) (bA b9 [])]) aV (fun m hm hd=>yg (hm.arr.right hd) (hm.tail.arr.right hd)) ?_;rintro _ _ ⟨rfl,rfl⟩
         try simp only [an,aq,au]
         refine af.sT 164 rfl (by exact decide_eq_true jq) ?_;refine .quiet (.p rfl) rfl (fun _=>.not rfl)<|aK.nil<|S.aP rfl<|S.skip<|S.seq<|S.region rfl<|O.q 1 rfl<|O.op (.p rfl) (.bI isAgg27 aa rfl h23) ?_;refine O.bD (.p rfl) rfl aa rfl rfl ai (J6 (F:=bA b9) (F' :=bA b9) jB zE uW bq sV HT bq (KG uL bq) bq (fun _ _=>rfl) (fun h3=>⟨(AG bq h3).1,(AG bq h3).2,by simp,by simp⟩)) ?_;rintro _ _ ⟨ra,rc,pT,r0,rfl,rfl⟩
         try simp only [an,aq,au]
         refine O.q 7 rfl<|O.nil<|S.seq<|S.region rfl<|O.q 1 rfl<|O.op (.p rfl) (.bI isAgg27 aa rfl h23) ?_;refine O.bD (.p rfl) rfl aa rfl rfl ai (EP zE uW (Jj (FV _ _ _ _ _ bq))) ?_;rintro _ _ ⟨rfl,rfl⟩
         try simp only [an,aq,au]
         refine O.q 7 rfl<|O.nil<|S.seq<|S.region rfl<|O.q 1 rfl<|O.op (.p rfl) (.eql rfl rfl)<|O.sT 199 rfl aG ?_;refine O.q 2 rfl<|O.op (.g rfl rfl) (.eql rfl rfl)<|O.sT 202 rfl aG ?_;refine O.q 3 rfl<|O.bD (.g rfl rfl) rfl aa rfl rfl ai (Av zE) ?_;rintro _ _ ⟨rfl,rfl⟩
         try simp only [an,aq,au]
         refine O.q 1 rfl<|O.op (.g rfl rfl) (.len rfl underlying53 rfl)<|O.op (.g rfl rfl) (.add rfl rfl (IntWalk.i64_in _ ah))<|O.op (.g rfl rfl) (.eql rfl rfl)<|O.sT 210 rfl (by exact decide_eq_true bq) ?_;refine O.q 2 rfl<|O.nil ?_;exact S.rt results9 rfl hR ⟨rfl,rfl⟩
        ·
         refine S.bB (L:=[0,2,1,3,4,5]) bx aa ?_;refine .quiet (.p rfl) rfl (fun _=>.bI isAgg27 aa rfl h7) ?_;refine .quiet (.p rfl) rfl (fun _=>.bI isAgg27 aa rfl h23) ?_;refine af.aC (.p rfl) aa rfl aa rfl rfl ((vb h0 hx0 pM hH hK)) ?_;rintro _ _ ⟨Bd,Bq,rfl,rfl⟩
         try simp only [an,aq,au]
         refine af.aC (.p rfl) aa rfl aa rfl rfl ((vb uW HS hnb hH hK)) ?_;rintro _ _ ⟨Be,Br,rfl,rfl⟩
         try simp only [an,aq,au]
         rw [Ib];refine af.cU (.p rfl) aa rfl aa rfl rfl (bs:=[av ag.u8 5 (.slice Bd (fV x).length Bq) (fV x),av ag.u8 5 (.slice Be (bA b9 []).length Br) (bA b9 [])]) aV (fun m hm hd=>yg (hm.arr.right hd) (hm.tail.arr.right hd)) ?_;rintro _ _ ⟨rfl,rfl⟩
         try simp only [an,aq,au]
         refine af.aL 164 rfl (by exact decide_eq_false jq) ?_;refine .quiet (.p rfl) rfl (fun _=>.not rfl)<|aK.nil<|S.bC rfl<|S.seq<|S.region rfl<|O.q 1 rfl<|O.op (.p rfl) (.bI isAgg27 aa rfl h7) ?_;refine O.bD (.p rfl) rfl aa rfl rfl ai (T6 jB zE h0 bq sV hx0 pM bq (fun q=>jq q.2.1)) ?_;rintro _ _ ⟨rfl,rfl⟩
         try simp only [an,aq,au]
         refine O.q 7 rfl<|O.nil<|S.seq<|S.region rfl<|O.q 1 rfl<|O.op (.p rfl) (.neq rfl rfl)<|O.aL 174 rfl aG ?_;refine O.q 2 rfl<|O.bD (.g rfl rfl) rfl aa rfl rfl ai (EN zE) ?_;rintro _ _ ⟨rfl,rfl⟩
         try simp only [an,aq,au]
         refine O.aL 177 rfl aG ?_;refine O.q 3 rfl<|O.bD (.g rfl rfl) rfl aa rfl rfl ai (Av zE) ?_;rintro _ _ ⟨rfl,rfl⟩
         try simp only [an,aq,au]
         refine O.op (.g rfl rfl) (.neq rfl rfl)<|O.aL 182 rfl aG ?_;refine O.q 1 rfl<|O.nil<|S.aP rfl<|S.skip<|S.seq<|S.region rfl<|O.q 1 rfl<|O.op (.p rfl) (.bI isAgg27 aa rfl h23) ?_;refine O.bD (.p rfl) rfl aa rfl rfl ai (J6 (F:=bA b9) (F' :=bA b9) jB zE uW bq sV HT bq (KG uL bq) bq (fun _ _=>rfl) (fun h3=>⟨(AG bq h3).1,(AG bq h3).2,by simp,by simp⟩)) ?_;rintro _ _ ⟨ra,rc,pT,r0,rfl,rfl⟩
         try simp only [an,aq,au]
         refine O.q 7 rfl<|O.nil<|S.seq<|S.region rfl<|O.q 1 rfl<|O.op (.p rfl) (.bI isAgg27 aa rfl h23) ?_;refine O.bD (.p rfl) rfl aa rfl rfl ai (EP zE uW (Jj (FV _ _ _ _ _ bq))) ?_;rintro _ _ ⟨rfl,rfl⟩
         try simp only [an,aq,au]
         refine O.q 7 rfl<|O.nil<|S.seq<|S.region rfl<|O.q 1 rfl<|O.op (.p rfl) (.eql rfl rfl)<|O.sT 199 rfl aG ?_;refine O.q 2 rfl<|O.op (.g rfl rfl) (.eql rfl rfl)<|O.sT 202 rfl aG ?_;refine O.q 3 rfl<|O.bD (.g rfl rfl) rfl aa rfl rfl ai (Av zE) ?_;rintro _ _ ⟨rfl,rfl⟩
         try simp only [an,aq,au]
         refine O.q 1 rfl<|O.op (.g rfl rfl) (.len rfl underlying53 rfl)<|O.op (.g rfl rfl) (.add rfl rfl (IntWalk.i64_in _ ah))<|O.op (.g rfl rfl) (.eql rfl rfl)<|O.sT 210 rfl (by exact decide_eq_true bq) ?_;refine O.q 2 rfl<|O.nil ?_;exact S.rt results9 rfl hR ⟨rfl,rfl⟩
theorem Ul {r:Fr} {z:Int} {va kQ:Value} {l l2:List aH} {cs:Array Value} {x:dJ} (hz:cE z) (ha:aj cq r va l) (hb:aj cq r kQ l2) (h:ga.rel r cs.toList x) (hH:At r ⟨0,0,none⟩ (bQ ed)) (hK:At r ⟨1,0,none⟩ (bQ fZ)) :
  ay prog 9 #[.int .i64 z,va,kQ,.agg cs] r [] (aM fun v U=>v=.bool true∧U=[]):=by
 have e2:cs=cs.toList.toArray:=by simp
 rw [e2];exact Uk hz ha hb h hH hK
end Go.Proofs.YtojafegjlahajaaGreatDoor
