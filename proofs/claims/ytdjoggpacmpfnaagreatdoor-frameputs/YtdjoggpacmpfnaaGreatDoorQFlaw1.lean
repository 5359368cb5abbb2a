/- Texts of this proof. -/
import Derived.Test.YtdjoggpacmpfnaaGreatDoorQKit3
import Derived.Test.YtdjoggpacmpfnaaGreatDoorQSpLentR
open Go Go.Sp Go.Proofs.Tryz
set_option maxRecDepth 100000
set_option maxHeartbeats 1000000
attribute [local irreducible] obj Own ak
namespace Go.Proofs.YtdjoggpacmpfnaaGreatDoor
abbrev yN:aM (List UInt8):=aM.flat ag.u8 aX.u8 (c_ 1)
theorem abL {a:Option Addr} {c:Nat} {vs us:List Value} {xss:List (List UInt8)} {m:Fr} (hv:vs.length=xss.length) (hu:us.length=12) (hc:xss.length+12≤c)
  (h:Sat [ak ag.val 22 (.slice a (xss.length+12) c) (vs++us),aZ (vz 5) vs xss,aZ y3 us (q5 12)] m):iI yN aX.bytes (gR 1) (.slice a xss.length c) xss m:=by
 refine ⟨a,c,vs.map fun v=>[v],us.map fun v=>[v],rfl,hc,by simp [hv],by simp [hu],acg (fun k x=>?_) (fun k x=>?_) (fun k x=>?_) h⟩
 ·have:=adJ x
  rwa [List.map_append] at this
 ·have:=aZ.map (B:=yN.own) (f:=fun v=>[v]) (g:=fun x:List UInt8=>x) (fun b a' m' z=>⟨b,rfl,z⟩) x
  rwa [map_id'] at this
 ·have:=aZ.map (B:=EK yN.fR) (f:=fun v=>[v]) (g:=fun x:List UInt8=>x) (fun b a' m' z=>⟨b,rfl,z⟩) x
  rwa [map_id'] at this
theorem Yz {r:Fr} {va:Value} {xss:List (List UInt8)} (ha:av (ag.slice ag.u8) r va xss) (hq:∀ x∈xss,x.length≤100000000000) (hl:xss.length≤100000000000) :
  aj prog 114 #[va] r [] (aF fun v aa=>∃ a c,v=.slice a xss.length c∧aa=[iI yN aX.bytes (gR 1) (.slice a xss.length c) xss]) :=
 (QF ha (fun x hx=>Nat.le_trans (hq x hx) aq) (Nat.le_trans hl aq)).post fun e aa h w g hw=>by
  cases e with
  |returned v =>
   obtain ⟨a,c,vs,us,h1,h2,h3,rfl,rfl⟩:=h;exact ⟨_,⟨a,c,rfl,rfl⟩,hw.imp fun m x=>aci (abL h1 h2 h3 x)⟩
  |panicked _=>exact h.elim
  |outgrown=>exact h.elim
theorem X5 {r:Fr} {va jO:Value} {xss:List (List UInt8)} (hz:mC yN (gR 1) r va xss) (hl:av (ag.slice ag.u8) r jO xss) (hq:∀ x∈xss,x.length≤100000000000) (hb:xss.length≤100000000000) :
  aj prog 135 #[va,jO] r [] (aF fun v aa=>v=.bool true∧aa=[]):=by
 obtain ⟨a,c,aG,cl,rfl,wj,hin,hv,hu⟩:=hz;obtain ⟨vs,rfl,fh⟩:=EX hv;obtain ⟨us,rfl,WM⟩:=EX hu;rw [← List.map_append] at hin;exact QE (Q8 hin) fh WM hl (fun x hx=>Nat.le_trans (hq x hx) aq) (Nat.le_trans hb aq)
theorem NY {r:Fr} (k i:Int) (hk:iW k) (hi:iW i):aj prog 194 #[.int .i64 k,.int .i64 i] r [] (aF fun v aa=>v=.agg #[.string (str (gR k i)),.slice none 0 0]∧aa=[]):=by
 refine aj.o func194 fun g hg R hR=>?_;refine S.seq<|S.region rfl<|O.aD (.p rfl) (.alloc (cs:=[.string ⟨#[]⟩,.slice none 0 0]) zeroValue122 rfl) ?_;rintro _ _ ⟨b4,rfl,rfl⟩;refine U 5 ?_;refine O.v0 (.p rfl) rfl af rfl rfl ((IL _ _)) ?_;refine O.op (.p rfl) (.build (cs:=[_,_]) underlying122 rfl rfl rfl rfl rfl)<|U 1 ?_;refine O.nil<|S.mW results194 isAgg122 af rfl an fun w hw=>ax.end_ hR hw ?_;exact pk ⟨rfl,rfl⟩
theorem NZ {h:Fr} {k i:Int} (hk:iW k) (hi:iW i):dZ.rel h [.string (str (gR k i)),.slice none 0 0] (qV k i):=dZ.mk aH av.nil
theorem YA {r:Fr} {cs:List Value} {x:gv} (h:dZ.rel r cs x) (hb:sQ 100000000000 x) :
  aj prog 213 #[.agg cs.toArray] r [] (aF fun v aa=>∃ a1 c1,v=.agg #[.string (str x.1),.slice a1 x.2.1.length c1]∧aa=[(iw aX).own [.string (str x.1),.slice a1 x.2.1.length c1] x]):=by
 obtain ⟨w7,w8,rfl,k0,k1⟩:=dZ.sh h;obtain ⟨qX,nL⟩:=hb;refine aj.o func213 fun g hg R hR=>?_;have k1:=k1.mono hg;refine S.seq<|S.region rfl<|O.aD (.p rfl) (.box (cs:=[_,_]) rfl rfl) ?_;rintro _ _ ⟨b1,rfl,rfl⟩;refine O.aD (.p rfl) (.alloc (cs:=[.string ⟨#[]⟩,.slice none 0 0]) zeroValue122 rfl) ?_;rintro _ _ ⟨b2,rfl,rfl⟩;refine U 5 ?_;refine O.aN (.p rfl) rfl af rfl rfl ((sO k1 ai)) ?_;rintro _ _ ⟨a1,c1,rfl,rfl⟩;refine U 7 ?_;refine O.nil<|S.oS (A:=(iw aX).own [.string (str x.1),.slice a1 x.2.1.length c1] x) (bs:=[jg ag.u8 aX.u8 (c_ 1) (.slice a1 x.2.1.length c1) x.2.1]) ct (fun m y=>iw.mk k0 y) ?_;refine S.mW results213 isAgg122 af rfl an fun w hw=>ax.end_ hR hw ?_;exact pk ⟨a1,c1,rfl,rfl⟩
theorem X6 {r:Fr} {cs ds:List Value} {x:gv} (h:(iw aX).rd r cs x) (hy:dZ.rel r ds x) (hb:sQ 100000000000 x) :
  aj prog 226 #[.agg cs.toArray,.agg ds.toArray] r [] (aF fun v aa=>v=.bool true∧aa=[]):=by
 have hx:=(iw aX).rel h;obtain ⟨v1,rfl,k0,q1⟩:=iw.lO h;obtain ⟨xd,xe,rfl,l6,fM⟩:=dZ.sh hy;obtain ⟨qX,nL⟩:=hb;refine aj.o func226 fun g hg R hR=>?_;have hx:=hx.mono hg;have hy:=hy.mono hg;have fM:=fM.mono hg;replace q1:=q1.mono hg;refine S.seq<|S.region rfl<|O.aD (.p rfl) (.box (cs:=[_,_]) rfl rfl) ?_;rintro _ _ ⟨b2,rfl,rfl⟩;refine O.aD (.p rfl) (.box (cs:=[_,_]) rfl rfl) ?_;rintro _ _ ⟨b3,rfl,rfl⟩;refine U 6 ?_;refine O.v0 (.p rfl) rfl af rfl rfl ((DY hx hy)) ?_;refine O.sT 7 rfl aH ?_;refine U 5 ?_;refine O.v0 (.g rfl rfl) rfl af rfl rfl ((uW q1 fM ai)) ?_;refine U 3 ?_;exact S.rt results226 rfl hR ⟨rfl,rfl⟩
theorem YB {r:Fr} {va:Value} {es:List gv} (ha:av dZ r va es) (hq:∀ x∈es,sQ 100000000000 x) (hl:es.length≤100000000000) :
  aj prog 115 #[va] r [] (aF fun v aa=>∃ a c,v=.slice a es.length c∧aa=[iI (iw aX) aX.stub (qV 1) (.slice a es.length c) es]):=by
 have har:=ha;refine aj.o func115 fun g hg R hR=>?_;have ha:=ha.mono hg;obtain ⟨a1,c1,rfl⟩:=ha.shape;refine U 9 ?_;refine O.aD (.p rfl) (.wF (T:=ag.cells 2) (c:=es.length+12) underlying29 zQ rfl rfl rfl rfl ai ai) ?_;rintro _ _ ⟨c6,bB,rfl,rfl⟩;refine U 8 ?_;refine S.uG (iw aX).own ?_;refine S.r0 (ι:=Nat) (dy:=Option Addr) (gN:=Nat) (aL:=List (List Value)) (fun i a c aG=>i≤es.length∧aG.length=i) (fun i a c aG=>[(4,.int .i64 (i:Int)),(3,.slice a i c)]) [(0,_)] (fun i a c aG=>[aZ (iw aX).own aG (es.take i),ak (ag.cells 2) 122 (.slice a i c) aG]) (fun i a c aG=>es.length - i) (0) (c6) (bB) ([]) sK aO aO rfl fun i a c aG hx ih=>?_;have aW:=bS (g:=g);obtain ⟨hx1,hvs⟩:=hx;refine U 8 ?_;refine S.cd rfl (fun eH=>?_) fun eH=>?_
 ·have hi:i<es.length:=by omega
  have hrow:=hq es[i] (List.getElem_mem hi);refine U 7 ?_;refine O.ew har hg (h:=fun e5 me gx iZ=>?_);have ee:=ag.rel.mono iZ hg;obtain ⟨Px,PI,rfl,rT,z8⟩:=dZ.sh ee;refine O.op (.p rfl) (.aJ isAgg122 af rfl gx) ?_;refine O.aN (.p rfl) rfl af rfl rfl ((YA ee hrow)) ?_;rintro _ _ ⟨sR,sX,rfl,rfl⟩;refine O.aD (.p rfl) (.alloc (cs:=[.string ⟨#[]⟩,.slice none 0 0]) zeroValue122 rfl) ?_;rintro _ _ ⟨iL,rfl,rfl⟩;refine U 5 ?_;refine O.aD (.p rfl) (.bw (T:=(ag.cells 2)) (ys:=[_]) underlying29 zQ aq rfl rfl ⟨⟨rfl,rfl,by first|(simp;done)|(intro v hv;simp [Value.cells] at hv;rcases hv with rfl|rfl<;>rfl)|(refine List.forall_mem_cons.2 ⟨rfl,?_⟩;repeat (first|exact (fun _ h=>absurd h List.not_mem_nil)|refine List.forall_mem_cons.2 ⟨rfl,?_⟩))⟩,trivial⟩ aq) ?_;rintro _ _ ⟨gO,dw,rfl,rfl⟩;refine O.aD (.p rfl) (.fH (T:=(ag.cells 2)) underlying29 zQ aq rfl rfl an an bl bl) ?_;rintro _ _ ⟨iJ,dG,rfl,rfl⟩;refine U 8 ?_;have hcs:(Value.agg #[.string (str es[i].1),.slice sR es[i].2.1.length sX]).cells.toList=[.string (str es[i].1),.slice sR es[i].2.1.length sX]:=by simp [Value.cells]
  simp only [hcs];refine S.each (A:=(iw aX).own) (bs:=aG) (b:=[.string (str es[i].1),.slice sR es[i].2.1.length sX]) (a:=es[i]) an an ?_;rw [← j9 hi,hvs];exact S.pw (ih (i+1) (iJ) (dG) (aG++[[.string (str es[i].1),.slice sR es[i].2.1.length sX]]) vu ai)
 ·have hi:i=es.length:=by omega
  subst hi;rw [List.take_length];refine U 7 ?_;refine S.conv (B:=ak (ag.cells 2) 122 (.slice a es.length c) aG) (C:=ak (ag.cells 2) 122 (.slice a es.length c) (aG++[])) an (fun m x=>⟨m,Fr.bH _,by rw [List.append_nil];exact x⟩) ?_;refine S.r0 (ι:=Nat) (dy:=Option Addr) (gN:=Nat) (aL:=List (List Value)) (fun i a c cl=>i≤12∧cG (dZ.rel Fr.emp) cl (iS (qV 1) i)) (fun i a c cl=>[(6,.int .i64 (i:Int)),(3,.slice a (es.length+i) c)]) [(0,_)] (fun i a c cl=>[ak (ag.cells 2) 122 (.slice a (es.length+i) c) (aG++cl),aZ (iw aX).own aG es]) (fun i a c cl=>12 - i) (0) (a) (c) ([]) (by exact ⟨by simp,trivial⟩) aO aO rfl fun i a c cl hx ih=>?_;have hm2:=bS (g:=g);obtain ⟨hx1,gP⟩:=hx;have ku:=gP.nI;rw [tP] at ku;refine U 6 ?_;refine S.cd rfl (fun hG=>?_) fun hG=>?_
  ·refine U 6 ?_
   refine O.v0 (.p rfl) rfl af rfl rfl (NY _ _ e6 e6) ?_;refine O.aD (.p rfl) (.bw (T:=(ag.cells 2)) (ys:=[_]) underlying29 zQ aq rfl rfl ⟨⟨rfl,rfl,by first|(simp;done)|(intro v hv;simp [Value.cells] at hv;rcases hv with rfl|rfl<;>rfl)|(refine List.forall_mem_cons.2 ⟨rfl,?_⟩;repeat (first|exact (fun _ h=>absurd h List.not_mem_nil)|refine List.forall_mem_cons.2 ⟨rfl,?_⟩))⟩,trivial⟩ aq) ?_;rintro _ _ ⟨mE,mG,rfl,rfl⟩;refine O.aD (.p rfl) (.fH (T:=(ag.cells 2)) underlying29 zQ aq rfl rfl an an bl bl) ?_;rintro _ _ ⟨ni,nq,rfl,rfl⟩;refine U 8 ?_;have hcs:(Value.agg #[.string (str (gR 1 (i:Int))),.slice none 0 0]).cells.toList=[.string (str (gR 1 (i:Int))),.slice none 0 0]:=by simp [Value.cells]
   simp only [hcs];rw [kV];simp only [cI,hvs,ku];exact S.pw (ih (i+1) (ni) (nq) ((cl++[[.string (str (gR 1 (i:Int))),.slice none 0 0]])) (by exact ⟨by omega,by rw [← AN];exact cG.append gP ⟨NZ e6 e6,trivial⟩⟩) ai)
  ·have hi:i=12:=by omega
   subst hi;refine S.nu an (fun _ x=>ak.room (T:=ag.cells 2) (e:=122) (xs:=aG++cl) (a:=a) (c:=c) (m:=es.length+12) x) fun hroom=>?_;refine U 6 ?_;refine O.qa (q:=es.length) (ag.cells 2) (.p rfl) underlying29 wW rfl rfl rfl ai ?_;refine O.q 1 rfl<|O.nil<|S.pk (ζ:=[ak (ag.cells 2) 122 (.slice a (es.length+12) c) (aG++cl),aZ (iw aX).own aG es]) aC ?_;refine S.fold (A:=iI (iw aX) aX.stub (qV 1) (.slice a es.length c) es) (bs:=[ak (ag.cells 2) 122 (.slice a (es.length+12) c) (aG++cl),aZ (iw aX).own aG es]) (fun m x=>iI.fold (L:=iw aX) hroom.2 hvs gP x) ?_;exact S.rt results115 rfl hR ⟨a,c,rfl,rfl⟩
theorem X7 {r:Fr} {va jO:Value} {es:List gv} (hz:mC (iw aX) (qV 1) r va es) (hl:av dZ r jO es) (hq:∀ x∈es,sQ 100000000000 x) (hb:es.length≤100000000000) :
  aj prog 136 #[va,jO] r [] (aF fun v aa=>v=.bool true∧aa=[]):=by
 obtain ⟨a,c,aG,cl,rfl,wj,hin,hv,hu⟩:=hz;have hlr:=hl;refine aj.o func136 fun g hg R hR=>?_;have hin:=hin.mono hg;have hl:=hl.mono hg;replace hv:=hv.imp fun _ _=>(iw aX).mono hg;replace hu:=hu.imp fun _ _=>dZ.mono hg;have hvl:=hv.nI;have ku:=hu.nI;rw [tP] at ku;obtain ⟨a1,c1,rfl⟩:=hl.shape;have hal:(aG++cl).length=es.length+12:=by simp;omega
 refine U 13 ?_;refine S.cd rfl (fun h11=>?_) fun h11=>?_
 ·exact absurd rfl ay
 ·refine U 7 ?_
  refine O.qa (q:=es.length+12) (ag.cells 2) (.p rfl) underlying29 wW rfl rfl rfl ai<|U 8 ?_;refine S.ev (ι:=Nat) (fun i=>i≤es.length+12) (fun i=>[(6,.int .i64 (i:Int))]) [(1,_),(5,_)] (fun i=>[]) (fun i=>es.length+12 - i) (0) aH aO aO rfl fun i hx ih=>?_;have aW:=bS (g:=g);refine U 8 ?_;refine S.cd rfl (fun gI=>?_) fun gI=>?_
  ·have hi:i<(aG++cl).length:=by omega
   refine U 4 ?_;refine S.aY (L:=.range 35) F.mixed af ?_;refine U 5 ?_
   refine ah.cs 27 rfl (fun hG=>?_) fun hG=>?_
   ·have hi2:i<es.length:=by omega
    have jl:(aG++cl)[i]=aG[i]:=xu ai;have hA:=hv.vF i ai hi2;have iN:=(iw aX).rel hA;have hrow:=hq es[i] (List.getElem_mem hi2);refine ah.q 2 rfl<|ah.dI (hin) (h:=fun tW s4 jI j5=>?_);obtain ⟨rfl,_,_⟩:=j5;rw [jl] at jI;generalize aG[i]=zK at jI hA iN;obtain ⟨aeQ,aeS,rfl,Qv,Qx⟩:=dZ.sh iN;refine .quiet (.g rfl rfl) rfl (fun _=>.aJ isAgg122 af rfl jI) ?_;refine ah.q 2 rfl<|ah.ew hlr hg (h:=fun A2 zJ tu Ay=>?_);have ot:=ag.rel.mono Ay hg;obtain ⟨aio,aip,rfl,MP,Ur⟩:=dZ.sh ot;refine .quiet (.g rfl rfl) rfl (fun _=>.aJ isAgg122 af rfl tu) ?_;refine ah.v0 (.g rfl rfl) af rfl af rfl rfl ((X6 hA ot hrow)) ?_;refine U 7 ?_;refine ah.aB 43 rfl cw ?_;refine U 23 ?_;exact S.cF (ih (i+1) ai ai)
   ·have hi2:es.length≤i:=by omega
    have hid:i - aG.length<cl.length:=by omega
    have jl:(aG++cl)[i]=cl[i - aG.length]:=List.getElem_append_right ai;have iN:=hu.vF (i - aG.length) hid cw;rw [Dj] at iN;have hmk:iW ((i:Int) - (es.length:Int)):=by constructor<;>omega
    have Ae:((i - aG.length:Nat):Int)=(i:Int) - (es.length:Int):=by omega
    rw [Ae] at iN;refine U 16 ?_;refine ah.sT 43 rfl cw ?_;refine ah.q 3 rfl<|ah.dI (hin) (h:=fun wP vI lI nG=>?_);obtain ⟨rfl,_,_⟩:=nG;rw [jl] at lI;generalize cl[i - aG.length]=zK at lI iN;obtain ⟨aeR,aeT,rfl,Qw,Qy⟩:=dZ.sh iN;refine .quiet (.g rfl rfl) rfl (fun _=>.aJ isAgg122 af rfl lI) ?_;refine U 4 ?_;refine ah.v0 (.g rfl rfl) af rfl af rfl rfl ((NY _ _ e6 hmk)) ?_;refine ah.v0 (.g rfl rfl) af rfl af rfl rfl ((DY iN (NZ e6 hmk))) ?_;refine ah.sT 54 rfl aH ?_;refine U 12 ?_;exact S.cF (ih (i+1) ai ai)
  ·refine U 5 ?_
   exact S.rt results136 rfl hR ⟨rfl,rfl⟩
theorem Yw {r:Fr} {cs:List Value} {x:eY} (h:fj.rel r cs x) (hb:KK 100000000000 x) :
  aj prog 53 #[.agg cs.toArray] r [] (aF fun v aa=>∃ a1 c1 a2 c2 a3 c3,v=.agg #[aT x.1,.slice a1 x.2.1.length c1,.slice a2 x.2.2.1.length c2,.slice a3 x.2.2.2.1.length c3]∧aa=[(m8 aX).own [aT x.1,.slice a1 x.2.1.length c1,.slice a2 x.2.2.1.length c2,.slice a3 x.2.2.2.1.length c3] x]):=by
 obtain ⟨w7,ad1,dM,w8,aec,dN,rfl,k1,k2,aI⟩:=fj.sh h;obtain ⟨nL,Zn,nM⟩:=hb;refine aj.o func53 fun g hg R hR=>?_;have k1:=k1.mono hg;have k2:=k2.mono hg;have aI:=aI.mono hg;refine S.seq<|S.region rfl<|O.aD (.p rfl) (.box (cs:=[_,_,_,_]) rfl rfl) ?_;rintro _ _ ⟨b1,rfl,rfl⟩;refine O.aD (.p rfl) (.alloc (cs:=[.int .u8 0,.slice none 0 0,.slice none 0 0,.slice none 0 0]) zeroValue35 rfl) ?_;rintro _ _ ⟨b2,rfl,rfl⟩;refine U 5 ?_;refine O.aN (.p rfl) rfl af rfl rfl ((sO k1 ai)) ?_;rintro _ _ ⟨a1,c1,rfl,rfl⟩;refine U 7 ?_;refine O.aN (.p rfl) rfl af rfl rfl ((sO k2 ai)) ?_;rintro _ _ ⟨a2,c2,rfl,rfl⟩;refine U 7 ?_;refine O.aN (.p rfl) rfl af rfl rfl ((Yv aI nM.2 nM.1)) ?_;rintro _ _ ⟨a3,c3,rfl,rfl⟩;refine U 7 ?_;refine O.nil<|S.oS (A:=(m8 aX).own [aT x.1,.slice a1 x.2.1.length c1,.slice a2 x.2.2.1.length c2,.slice a3 x.2.2.2.1.length c3] x) (bs:=[jg ag.u8 aX.u8 (c_ 1) (.slice a1 x.2.1.length c1) x.2.1,jg ag.u8 aX.u8 (c_ 1) (.slice a2 x.2.2.1.length c2) x.2.2.1,iI (iv aX) aX.leaf (qU 1) (.slice a3 x.2.2.2.1.length c3) x.2.2.2.1]) ct (fun m y=>m8.mk  y) ?_;refine S.mW results53 isAgg35 af rfl an fun w hw=>ax.end_ hR hw ?_;exact pk ⟨a1,c1,a2,c2,a3,c3,rfl,rfl⟩
theorem X2 {r:Fr} {cs ds:List Value} {x:eY} (h:(m8 aX).rd r cs x) (hy:fj.rel r ds x) (hb:KK 100000000000 x) :
  aj prog 62 #[.agg cs.toArray,.agg ds.toArray] r [] (aF fun v aa=>v=.bool true∧aa=[]):=by
 have hx:=(m8 aX).rel h;obtain ⟨v1,v2,v3,rfl,q1,bg,ei⟩:=m8.lO h;obtain ⟨xd,aew,oF,xe,aeJ,oG,rfl,fM,m4,gM⟩:=fj.sh hy;obtain ⟨nL,Zn,nM⟩:=hb;refine aj.o func62 fun g hg R hR=>?_;have hx:=hx.mono hg;have hy:=hy.mono hg;have fM:=fM.mono hg;have m4:=m4.mono hg;have gM:=gM.mono hg;replace q1:=q1.mono hg;replace bg:=bg.mono hg;replace ei:=ei.mono hg;refine S.seq<|S.region rfl<|O.aD (.p rfl) (.box (cs:=[_,_,_,_]) rfl rfl) ?_;rintro _ _ ⟨b2,rfl,rfl⟩;refine O.aD (.p rfl) (.box (cs:=[_,_,_,_]) rfl rfl) ?_;rintro _ _ ⟨b3,rfl,rfl⟩;refine U 6 ?_;refine O.v0 (.p rfl) rfl af rfl rfl ((PC hx hy)) ?_;refine O.sT 7 rfl aH ?_;refine U 5 ?_;refine O.v0 (.g rfl rfl) rfl af rfl rfl ((uW q1 fM ai)) ?_;refine U 6 ?_;refine O.v0 (.g rfl rfl) rfl af rfl rfl ((uW bg m4 ai)) ?_;refine U 6 ?_;refine O.v0 (.g rfl rfl) rfl af rfl rfl ((X1 ei gM nM.2 nM.1)) ?_;refine U 3 ?_;exact S.rt results62 rfl hR ⟨rfl,rfl⟩
theorem Yx {r:Fr} {cs:List Value} {x:fT} (h:fB.rel r cs x) (hb:KL 100000000000 x) :
  aj prog 52 #[.agg cs.toArray] r [] (aF fun v aa=>∃ a0 c0 a1 c1,v=.agg #[.slice a0 x.1.length c0,.slice a1 x.2.1.length c1]∧aa=[(m9 aX).own [.slice a0 x.1.length c0,.slice a1 x.2.1.length c1] x]):=by
 obtain ⟨adT,w7,ad6,w8,rfl,k0,k1⟩:=fB.sh h;obtain ⟨qX,nL⟩:=hb;refine aj.o func52 fun g hg R hR=>?_;have k0:=k0.mono hg;have k1:=k1.mono hg;refine S.seq<|S.region rfl<|O.aD (.p rfl) (.box (cs:=[_,_]) rfl rfl) ?_;rintro _ _ ⟨b1,rfl,rfl⟩;refine O.aD (.p rfl) (.alloc (cs:=[.slice none 0 0,.slice none 0 0]) zeroValue31 rfl) ?_;rintro _ _ ⟨b2,rfl,rfl⟩;refine U 5 ?_;refine O.aN (.p rfl) rfl af rfl rfl ((Yz k0 qX.2 qX.1)) ?_;rintro _ _ ⟨a0,c0,rfl,rfl⟩;refine U 7 ?_;refine O.aN (.p rfl) rfl af rfl rfl ((YB k1 nL.2 nL.1)) ?_;rintro _ _ ⟨a1,c1,rfl,rfl⟩;refine U 7 ?_;refine O.nil<|S.oS (A:=(m9 aX).own [.slice a0 x.1.length c0,.slice a1 x.2.1.length c1] x) (bs:=[iI yN aX.bytes (gR 1) (.slice a0 x.1.length c0) x.1,iI (iw aX) aX.stub (qV 1) (.slice a1 x.2.1.length c1) x.2.1]) ct (fun m y=>m9.mk  y) ?_;refine S.mW results52 isAgg31 af rfl an fun w hw=>ax.end_ hR hw ?_;exact pk ⟨a0,c0,a1,c1,rfl,rfl⟩
theorem X3 {r:Fr} {cs ds:List Value} {x:fT} (h:(m9 aX).rd r cs x) (hy:fB.rel r ds x) (hb:KL 100000000000 x) :
  aj prog 61 #[.agg cs.toArray,.agg ds.toArray] r [] (aF fun v aa=>v=.bool true∧aa=[]):=by
 have hx:=(m9 aX).rel h;obtain ⟨v0,v1,rfl,q0,q1⟩:=m9.lO h;obtain ⟨aeo,xd,aeB,xe,rfl,l6,fM⟩:=fB.sh hy;obtain ⟨qX,nL⟩:=hb;refine aj.o func61 fun g hg R hR=>?_;have hx:=hx.mono hg;have hy:=hy.mono hg;have l6:=l6.mono hg;have fM:=fM.mono hg;replace q0:=q0.mono hg;replace q1:=q1.mono hg;refine S.seq<|S.region rfl<|O.aD (.p rfl) (.box (cs:=[_,_]) rfl rfl) ?_;rintro _ _ ⟨b2,rfl,rfl⟩;refine O.aD (.p rfl) (.box (cs:=[_,_]) rfl rfl) ?_;rintro _ _ ⟨b3,rfl,rfl⟩;refine U 6 ?_;refine O.v0 (.p rfl) rfl af rfl rfl ((PD hx hy)) ?_;refine O.sT 7 rfl aH ?_;refine U 5 ?_;refine O.v0 (.g rfl rfl) rfl af rfl rfl ((X5 q0 l6 qX.2 qX.1)) ?_;refine U 6 ?_;refine O.v0 (.g rfl rfl) rfl af rfl rfl ((X7 q1 fM nL.2 nL.1)) ?_;refine U 3 ?_;exact S.rt results61 rfl hR ⟨rfl,rfl⟩
theorem TG {x:aP} {cD c9 bk bB:List Value} {v6 eD:Value} {m:Fr} (h1:aS x.2.1) (h2:aS x.2.2.1) (h3:x.2.2.2.1.length≤9223372036854775807) (h4:x.2.2.2.2.1.length≤9223372036854775807) (k8:aS x.2.2.2.2.2.2.2.2.2.2.2.1)
  (s:Sat [(gu aX).own cD x.2.2.2.2.2.1,jg ag.u8 aX.u8 (c_ 1) v6 x.2.2.2.2.2.2.1,(m9 aX).own c9 x.2.2.2.2.2.2.2.1,(m8 aX).own bk x.2.2.2.2.2.2.2.2.1,iI (gj aX) aX.mV (mT 1) eD x.2.2.2.2.2.2.2.2.2.1,(sN aX).own bB x.2.2.2.2.2.2.2.2.2.2.1] m) :
  (rA aX).own ([aT x.1]++([.int .i64 x.2.1]++([.int .i64 x.2.2.1]++([.string (str x.2.2.2.1)]++([.string (str x.2.2.2.2.1)]++(cD++([v6]++(c9++(bk++([eD]++(bB++([.int .i64 x.2.2.2.2.2.2.2.2.2.2.2.1]++[])))))))))))) x m :=
 aM.tV (T:=ag.u8) rfl (aM.tV (T:=ag.i64) ⟨rfl,h1⟩ (aM.tV (T:=ag.i64) ⟨rfl,h2⟩ (aM.tV (T:=ag.str) ⟨rfl,h3⟩ (aM.tV (T:=ag.str) ⟨rfl,h4⟩
  (aM.yB (vf s fun _ s1=>aM.yB (A:=aM.flat ag.u8 aX.u8 (c_ 1)) (vf (Sat.g9 (fun _ z=>⟨_,rfl,z⟩) (fun _ z=>z) s1) fun _ s2 =>
   aM.yB (vf s2 fun _ q6=>aM.yB (vf q6 fun _ Bd=>aM.yB (A:=aM.list (gj aX) aX.mV (mT 1)) (vf (Sat.g9 (fun _ z=>⟨_,rfl,z⟩) (fun _ z=>z) Bd) fun _ DR =>
    aM.yB (vf DR fun _ _=>aM.tV (T:=ag.i64) ⟨rfl,k8⟩ rfl)))))))))))
theorem TH {x:aP} {cs:List Value} {h:Fr} (r:(rA aX).rd h cs x):∃ cD v6 c9 bk eD bB,cs=[aT x.1]++([.int .i64 x.2.1]++([.int .i64 x.2.2.1]++([.string (str x.2.2.2.1)]++([.string (str x.2.2.2.2.1)]++(cD++([v6]++(c9++(bk++([eD]++(bB++([.int .i64 x.2.2.2.2.2.2.2.2.2.2.2.1]++[])))))))))))∧aS x.2.1∧aS x.2.2.1∧x.2.2.2.1.length≤9223372036854775807∧x.2.2.2.2.1.length≤9223372036854775807∧aS x.2.2.2.2.2.2.2.2.2.2.2.1 ∧
  (gu aX).rd h cD x.2.2.2.2.2.1∧kF ag.u8 (c_ 1) h v6 x.2.2.2.2.2.2.1∧(m9 aX).rd h c9 x.2.2.2.2.2.2.2.1∧(m8 aX).rd h bk x.2.2.2.2.2.2.2.2.1∧mC (gj aX) (mT 1) h eD x.2.2.2.2.2.2.2.2.2.1∧(sN aX).rd h bB x.2.2.2.2.2.2.2.2.2.2.1:=by
 obtain ⟨_,_,rfl,rfl,_,_,rfl,⟨rfl,h1⟩,_,_,rfl,⟨rfl,h2⟩,_,_,rfl,⟨rfl,h3⟩,_,_,rfl,⟨rfl,h4⟩,cD,_,rfl,q2,_,_,rfl,⟨v6,rfl,p6⟩,c9,_,rfl,wR,bk,_,rfl,yH,_,_,rfl,⟨eD,rfl,wT⟩,bB,_,rfl,yE,_,_,rfl,⟨rfl,k8⟩,rfl⟩:=r;exact ⟨cD,v6,c9,bk,eD,bB,rfl,h1,h2,h3,h4,k8,q2,p6,wR,yH,wT,yE⟩
theorem Yt {r:Fr} {cs:List Value} {x:aP} (h:ck.rel r cs x) (hb:jD 100000000000 x) :
  aj prog 19 #[.agg cs.toArray] r [] (aF fun v aa=>∃ a8 bk a9 bc c6 bB cQ bG cR bD cS bE cT bF b_ bn dV cx dW cn cY bJ cX bI dX cq,v=.agg #[aT x.1,.int .i64 x.2.1,.int .i64 x.2.2.1,.string (str x.2.2.2.1),.string (str x.2.2.2.2.1),.int .i64 x.2.2.2.2.2.1.1,.int .i64 x.2.2.2.2.2.1.2.1,.int .i64 x.2.2.2.2.2.1.2.2.1,.slice a8 x.2.2.2.2.2.1.2.2.2.1.length bk,.slice a9 x.2.2.2.2.2.1.2.2.2.2.1.length bc,.slice c6 x.2.2.2.2.2.2.1.length bB,.slice cQ x.2.2.2.2.2.2.2.1.1.length bG,.slice cR x.2.2.2.2.2.2.2.1.2.1.length bD,aT x.2.2.2.2.2.2.2.2.1.1,.slice cS x.2.2.2.2.2.2.2.2.1.2.1.length bE,.slice cT x.2.2.2.2.2.2.2.2.1.2.2.1.length bF,.slice b_ x.2.2.2.2.2.2.2.2.1.2.2.2.1.length bn,.slice dV x.2.2.2.2.2.2.2.2.2.1.length cx,.int .i64 x.2.2.2.2.2.2.2.2.2.2.1.1.1,.int .i64 x.2.2.2.2.2.2.2.2.2.2.1.1.2.1,.int .i64 x.2.2.2.2.2.2.2.2.2.2.1.1.2.2.1,.slice dW x.2.2.2.2.2.2.2.2.2.2.1.1.2.2.2.1.length cn,.slice cY x.2.2.2.2.2.2.2.2.2.2.1.1.2.2.2.2.1.length bJ,.int .i64 x.2.2.2.2.2.2.2.2.2.2.1.2.1.1,.int .i64 x.2.2.2.2.2.2.2.2.2.2.1.2.1.2.1,.int .i64 x.2.2.2.2.2.2.2.2.2.2.1.2.1.2.2.1,.slice cX x.2.2.2.2.2.2.2.2.2.2.1.2.1.2.2.2.1.length bI,.slice dX x.2.2.2.2.2.2.2.2.2.2.1.2.1.2.2.2.2.1.length cq,.int .i64 x.2.2.2.2.2.2.2.2.2.2.2.1]∧aa=[(rA aX).own [aT x.1,.int .i64 x.2.1,.int .i64 x.2.2.1,.string (str x.2.2.2.1),.string (str x.2.2.2.2.1),.int .i64 x.2.2.2.2.2.1.1,.int .i64 x.2.2.2.2.2.1.2.1,.int .i64 x.2.2.2.2.2.1.2.2.1,.slice a8 x.2.2.2.2.2.1.2.2.2.1.length bk,.slice a9 x.2.2.2.2.2.1.2.2.2.2.1.length bc,.slice c6 x.2.2.2.2.2.2.1.length bB,.slice cQ x.2.2.2.2.2.2.2.1.1.length bG,.slice cR x.2.2.2.2.2.2.2.1.2.1.length bD,aT x.2.2.2.2.2.2.2.2.1.1,.slice cS x.2.2.2.2.2.2.2.2.1.2.1.length bE,.slice cT x.2.2.2.2.2.2.2.2.1.2.2.1.length bF,.slice b_ x.2.2.2.2.2.2.2.2.1.2.2.2.1.length bn,.slice dV x.2.2.2.2.2.2.2.2.2.1.length cx,.int .i64 x.2.2.2.2.2.2.2.2.2.2.1.1.1,.int .i64 x.2.2.2.2.2.2.2.2.2.2.1.1.2.1,.int .i64 x.2.2.2.2.2.2.2.2.2.2.1.1.2.2.1,.slice dW x.2.2.2.2.2.2.2.2.2.2.1.1.2.2.2.1.length cn,.slice cY x.2.2.2.2.2.2.2.2.2.2.1.1.2.2.2.2.1.length bJ,.int .i64 x.2.2.2.2.2.2.2.2.2.2.1.2.1.1,.int .i64 x.2.2.2.2.2.2.2.2.2.2.1.2.1.2.1,.int .i64 x.2.2.2.2.2.2.2.2.2.2.1.2.1.2.2.1,.slice cX x.2.2.2.2.2.2.2.2.2.2.1.2.1.2.2.2.1.length bI,.slice dX x.2.2.2.2.2.2.2.2.2.2.1.2.1.2.2.2.2.1.length cq,.int .i64 x.2.2.2.2.2.2.2.2.2.2.2.1] x]):=by
 obtain ⟨sF,sG,adU,adV,adW,adX,adY,adZ,ad0,ad2,ad3,ad4,ad5,sH,sI,ad7,ad8,ad9,ad_,ad',aea,aeb,aed,aee,aef,aeg,rfl,k1,k2,aI,fo,cv,bV,pW,iQ,qR,H8,AF,H9,H_,Ia,Ib,Ic,Ni,Nj,Nk,Ie,Ig,Nl,Nm,Nn,Ih,Ii,No⟩:=ck.sh h;obtain ⟨nM,wI,wJ,wK,Zm,IX,IY,IZ,I0,I1,AY,I2,I3,I4,I5⟩:=hb;refine aj.o func19 fun g hg R hR=>?_;have iQ:=iQ.mono hg;have qR:=qR.mono hg;have H8:=H8.mono hg;have AF:=AF.mono hg;have H9:=H9.mono hg;have H_:=H_.mono hg;have Ia:=Ia.mono hg;have Ib:=Ib.mono hg;have Ic:=Ic.mono hg;have Ie:=Ie.mono hg;have Ig:=Ig.mono hg;have Ih:=Ih.mono hg;have Ii:=Ii.mono hg;refine S.seq<|S.region rfl<|O.aD (.p rfl) (.box (cs:=[_,_,_,_,_,_,_,_,_,_,_,_,_,_,_,_,_,_,_,_,_,_,_,_,_,_,_,_,_]) rfl rfl) ?_;rintro _ _ ⟨b1,rfl,rfl⟩;refine O.aD (.p rfl) (.alloc (cs:=[.int .u8 0,.int .i64 0,.int .i64 0,.string ⟨#[]⟩,.string ⟨#[]⟩,.int .i64 0,.int .i64 0,.int .i64 0,.slice none 0 0,.slice none 0 0,.slice none 0 0,.slice none 0 0,.slice none 0 0,.int .u8 0,.slice none 0 0,.slice none 0 0,.slice none 0 0,.slice none 0 0,.int .i64 0,.int .i64 0,.int .i64 0,.slice none 0 0,.slice none 0 0,.int .i64 0,.int .i64 0,.int .i64 0,.slice none 0 0,.slice none 0 0,.int .i64 0]) zeroValue41 rfl) ?_;rintro _ _ ⟨b2,rfl,rfl⟩;refine U 5 ?_
 refine O.aN (.p rfl) rfl af rfl rfl ((It (x:=x.2.2.2.2.2.1) (bx.mk cv bV pW iQ qR) ⟨wJ,wK⟩)) ?_;rintro _ _ ⟨a8,bk,a9,bc,rfl,rfl⟩;refine U 7 ?_;refine O.aN (.p rfl) rfl af rfl rfl ((Yx (x:=x.2.2.2.2.2.2.2.1) (fB.mk AF H9) ⟨IX,IY⟩)) ?_;rintro _ _ ⟨cQ,bG,cR,bD,rfl,rfl⟩;refine U 7 ?_;refine O.aN (.p rfl) rfl af rfl rfl ((Yw (x:=x.2.2.2.2.2.2.2.2.1) (fj.mk H_ Ia Ib) ⟨IZ,I0,I1⟩)) ?_;rintro _ _ ⟨cS,bE,cT,bF,b_,bn,rfl,rfl⟩;refine U 7 ?_;refine O.aN (.p rfl) rfl af rfl rfl ((NK Ic AY.2 AY.1)) ?_;rintro _ _ ⟨dV,cx,rfl,rfl⟩;refine U 7 ?_;refine O.aN (.p rfl) rfl af rfl rfl ((Ys (x:=x.2.2.2.2.2.2.2.2.2.2.1) (eK.mk Ni Nj Nk Ie Ig Nl Nm Nn Ih Ii) ⟨I2,I3,I4,I5⟩)) ?_;rintro _ _ ⟨dW,cn,cY,bJ,cX,bI,dX,cq,rfl,rfl⟩;refine U 7 ?_;refine O.aN (.p rfl) rfl af rfl rfl ((sO H8 ai)) ?_;rintro _ _ ⟨c6,bB,rfl,rfl⟩;refine U 7 ?_
 refine O.nil<|S.oS (A:=(rA aX).own [aT x.1,.int .i64 x.2.1,.int .i64 x.2.2.1,.string (str x.2.2.2.1),.string (str x.2.2.2.2.1),.int .i64 x.2.2.2.2.2.1.1,.int .i64 x.2.2.2.2.2.1.2.1,.int .i64 x.2.2.2.2.2.1.2.2.1,.slice a8 x.2.2.2.2.2.1.2.2.2.1.length bk,.slice a9 x.2.2.2.2.2.1.2.2.2.2.1.length bc,.slice c6 x.2.2.2.2.2.2.1.length bB,.slice cQ x.2.2.2.2.2.2.2.1.1.length bG,.slice cR x.2.2.2.2.2.2.2.1.2.1.length bD,aT x.2.2.2.2.2.2.2.2.1.1,.slice cS x.2.2.2.2.2.2.2.2.1.2.1.length bE,.slice cT x.2.2.2.2.2.2.2.2.1.2.2.1.length bF,.slice b_ x.2.2.2.2.2.2.2.2.1.2.2.2.1.length bn,.slice dV x.2.2.2.2.2.2.2.2.2.1.length cx,.int .i64 x.2.2.2.2.2.2.2.2.2.2.1.1.1,.int .i64 x.2.2.2.2.2.2.2.2.2.2.1.1.2.1,.int .i64 x.2.2.2.2.2.2.2.2.2.2.1.1.2.2.1,.slice dW x.2.2.2.2.2.2.2.2.2.2.1.1.2.2.2.1.length cn,.slice cY x.2.2.2.2.2.2.2.2.2.2.1.1.2.2.2.2.1.length bJ,.int .i64 x.2.2.2.2.2.2.2.2.2.2.1.2.1.1,.int .i64 x.2.2.2.2.2.2.2.2.2.2.1.2.1.2.1,.int .i64 x.2.2.2.2.2.2.2.2.2.2.1.2.1.2.2.1,.slice cX x.2.2.2.2.2.2.2.2.2.2.1.2.1.2.2.2.1.length bI,.slice dX x.2.2.2.2.2.2.2.2.2.2.1.2.1.2.2.2.2.1.length cq,.int .i64 x.2.2.2.2.2.2.2.2.2.2.2.1] x) (bs:=[(gu aX).own [.int .i64 x.2.2.2.2.2.1.1,.int .i64 x.2.2.2.2.2.1.2.1,.int .i64 x.2.2.2.2.2.1.2.2.1,.slice a8 x.2.2.2.2.2.1.2.2.2.1.length bk,.slice a9 x.2.2.2.2.2.1.2.2.2.2.1.length bc] x.2.2.2.2.2.1,jg ag.u8 aX.u8 (c_ 1) (.slice c6 x.2.2.2.2.2.2.1.length bB) x.2.2.2.2.2.2.1,(m9 aX).own [.slice cQ x.2.2.2.2.2.2.2.1.1.length bG,.slice cR x.2.2.2.2.2.2.2.1.2.1.length bD] x.2.2.2.2.2.2.2.1,(m8 aX).own [aT x.2.2.2.2.2.2.2.2.1.1,.slice cS x.2.2.2.2.2.2.2.2.1.2.1.length bE,.slice cT x.2.2.2.2.2.2.2.2.1.2.2.1.length bF,.slice b_ x.2.2.2.2.2.2.2.2.1.2.2.2.1.length bn] x.2.2.2.2.2.2.2.2.1,iI (gj aX) aX.mV (mT 1) (.slice dV x.2.2.2.2.2.2.2.2.2.1.length cx) x.2.2.2.2.2.2.2.2.2.1,(sN aX).own [.int .i64 x.2.2.2.2.2.2.2.2.2.2.1.1.1,.int .i64 x.2.2.2.2.2.2.2.2.2.2.1.1.2.1,.int .i64 x.2.2.2.2.2.2.2.2.2.2.1.1.2.2.1,.slice dW x.2.2.2.2.2.2.2.2.2.2.1.1.2.2.2.1.length cn,.slice cY x.2.2.2.2.2.2.2.2.2.2.1.1.2.2.2.2.1.length bJ,.int .i64 x.2.2.2.2.2.2.2.2.2.2.1.2.1.1,.int .i64 x.2.2.2.2.2.2.2.2.2.2.1.2.1.2.1,.int .i64 x.2.2.2.2.2.2.2.2.2.2.1.2.1.2.2.1,.slice cX x.2.2.2.2.2.2.2.2.2.2.1.2.1.2.2.2.1.length bI,.slice dX x.2.2.2.2.2.2.2.2.2.2.1.2.1.2.2.2.2.1.length cq] x.2.2.2.2.2.2.2.2.2.2.1]) ct (fun m y=>TG (x:=x) (cD:=[.int .i64 x.2.2.2.2.2.1.1,.int .i64 x.2.2.2.2.2.1.2.1,.int .i64 x.2.2.2.2.2.1.2.2.1,.slice a8 x.2.2.2.2.2.1.2.2.2.1.length bk,.slice a9 x.2.2.2.2.2.1.2.2.2.2.1.length bc]) (c9:=[.slice cQ x.2.2.2.2.2.2.2.1.1.length bG,.slice cR x.2.2.2.2.2.2.2.1.2.1.length bD]) (bk:=[aT x.2.2.2.2.2.2.2.2.1.1,.slice cS x.2.2.2.2.2.2.2.2.1.2.1.length bE,.slice cT x.2.2.2.2.2.2.2.2.1.2.2.1.length bF,.slice b_ x.2.2.2.2.2.2.2.2.1.2.2.2.1.length bn]) (bB:=[.int .i64 x.2.2.2.2.2.2.2.2.2.2.1.1.1,.int .i64 x.2.2.2.2.2.2.2.2.2.2.1.1.2.1,.int .i64 x.2.2.2.2.2.2.2.2.2.2.1.1.2.2.1,.slice dW x.2.2.2.2.2.2.2.2.2.2.1.1.2.2.2.1.length cn,.slice cY x.2.2.2.2.2.2.2.2.2.2.1.1.2.2.2.2.1.length bJ,.int .i64 x.2.2.2.2.2.2.2.2.2.2.1.2.1.1,.int .i64 x.2.2.2.2.2.2.2.2.2.2.1.2.1.2.1,.int .i64 x.2.2.2.2.2.2.2.2.2.2.1.2.1.2.2.1,.slice cX x.2.2.2.2.2.2.2.2.2.2.1.2.1.2.2.2.1.length bI,.slice dX x.2.2.2.2.2.2.2.2.2.2.1.2.1.2.2.2.2.1.length cq]) k1 k2 aI fo No y) ?_
 refine S.mW results19 isAgg41 af rfl an fun w hw=>ax.end_ hR hw ?_;exact pk ⟨a8,bk,a9,bc,c6,bB,cQ,bG,cR,bD,cS,bE,cT,bF,b_,bn,dV,cx,dW,cn,cY,bJ,cX,bI,dX,cq,rfl,rfl⟩
theorem Nr {r:Fr} {cs ds:List Value} {x:aP} (h:(rA aX).rd r cs x) (hy:ck.rel r ds x) (hb:jD 100000000000 x) :
  aj prog 23 #[.agg cs.toArray,.agg ds.toArray] r [] (aF fun v aa=>v=.bool true∧aa=[]):=by
 have hx:=(rA aX).rel h;obtain ⟨cD,v10,c9,bk,ie,bB,rfl,k1,k2,aI,fo,No,q2,p6,wR,yH,wT,yE⟩:=TH h;have gL:=q2;have gU:=wR;have bU:=yH;have bO:=yE;obtain ⟨ey,eD,rfl,cv,bV,pW,aau,aaw⟩:=gu.lO q2;obtain ⟨v11,jx,rfl,ah9,ah_⟩:=m9.lO wR;obtain ⟨ic,iC,jc,rfl,ah',aia,aib⟩:=m8.lO yH;obtain ⟨d1,d2,rfl,r1,r2⟩:=aM.OW (A:=gu aX) (B:=gu aX) yE;obtain ⟨ig,iD,rfl,Ni,Nj,Nk,aap,aic⟩:=gu.lO r1;obtain ⟨ij,iE,rfl,Nl,Nm,Nn,aid,OH⟩:=gu.lO r2;obtain ⟨Kp,Kq,aep,aeq,aer,aes,aet,aeu,aev,aex,aey,aez,aeA,Ks,Kt,aeC,aeD,aeE,aeF,aeG,aeH,aeI,aeK,aeL,aeM,aeN,rfl,fM,m4,gM,m5,oH,oI,xq,nT,nU,yV,xf,xg,xh,xj,xk,yW,Ku,Kv,Kw,xl,xm,Kx,Ky,Kz,xo,xp,aeP⟩:=ck.sh hy;obtain ⟨nM,wI,wJ,wK,Zm,IX,IY,IZ,I0,I1,AY,I2,I3,I4,I5⟩:=hb;refine aj.o func23 fun g hg R hR=>?_;have hx:=hx.mono hg;have hy:=hy.mono hg;have nT:=nT.mono hg;have nU:=nU.mono hg;have yV:=yV.mono hg;have xf:=xf.mono hg;have xg:=xg.mono hg;have xh:=xh.mono hg;have xj:=xj.mono hg;have xk:=xk.mono hg;have yW:=yW.mono hg;have xl:=xl.mono hg;have xm:=xm.mono hg;have xo:=xo.mono hg;have xp:=xp.mono hg;replace gL:=(gu aX).mono hg gL;replace gU:=(m9 aX).mono hg gU
 replace bU:=(m8 aX).mono hg bU;replace bO:=(sN aX).mono hg bO;replace p6:=p6.mono hg;replace wT:=wT.mono hg;refine S.seq<|S.region rfl<|O.aD (.p rfl) (.box (cs:=[_,_,_,_,_,_,_,_,_,_,_,_,_,_,_,_,_,_,_,_,_,_,_,_,_,_,_,_,_]) rfl rfl) ?_;rintro _ _ ⟨b2,rfl,rfl⟩;refine O.aD (.p rfl) (.box (cs:=[_,_,_,_,_,_,_,_,_,_,_,_,_,_,_,_,_,_,_,_,_,_,_,_,_,_,_,_,_]) rfl rfl) ?_;rintro _ _ ⟨b3,rfl,rfl⟩;refine U 6 ?_;refine O.v0 (.p rfl) rfl af rfl rfl ((PA hx hy)) ?_;refine O.sT 7 rfl aH ?_;refine U 5 ?_;refine O.v0 (.g rfl rfl) rfl af rfl rfl ((Ij (x:=x.2.2.2.2.2.1) gL (bx.mk oH oI xq nT nU) ⟨wJ,wK⟩)) ?_;refine U 6 ?_;refine O.v0 (.g rfl rfl) rfl af rfl rfl ((X3 (x:=x.2.2.2.2.2.2.2.1) gU (fB.mk xf xg) ⟨IX,IY⟩)) ?_;refine U 6 ?_;refine O.v0 (.g rfl rfl) rfl af rfl rfl ((X2 (x:=x.2.2.2.2.2.2.2.2.1) bU (fj.mk xh xj xk) ⟨IZ,I0,I1⟩)) ?_;refine U 6 ?_;refine O.v0 (.g rfl rfl) rfl af rfl rfl ((Ns wT yW AY.2 AY.1)) ?_;refine U 6 ?_;refine O.v0 (.g rfl rfl) rfl af rfl rfl ((XZ (x:=x.2.2.2.2.2.2.2.2.2.2.1) bO (eK.mk Ku Kv Kw xl xm Kx Ky Kz xo xp) ⟨I2,I3,I4,I5⟩)) ?_;refine U 6 ?_;refine O.v0 (.g rfl rfl) rfl af rfl rfl ((uW p6 yV ai)) ?_;refine U 3 ?_;exact S.rt results23 rfl hR ⟨rfl,rfl⟩
theorem Ta {r:Fr}:aj prog 81 #[.slice none 0 0] r [] (aF fun v aa=>v=.bool true∧aa=[]):=by
 refine aj.o func81 fun g hg R hR=>?_;refine U 19 ?_;refine S.cd rfl (fun dz=>?_) fun dz=>?_
 ·exact absurd ay aH
 refine U 5 ?_;refine O.aD (.p rfl) (.iR (T:=ag.val) (.slice none 0 0) (m:=0) underlying70 Sr aq ⟨rfl,rfl⟩ rfl rfl rfl rfl aq aq) ?_;rintro _ _ ⟨QR,Rv,rfl,rfl⟩;refine U 17 ?_;refine S.cd rfl (fun z1=>?_) fun z1=>?_
 ·exact absurd ay aH
 refine U 16 ?_;refine S.cd rfl (fun Ge=>?_) fun Ge=>?_
 ·exact absurd ay aH
 refine U 16 ?_;refine S.cd rfl (fun F7=>?_) fun F7=>?_
 ·exact absurd ay aH
 refine U 16 ?_;refine S.cd rfl (fun F8=>?_) fun F8=>?_
 ·exact absurd ay aH
 refine U 5 ?_;exact S.rt results81 rfl hR ⟨rfl,rfl⟩
theorem Tn {r:Fr}:aj prog 82 #[.slice none 0 0] r [] (aF fun v aa=>v=.bool true∧aa=[]):=by
 refine aj.o func82 fun g hg R hR=>?_;refine U 19 ?_;refine S.cd rfl (fun dz=>?_) fun dz=>?_
 ·exact absurd ay aH
 refine U 5 ?_;refine O.aD (.p rfl) (.iR (T:=ag.val) (.slice none 0 0) (m:=0) underlying71 Ss aq ⟨rfl,rfl⟩ rfl rfl rfl rfl aq aq) ?_;rintro _ _ ⟨QR,Rv,rfl,rfl⟩;refine U 17 ?_;refine S.cd rfl (fun z1=>?_) fun z1=>?_
 ·exact absurd ay aH
 refine U 16 ?_;refine S.cd rfl (fun Ge=>?_) fun Ge=>?_
 ·exact absurd ay aH
 refine U 16 ?_;refine S.cd rfl (fun F7=>?_) fun F7=>?_
 ·exact absurd ay aH
 refine U 16 ?_;refine S.cd rfl (fun F8=>?_) fun F8=>?_
 ·exact absurd ay aH
 refine U 5 ?_;exact S.rt results82 rfl hR ⟨rfl,rfl⟩
theorem S9 {r:Fr}:aj prog 83 #[.slice none 0 0] r [] (aF fun v aa=>v=.bool true∧aa=[]):=by
 refine aj.o func83 fun g hg R hR=>?_;refine U 19 ?_;refine S.cd rfl (fun dz=>?_) fun dz=>?_
 ·exact absurd ay aH
 refine U 5 ?_;refine O.aD (.p rfl) (.iR (T:=ag.val) (.slice none 0 0) (m:=0) underlying72 SM aq ⟨rfl,rfl⟩ rfl rfl rfl rfl aq aq) ?_;rintro _ _ ⟨g7,g8,rfl,rfl⟩;refine U 17 ?_;refine S.cd rfl (fun h46=>?_) fun h46=>?_
 ·exact absurd ay aH
 refine U 16 ?_;refine S.cd rfl (fun fe=>?_) fun fe=>?_
 ·exact absurd ay aH
 refine U 16 ?_;refine S.cd rfl (fun e_=>?_) fun e_=>?_
 ·exact absurd ay aH
 refine U 16 ?_;refine S.cd rfl (fun fc=>?_) fun fc=>?_
 ·exact absurd ay aH
 refine U 5 ?_;exact S.rt results83 rfl hR ⟨rfl,rfl⟩
theorem Tb {r:Fr}:aj prog 84 #[.slice none 0 0] r [] (aF fun v aa=>v=.bool true∧aa=[]):=by
 refine aj.o func84 fun g hg R hR=>?_;refine U 19 ?_;refine S.cd rfl (fun dz=>?_) fun dz=>?_
 ·exact absurd ay aH
 refine U 5 ?_;refine O.aD (.p rfl) (.iR (T:=ag.val) (.slice none 0 0) (m:=0) underlying73 St aq ⟨rfl,rfl⟩ rfl rfl rfl rfl aq aq) ?_;rintro _ _ ⟨g7,g8,rfl,rfl⟩;refine U 17 ?_;refine S.cd rfl (fun h46=>?_) fun h46=>?_
 ·exact absurd ay aH
 refine U 16 ?_;refine S.cd rfl (fun fe=>?_) fun fe=>?_
 ·exact absurd ay aH
 refine U 16 ?_;refine S.cd rfl (fun e_=>?_) fun e_=>?_
 ·exact absurd ay aH
 refine U 16 ?_;refine S.cd rfl (fun fc=>?_) fun fc=>?_
 ·exact absurd ay aH
 refine U 5 ?_;exact S.rt results84 rfl hR ⟨rfl,rfl⟩
theorem Tl {r:Fr}:aj prog 85 #[.slice none 0 0] r [] (aF fun v aa=>v=.bool true∧aa=[]):=by
 refine aj.o func85 fun g hg R hR=>?_;refine U 19 ?_;refine S.cd rfl (fun dz=>?_) fun dz=>?_
 ·exact absurd ay aH
 refine U 5 ?_;refine O.aD (.p rfl) (.iR (T:=ag.val) (.slice none 0 0) (m:=0) underlying74 Su aq ⟨rfl,rfl⟩ rfl rfl rfl rfl aq aq) ?_;rintro _ _ ⟨g7,g8,rfl,rfl⟩;refine U 17 ?_;refine S.cd rfl (fun h46=>?_) fun h46=>?_
 ·exact absurd ay aH
 refine U 16 ?_;refine S.cd rfl (fun fe=>?_) fun fe=>?_
 ·exact absurd ay aH
 refine U 16 ?_;refine S.cd rfl (fun e_=>?_) fun e_=>?_
 ·exact absurd ay aH
 refine U 16 ?_;refine S.cd rfl (fun fc=>?_) fun fc=>?_
 ·exact absurd ay aH
 refine U 5 ?_;exact S.rt results85 rfl hR ⟨rfl,rfl⟩
theorem Tm {r:Fr}:aj prog 87 #[.slice none 0 0] r [] (aF fun v aa=>v=.bool true∧aa=[]):=by
 refine aj.o func87 fun g hg R hR=>?_;refine U 19 ?_;refine S.cd rfl (fun dz=>?_) fun dz=>?_
 ·exact absurd ay aH
 refine U 5 ?_;refine O.aD (.p rfl) (.iR (T:=ag.val) (.slice none 0 0) (m:=0) underlying75 Sv aq ⟨rfl,rfl⟩ rfl rfl rfl rfl aq aq) ?_;rintro _ _ ⟨zl,zA,rfl,rfl⟩;refine U 17 ?_;refine S.cd rfl (fun h48=>?_) fun h48=>?_
 ·exact absurd ay aH
 refine U 16 ?_;refine S.cd rfl (fun z3=>?_) fun z3=>?_
 ·exact absurd ay aH
 refine U 16 ?_;refine S.cd rfl (fun T0=>?_) fun T0=>?_
 ·exact absurd ay aH
 refine U 16 ?_;refine S.cd rfl (fun T2=>?_) fun T2=>?_
 ·exact absurd ay aH
 refine U 5 ?_;exact S.rt results87 rfl hR ⟨rfl,rfl⟩
theorem Th {r:Fr}:aj prog 88 #[.slice none 0 0] r [] (aF fun v aa=>v=.bool true∧aa=[]):=by
 refine aj.o func88 fun g hg R hR=>?_;refine U 19 ?_;refine S.cd rfl (fun dz=>?_) fun dz=>?_
 ·exact absurd ay aH
 refine U 5 ?_;refine O.aD (.p rfl) (.iR (T:=ag.val) (.slice none 0 0) (m:=0) underlying76 SH aq ⟨rfl,rfl⟩ rfl rfl rfl rfl aq aq) ?_;rintro _ _ ⟨g7,g8,rfl,rfl⟩;refine U 17 ?_;refine S.cd rfl (fun h46=>?_) fun h46=>?_
 ·exact absurd ay aH
 refine U 16 ?_;refine S.cd rfl (fun fe=>?_) fun fe=>?_
 ·exact absurd ay aH
 refine U 16 ?_;refine S.cd rfl (fun e_=>?_) fun e_=>?_
 ·exact absurd ay aH
 refine U 16 ?_;refine S.cd rfl (fun fc=>?_) fun fc=>?_
 ·exact absurd ay aH
 refine U 5 ?_;exact S.rt results88 rfl hR ⟨rfl,rfl⟩
theorem S3 {r:Fr}:aj prog 89 #[.slice none 0 0] r [] (aF fun v aa=>v=.bool true∧aa=[]):=by
 refine aj.o func89 fun g hg R hR=>?_;refine U 19 ?_;refine S.cd rfl (fun dz=>?_) fun dz=>?_
 ·exact absurd ay aH
 refine U 5 ?_;refine O.aD (.p rfl) (.iR (T:=ag.val) (.slice none 0 0) (m:=0) underlying77 Sq aq ⟨rfl,rfl⟩ rfl rfl rfl rfl aq aq) ?_;rintro _ _ ⟨g7,g8,rfl,rfl⟩;refine U 17 ?_;refine S.cd rfl (fun h46=>?_) fun h46=>?_
 ·exact absurd ay aH
 refine U 16 ?_;refine S.cd rfl (fun fe=>?_) fun fe=>?_
 ·exact absurd ay aH
 refine U 16 ?_;refine S.cd rfl (fun e_=>?_) fun e_=>?_
 ·exact absurd ay aH
 refine U 16 ?_;refine S.cd rfl (fun fc=>?_) fun fc=>?_
 ·exact absurd ay aH
 refine U 5 ?_;exact S.rt results89 rfl hR ⟨rfl,rfl⟩
theorem Tf {r:Fr}:aj prog 90 #[.slice none 0 0] r [] (aF fun v aa=>v=.bool true∧aa=[]):=by
 refine aj.o func90 fun g hg R hR=>?_;refine U 19 ?_;refine S.cd rfl (fun dz=>?_) fun dz=>?_
 ·exact absurd ay aH
 refine U 5 ?_;refine O.aD (.p rfl) (.iR (T:=ag.val) (.slice none 0 0) (m:=0) underlying78 SK aq ⟨rfl,rfl⟩ rfl rfl rfl rfl aq aq) ?_;rintro _ _ ⟨g7,g8,rfl,rfl⟩;refine U 17 ?_;refine S.cd rfl (fun h46=>?_) fun h46=>?_
 ·exact absurd ay aH
 refine U 16 ?_;refine S.cd rfl (fun fe=>?_) fun fe=>?_
 ·exact absurd ay aH
 refine U 16 ?_;refine S.cd rfl (fun e_=>?_) fun e_=>?_
 ·exact absurd ay aH
 refine U 16 ?_;refine S.cd rfl (fun fc=>?_) fun fc=>?_
 ·exact absurd ay aH
 refine U 5 ?_;exact S.rt results90 rfl hR ⟨rfl,rfl⟩
theorem S_ {r:Fr}:aj prog 91 #[.slice none 0 0] r [] (aF fun v aa=>v=.bool true∧aa=[]):=by
 refine aj.o func91 fun g hg R hR=>?_;refine U 19 ?_;refine S.cd rfl (fun dz=>?_) fun dz=>?_
 ·exact absurd ay aH
 refine U 5 ?_;refine O.aD (.p rfl) (.iR (T:=ag.val) (.slice none 0 0) (m:=0) underlying79 SJ aq ⟨rfl,rfl⟩ rfl rfl rfl rfl aq aq) ?_;rintro _ _ ⟨g7,g8,rfl,rfl⟩;refine U 17 ?_;refine S.cd rfl (fun h46=>?_) fun h46=>?_
 ·exact absurd ay aH
 refine U 16 ?_;refine S.cd rfl (fun fe=>?_) fun fe=>?_
 ·exact absurd ay aH
 refine U 16 ?_;refine S.cd rfl (fun e_=>?_) fun e_=>?_
 ·exact absurd ay aH
 refine U 16 ?_;refine S.cd rfl (fun fc=>?_) fun fc=>?_
 ·exact absurd ay aH
 refine U 5 ?_;exact S.rt results91 rfl hR ⟨rfl,rfl⟩
theorem S7 {r:Fr}:aj prog 92 #[.slice none 0 0] r [] (aF fun v aa=>v=.bool true∧aa=[]):=by
 refine aj.o func92 fun g hg R hR=>?_;refine U 19 ?_;refine S.cd rfl (fun dz=>?_) fun dz=>?_
 ·exact absurd ay aH
 refine U 5 ?_;refine O.aD (.p rfl) (.iR (T:=ag.val) (.slice none 0 0) (m:=0) underlying80 Sw aq ⟨rfl,rfl⟩ rfl rfl rfl rfl aq aq) ?_;rintro _ _ ⟨g7,g8,rfl,rfl⟩;refine U 17 ?_;refine S.cd rfl (fun h46=>?_) fun h46=>?_
 ·exact absurd ay aH
 refine U 16 ?_;refine S.cd rfl (fun fe=>?_) fun fe=>?_
 ·exact absurd ay aH
 refine U 16 ?_;refine S.cd rfl (fun e_=>?_) fun e_=>?_
 ·exact absurd ay aH
 refine U 16 ?_;refine S.cd rfl (fun fc=>?_) fun fc=>?_
 ·exact absurd ay aH
 refine U 5 ?_;exact S.rt results92 rfl hR ⟨rfl,rfl⟩
theorem Tc {r:Fr}:aj prog 93 #[.slice none 0 0] r [] (aF fun v aa=>v=.bool true∧aa=[]):=by
 refine aj.o func93 fun g hg R hR=>?_;refine U 19 ?_;refine S.cd rfl (fun dz=>?_) fun dz=>?_
 ·exact absurd ay aH
 refine U 5 ?_;refine O.aD (.p rfl) (.iR (T:=ag.val) (.slice none 0 0) (m:=0) underlying81 Sx aq ⟨rfl,rfl⟩ rfl rfl rfl rfl aq aq) ?_;rintro _ _ ⟨g7,g8,rfl,rfl⟩;refine U 17 ?_;refine S.cd rfl (fun h46=>?_) fun h46=>?_
 ·exact absurd ay aH
 refine U 16 ?_;refine S.cd rfl (fun fe=>?_) fun fe=>?_
 ·exact absurd ay aH
 refine U 16 ?_;refine S.cd rfl (fun e_=>?_) fun e_=>?_
 ·exact absurd ay aH
 refine U 16 ?_;refine S.cd rfl (fun fc=>?_) fun fc=>?_
 ·exact absurd ay aH
 refine U 5 ?_;exact S.rt results93 rfl hR ⟨rfl,rfl⟩
theorem Tj {r:Fr}:aj prog 94 #[.slice none 0 0] r [] (aF fun v aa=>v=.bool true∧aa=[]):=by
 refine aj.o func94 fun g hg R hR=>?_;refine U 19 ?_;refine S.cd rfl (fun dz=>?_) fun dz=>?_
 ·exact absurd ay aH
 refine U 5 ?_;refine O.aD (.p rfl) (.iR (T:=ag.val) (.slice none 0 0) (m:=0) underlying82 SI aq ⟨rfl,rfl⟩ rfl rfl rfl rfl aq aq) ?_;rintro _ _ ⟨g7,g8,rfl,rfl⟩;refine U 17 ?_;refine S.cd rfl (fun h46=>?_) fun h46=>?_
 ·exact absurd ay aH
 refine U 16 ?_;refine S.cd rfl (fun fe=>?_) fun fe=>?_
 ·exact absurd ay aH
 refine U 16 ?_;refine S.cd rfl (fun e_=>?_) fun e_=>?_
 ·exact absurd ay aH
 refine U 16 ?_;refine S.cd rfl (fun fc=>?_) fun fc=>?_
 ·exact absurd ay aH
 refine U 5 ?_;exact S.rt results94 rfl hR ⟨rfl,rfl⟩
theorem Te {r:Fr}:aj prog 95 #[.slice none 0 0] r [] (aF fun v aa=>v=.bool true∧aa=[]):=by
 refine aj.o func95 fun g hg R hR=>?_;refine U 19 ?_;refine S.cd rfl (fun dz=>?_) fun dz=>?_
 ·exact absurd ay aH
 refine U 5 ?_;refine O.aD (.p rfl) (.iR (T:=ag.val) (.slice none 0 0) (m:=0) underlying83 Sy aq ⟨rfl,rfl⟩ rfl rfl rfl rfl aq aq) ?_;rintro _ _ ⟨g7,g8,rfl,rfl⟩;refine U 17 ?_;refine S.cd rfl (fun h46=>?_) fun h46=>?_
 ·exact absurd ay aH
 refine U 16 ?_;refine S.cd rfl (fun fe=>?_) fun fe=>?_
 ·exact absurd ay aH
 refine U 16 ?_;refine S.cd rfl (fun e_=>?_) fun e_=>?_
 ·exact absurd ay aH
 refine U 16 ?_;refine S.cd rfl (fun fc=>?_) fun fc=>?_
 ·exact absurd ay aH
 refine U 5 ?_;exact S.rt results95 rfl hR ⟨rfl,rfl⟩
theorem Tg {r:Fr}:aj prog 96 #[.slice none 0 0] r [] (aF fun v aa=>v=.bool true∧aa=[]):=by
 refine aj.o func96 fun g hg R hR=>?_;refine U 19 ?_;refine S.cd rfl (fun dz=>?_) fun dz=>?_
 ·exact absurd ay aH
 refine U 5 ?_;refine O.aD (.p rfl) (.iR (T:=ag.val) (.slice none 0 0) (m:=0) underlying84 Sz aq ⟨rfl,rfl⟩ rfl rfl rfl rfl aq aq) ?_;rintro _ _ ⟨g7,g8,rfl,rfl⟩;refine U 17 ?_;refine S.cd rfl (fun h46=>?_) fun h46=>?_
 ·exact absurd ay aH
 refine U 16 ?_;refine S.cd rfl (fun fe=>?_) fun fe=>?_
 ·exact absurd ay aH
 refine U 16 ?_;refine S.cd rfl (fun e_=>?_) fun e_=>?_
 ·exact absurd ay aH
 refine U 16 ?_;refine S.cd rfl (fun fc=>?_) fun fc=>?_
 ·exact absurd ay aH
 refine U 5 ?_;exact S.rt results96 rfl hR ⟨rfl,rfl⟩
theorem S5 {r:Fr}:aj prog 97 #[.slice none 0 0] r [] (aF fun v aa=>v=.bool true∧aa=[]):=by
 refine aj.o func97 fun g hg R hR=>?_;refine U 19 ?_;refine S.cd rfl (fun dz=>?_) fun dz=>?_
 ·exact absurd ay aH
 refine U 5 ?_;refine O.aD (.p rfl) (.iR (T:=ag.val) (.slice none 0 0) (m:=0) underlying85 SA aq ⟨rfl,rfl⟩ rfl rfl rfl rfl aq aq) ?_;rintro _ _ ⟨g7,g8,rfl,rfl⟩;refine U 17 ?_;refine S.cd rfl (fun h46=>?_) fun h46=>?_
 ·exact absurd ay aH
 refine U 16 ?_;refine S.cd rfl (fun fe=>?_) fun fe=>?_
 ·exact absurd ay aH
 refine U 16 ?_;refine S.cd rfl (fun e_=>?_) fun e_=>?_
 ·exact absurd ay aH
 refine U 16 ?_;refine S.cd rfl (fun fc=>?_) fun fc=>?_
 ·exact absurd ay aH
 refine U 5 ?_;exact S.rt results97 rfl hR ⟨rfl,rfl⟩
theorem S6 {r:Fr}:aj prog 98 #[.slice none 0 0] r [] (aF fun v aa=>v=.bool true∧aa=[]):=by
 refine aj.o func98 fun g hg R hR=>?_;refine U 19 ?_;refine S.cd rfl (fun dz=>?_) fun dz=>?_
 ·exact absurd ay aH
 refine U 5 ?_;refine O.aD (.p rfl) (.iR (T:=ag.val) (.slice none 0 0) (m:=0) underlying48 SL aq ⟨rfl,rfl⟩ rfl rfl rfl rfl aq aq) ?_;rintro _ _ ⟨g7,g8,rfl,rfl⟩;refine U 17 ?_;refine S.cd rfl (fun h46=>?_) fun h46=>?_
 ·exact absurd ay aH
 refine U 16 ?_;refine S.cd rfl (fun fe=>?_) fun fe=>?_
 ·exact absurd ay aH
 refine U 16 ?_;refine S.cd rfl (fun e_=>?_) fun e_=>?_
 ·exact absurd ay aH
 refine U 16 ?_;refine S.cd rfl (fun fc=>?_) fun fc=>?_
 ·exact absurd ay aH
 refine U 5 ?_;exact S.rt results98 rfl hR ⟨rfl,rfl⟩
theorem Td {r:Fr}:aj prog 99 #[.slice none 0 0] r [] (aF fun v aa=>v=.bool true∧aa=[]):=by
 refine aj.o func99 fun g hg R hR=>?_;refine U 19 ?_;refine S.cd rfl (fun dz=>?_) fun dz=>?_
 ·exact absurd ay aH
 refine U 5 ?_;refine O.aD (.p rfl) (.iR (T:=ag.val) (.slice none 0 0) (m:=0) underlying86 SB aq ⟨rfl,rfl⟩ rfl rfl rfl rfl aq aq) ?_;rintro _ _ ⟨g7,g8,rfl,rfl⟩;refine U 17 ?_;refine S.cd rfl (fun h46=>?_) fun h46=>?_
 ·exact absurd ay aH
 refine U 16 ?_;refine S.cd rfl (fun fe=>?_) fun fe=>?_
 ·exact absurd ay aH
 refine U 16 ?_;refine S.cd rfl (fun e_=>?_) fun e_=>?_
 ·exact absurd ay aH
 refine U 16 ?_;refine S.cd rfl (fun fc=>?_) fun fc=>?_
 ·exact absurd ay aH
 refine U 5 ?_;exact S.rt results99 rfl hR ⟨rfl,rfl⟩
theorem S4 {r:Fr}:aj prog 100 #[.slice none 0 0] r [] (aF fun v aa=>v=.bool true∧aa=[]):=by
 refine aj.o func100 fun g hg R hR=>?_;refine U 19 ?_;refine S.cd rfl (fun dz=>?_) fun dz=>?_
 ·exact absurd ay aH
 refine U 5 ?_;refine O.aD (.p rfl) (.iR (T:=ag.val) (.slice none 0 0) (m:=0) underlying87 SC aq ⟨rfl,rfl⟩ rfl rfl rfl rfl aq aq) ?_;rintro _ _ ⟨g7,g8,rfl,rfl⟩;refine U 17 ?_;refine S.cd rfl (fun h46=>?_) fun h46=>?_
 ·exact absurd ay aH
 refine U 16 ?_;refine S.cd rfl (fun fe=>?_) fun fe=>?_
 ·exact absurd ay aH
 refine U 16 ?_;refine S.cd rfl (fun e_=>?_) fun e_=>?_
 ·exact absurd ay aH
 refine U 16 ?_;refine S.cd rfl (fun fc=>?_) fun fc=>?_
 ·exact absurd ay aH
 refine U 5 ?_;exact S.rt results100 rfl hR ⟨rfl,rfl⟩
theorem S8 {r:Fr}:aj prog 101 #[.slice none 0 0] r [] (aF fun v aa=>v=.bool true∧aa=[]):=by
 refine aj.o func101 fun g hg R hR=>?_;refine U 19 ?_;refine S.cd rfl (fun dz=>?_) fun dz=>?_
 ·exact absurd ay aH
 refine U 5 ?_;refine O.aD (.p rfl) (.iR (T:=ag.val) (.slice none 0 0) (m:=0) underlying88 SD aq ⟨rfl,rfl⟩ rfl rfl rfl rfl aq aq) ?_;rintro _ _ ⟨g7,g8,rfl,rfl⟩;refine U 17 ?_;refine S.cd rfl (fun h46=>?_) fun h46=>?_
 ·exact absurd ay aH
 refine U 16 ?_;refine S.cd rfl (fun fe=>?_) fun fe=>?_
 ·exact absurd ay aH
 refine U 16 ?_;refine S.cd rfl (fun e_=>?_) fun e_=>?_
 ·exact absurd ay aH
 refine U 16 ?_;refine S.cd rfl (fun fc=>?_) fun fc=>?_
 ·exact absurd ay aH
 refine U 5 ?_;exact S.rt results101 rfl hR ⟨rfl,rfl⟩
theorem S2 {r:Fr}:aj prog 102 #[.slice none 0 0] r [] (aF fun v aa=>v=.bool true∧aa=[]):=by
 refine aj.o func102 fun g hg R hR=>?_;refine U 19 ?_;refine S.cd rfl (fun dz=>?_) fun dz=>?_
 ·exact absurd ay aH
 refine U 5 ?_;refine O.aD (.p rfl) (.iR (T:=ag.val) (.slice none 0 0) (m:=0) underlying89 SE aq ⟨rfl,rfl⟩ rfl rfl rfl rfl aq aq) ?_;rintro _ _ ⟨g7,g8,rfl,rfl⟩;refine U 17 ?_;refine S.cd rfl (fun h46=>?_) fun h46=>?_
 ·exact absurd ay aH
 refine U 16 ?_;refine S.cd rfl (fun fe=>?_) fun fe=>?_
 ·exact absurd ay aH
 refine U 16 ?_;refine S.cd rfl (fun e_=>?_) fun e_=>?_
 ·exact absurd ay aH
 refine U 16 ?_;refine S.cd rfl (fun fc=>?_) fun fc=>?_
 ·exact absurd ay aH
 refine U 5 ?_;exact S.rt results102 rfl hR ⟨rfl,rfl⟩
theorem Ti {r:Fr}:aj prog 103 #[.slice none 0 0] r [] (aF fun v aa=>v=.bool true∧aa=[]):=by
 refine aj.o func103 fun g hg R hR=>?_;refine U 19 ?_;refine S.cd rfl (fun dz=>?_) fun dz=>?_
 ·exact absurd ay aH
 refine U 5 ?_;refine O.aD (.p rfl) (.iR (T:=ag.val) (.slice none 0 0) (m:=0) underlying90 SF aq ⟨rfl,rfl⟩ rfl rfl rfl rfl aq aq) ?_;rintro _ _ ⟨g7,g8,rfl,rfl⟩;refine U 17 ?_;refine S.cd rfl (fun h46=>?_) fun h46=>?_
 ·exact absurd ay aH
 refine U 16 ?_;refine S.cd rfl (fun fe=>?_) fun fe=>?_
 ·exact absurd ay aH
 refine U 16 ?_;refine S.cd rfl (fun e_=>?_) fun e_=>?_
 ·exact absurd ay aH
 refine U 16 ?_;refine S.cd rfl (fun fc=>?_) fun fc=>?_
 ·exact absurd ay aH
 refine U 5 ?_;exact S.rt results103 rfl hR ⟨rfl,rfl⟩
theorem Tk {r:Fr}:aj prog 104 #[.slice none 0 0] r [] (aF fun v aa=>v=.bool true∧aa=[]):=by
 refine aj.o func104 fun g hg R hR=>?_;refine U 19 ?_;refine S.cd rfl (fun dz=>?_) fun dz=>?_
 ·exact absurd ay aH
 refine U 5 ?_;refine O.aD (.p rfl) (.iR (T:=ag.val) (.slice none 0 0) (m:=0) underlying91 SG aq ⟨rfl,rfl⟩ rfl rfl rfl rfl aq aq) ?_;rintro _ _ ⟨g7,g8,rfl,rfl⟩;refine U 17 ?_;refine S.cd rfl (fun h46=>?_) fun h46=>?_
 ·exact absurd ay aH
 refine U 16 ?_;refine S.cd rfl (fun fe=>?_) fun fe=>?_
 ·exact absurd ay aH
 refine U 16 ?_;refine S.cd rfl (fun e_=>?_) fun e_=>?_
 ·exact absurd ay aH
 refine U 16 ?_;refine S.cd rfl (fun fc=>?_) fun fc=>?_
 ·exact absurd ay aH
 refine U 5 ?_;exact S.rt results104 rfl hR ⟨rfl,rfl⟩
def kv (k n:Nat):List UInt8:=(List.range n).map fun (i:Nat)=>c_ (k:Int) (i:Int)
@[simp] theorem IK (k n:Nat):(kv k n).length=n:=by simp [kv]
theorem NS (k n:Nat):kv k n++[c_ (k:Int) (n:Int)]=kv k (n+1):=by simp [kv,List.range_succ]
theorem YZ (k:Nat) (zs:List UInt8) (i:Nat) (h:i<zs.length):(kv k i++zs.drop i).set i (c_ (k:Int) (i:Int))=kv k (i+1)++zs.drop (i+1):=by
 rw [List.set_append_right _ _ aH,IK,Nat.sub_self,List.drop_eq_getElem_cons h,List.set_cons_zero,← NS];simp
def ov (k n i:Nat):List UInt8:=(List.range i).map fun (q:Nat)=>c_ (k:Int) ((n:Int)+(q:Int))
@[simp] theorem Y2 (k n i:Nat):(ov k n i).length=i:=by simp [ov]
theorem N0 (k n i:Nat):ov k n i++[c_ (k:Int) ((n:Int)+(i:Int))]=ov k n (i+1):=by simp [ov,List.range_succ]
theorem YY (k n i:Nat):kv k n++ov k n i=kv k (n+i):=by
 induction i with
 |zero=>simp [ov]
 |succ i ih=>rw [← N0,← kV,ih,← Nat.add_assoc,← NS];simp
def uo (xss:List (List UInt8)) (k:Nat) (ws:List (List UInt8)):Prop:=ws.map List.length=xss.map List.length∧∀ (j:Nat) (h:j<ws.length),j<k→ws[j]=kv j ws[j].length
theorem uo.len {xss ws:List (List UInt8)} {k:Nat} (h:uo xss k ws):ws.length=xss.length:=by simpa using congrArg List.length h.1
theorem uo.bd {xss ws:List (List UInt8)} {k b:Nat} (h:uo xss k ws) (hb:∀ x∈xss,x.length≤b) (j:Nat) (hj:j<ws.length):ws[j].length≤b:=by
 have h1:(ws.map List.length)[j]'(by simpa using hj)=(xss.map List.length)[j]'(by simpa [← h.len] using hj):=getElem_congr_coll h.1;simp only [List.getElem_map] at h1;rw [h1];exact hb _ (List.getElem_mem _)
theorem uo.set {xss ws:List (List UInt8)} {k:Nat} (h:uo xss k ws) (hk:k<ws.length):uo xss (k+1) (ws.set k (kv k ws[k].length)):=by
 refine ⟨?_,fun j hj agJ=>?_⟩
 ·rw [← h.1]
  refine List.ext_getElem aH fun i h1 h2=>?_;simp only [List.getElem_map,List.getElem_set]
  split
  ·rename_i e;subst e;simp
  ·rfl
 ·rw [List.getElem_set]
  split
  ·rename_i e;subst e;simp
  ·exact h.2 j (by simpa using hj) ai
def mD (e:TypeId) (p:Value × Value) (x:List UInt8 × List UInt8):az:=iX ag.u8 e p.1 x.1 p.2 x.2
def p4 (ws:List (List UInt8)) (k:Nat):List (List UInt8 × List UInt8):=(List.range k).map fun j=>(ws[j]?.getD [],ov j (ws[j]?.getD []).length 64)
theorem Z5 (ws:List (List UInt8)) (k:Nat) (h:k<ws.length):p4 ws k++[(ws[k],ov k ws[k].length 64)]=p4 ws (k+1):=by simp [p4,List.range_succ,h]
def ou (j n i:Nat):List UInt8:=(List.range i).map fun (q:Nat)=>c_ ((j:Int)+(n:Int)) (q:Int)
@[simp] theorem Y0 (j n i:Nat):(ou j n i).length=i:=by simp [ou]
theorem Y1 (j n i:Nat):ou j n i++[c_ ((j:Int)+(n:Int)) (i:Int)]=ou j n (i+1):=by simp [ou,List.range_succ]
def yC (ws:List (List UInt8)) (n k:Nat):List (List UInt8 × List UInt8):=(List.range k).map fun j=>(ws[j]?.getD [],ou j n 64)
theorem Z4 (ws:List (List UInt8)) (n k:Nat) (h:k<ws.length):yC ws n k++[(ws[k],ou k n 64)]=yC ws n (k+1):=by simp [yC,List.range_succ,h]
theorem Qu {vs us:List Value} {k:Nat} {v u:Value} (hk:k<vs.length) (hu:us.length=k) (hv:vs[k]=v):(vs.take k).zip us++[(v,u)]=(vs.take (k+1)).zip (us++[u]):=by
 rw [j9 hk,List.zip_append cw,hv];rfl
theorem PO {α:Type} {us:List α} {z u:α} {n k:Nat} (hu:us.length=k) (hk:k<n):(us++List.replicate (n - k) z).set k u=(us++[u])++List.replicate (n - (k+1)) z:=by
 rw [List.set_append_right _ _ ai,hu,Nat.sub_self];obtain ⟨m,hm⟩:∃ m,n - k=m+1:=⟨n - k - 1,by omega⟩;rw [hm,List.replicate_succ,List.set_cons_zero,show n - (k+1)=m from by omega];simp
theorem acz {α:Type} {us J3:List α} {u:α} {k:Nat} (hu:us.length=k) (hk:k<J3.length):(us++J3.drop k).set k u=(us++[u])++J3.drop (k+1):=by
 rw [List.set_append_right _ _ ai,hu,Nat.sub_self,List.drop_eq_getElem_cons hk,List.set_cons_zero];simp
theorem P9 {g:Fr} {vs us:List Value} {ws:List (List UInt8)} {n:Nat} {f:Nat→List UInt8} {m:Fr} {e:TypeId} (hm:aZ (mD e) (vs.zip us) ((List.range n).map fun j=>(ws[j]?.getD [],f j)) m) (hs:m.sub g) (hv:vs.length=n) (hu:us.length=n) (ha:ws.length=n)
  (k:Nat) (h1:k<vs.length) (h2:k<us.length) (h3:k<ws.length):av ag.u8 g vs[k] ws[k]∧av ag.u8 g us[k] (ws[k]++f k):=by
 have h:=aZ.sW (R:=fun (p:Value × Value) (x:List UInt8 × List UInt8)=>av ag.u8 g p.1 x.1∧av ag.u8 g p.2 (x.1++x.2)) (fun b a m' (x:iX _ _ _ _ _ _ m') s=>⟨(iX.arr x).1.mono s,(iX.arr x).2.mono s⟩) hm hs;have h4:=h.get k cw cw
 simpa [h3] using h4
theorem S1 {r:Fr} {va:Value} {vs:List Value} {xss:List (List UInt8)} (hls:av ag.val r va vs) (hq:∀ x∈xss,x.length≤100000000) (hb:xss.length≤100000000) :
  aj prog 86 #[va] r [nc ag.u8 5 vs xss] (aF fun v aa=>v=.bool true∧aa=[]):=by
 refine aj.o func86 fun g hg R hR=>?_;have hls:=hls.mono hg;obtain ⟨a1,c1,rfl⟩:=hls.shape;refine S.nu bA.here (fun _ x=>aZ.len x) fun hlen=>?_;refine U 10 ?_;refine S.i_ (ι:=Nat) (dy:=List (List UInt8)) (fun k ws=>k≤vs.length∧uo xss k ws) (fun k ws=>[(3,.int .i64 (k:Int))]) [(0,_)] (fun k ws=>[nc ag.u8 5 vs ws]) (fun k ws=>vs.length - k) (0) (xss) (by exact ⟨by simp,rfl,fun j _ h=>absurd h ai⟩) aO aO rfl fun k ws hx ih=>?_;have aW:=bS (g:=g);obtain ⟨hx1,hm⟩:=hx;have hal:=hm.len;refine U 8 ?_;refine S.cd rfl (fun dz=>?_) fun dz=>?_
 ·have hk:k<vs.length:=by omega
  have hka:k<ws.length:=by omega
  have hrow:=hm.bd hq k hka;refine S.Sl k hk hka an ?_;refine S.nu bA.here (fun _ x=>ak.shape x) fun ⟨jY,jZ,gQ⟩=>?_;refine U 8 ?_;refine S.conv (B:=ak ag.u8 5 vs[k] ws[k]) (C:=ak ag.u8 5 vs[k] (kv k 0++ws[k].drop 0)) an (fun m x=>⟨m,Fr.bH _,by simpa [kv] using x⟩) ?_;refine S.ev (ι:=Nat) (fun i=>i≤ws[k].length) (fun i=>[(4,.int .i64 (i:Int))]) [(0,_),(3,_)] (fun i=>[ak ag.u8 5 vs[k] (kv k i++ws[k].drop i),aZ (ak ag.u8 5) (vs.eraseIdx k) (ws.eraseIdx k)]) (fun i=>ws[k].length - i) (0) aH aO aO rfl fun i hx ih=>?_;have hm2:=bS (g:=g);refine U 6 ?_;refine O.dI (hls) (h:=fun iT R2 x_ HB=>?_);obtain ⟨rfl,_⟩:=HB;refine U 1 ?_;refine O.slot 26 (v' :=.slice jY ws[k].length jZ) rfl (by exact gQ) ?_;refine U 3 ?_;refine S.cd rfl (fun k8=>?_) fun k8=>?_
  ·have hi:i<ws[k].length:=by omega
   refine S.skip<|S.seq<|S.block<|S.aY (L:=.range 10) F.mixed af<|ah.q 2 rfl<|ah.dI (hls) (h:=fun A1 zI Aq qN=>?_);obtain ⟨rfl,_⟩:=qN;refine U 1 ?_;refine ah.q 3 rfl<|ah.v0 (.p rfl) af rfl af rfl rfl (tO _ _ e6 e6) ?_;refine ah.qP (T:=ag.u8) (.p rfl) af underlying22 fG rfl rfl rfl an qf (fun ZV Ar=>?_);refine ah.sj rfl af fG rfl Ar rfl an qf (show _=_ by rfl:ag.rel _ _ _ (c_ (k:Int) (i:Int)))<|U 7 ?_;rw [YZ k ws[k] i hi];exact S.cF (ih (i+1) ai ai)
  ·clear ih
   have hi:i=ws[k].length:=by omega
   subst hi;rw [List.drop_length,List.append_nil];refine S.Sm k hk hka (a' :=kv k ws[k].length) an an ?_;refine U 7 ?_;exact S.cF (ih (k+1) (ws.set k (kv k ws[k].length)) (by exact ⟨by omega,hm.set hka⟩) ai)
 ·have hk:k=vs.length:=by omega
  subst hk;have hall:∀ (j:Nat) (h:j<ws.length),ws[j]=kv j ws[j].length:=fun j h=>hm.2 j h ai;have hbd:=hm.bd hq;clear ih hm;refine U 5 ?_;refine O.aD (.p rfl) (.iR (T:=ag.val) (.slice none 0 0) (m:=vs.length) underlying28 dH aq ⟨rfl,rfl⟩ rfl rfl rfl rfl ai ai) ?_;rintro _ _ ⟨g7,g8,rfl,rfl⟩;refine U 8 ?_;refine S.uG (mD 5) ?_;refine S.i_ (ι:=Nat) (dy:=List Value) (fun k us=>k≤vs.length∧us.length=k) (fun k us=>[(6,.int .i64 (k:Int))]) [(0,_),(5,_)] (fun k us=>[aZ (mD 5) ((vs.take k).zip us) (p4 ws k),ak ag.val 22 (.slice g7 vs.length g8) (us++List.replicate (vs.length - k) (.slice none 0 0)),aZ (ak ag.u8 5) (vs.drop k) (ws.drop k)]) (fun k us=>vs.length - k) (0) ([]) sK aO aO rfl fun k us hx ih=>?_;have hm2:=bS (g:=g);obtain ⟨hx1,gP⟩:=hx;refine U 8 ?_;refine S.cd rfl (fun h46=>?_) fun h46=>?_
  ·have hk:k<vs.length:=by omega
   have hka:k<ws.length:=by omega
   have hrow:=hbd k hka;rw [List.drop_eq_getElem_cons hk,List.drop_eq_getElem_cons hka];refine S.LC an ?_;refine S.nu bA.here (fun _ x=>ak.shape x) fun ⟨jY,jZ,gQ⟩=>?_;rw [gQ];refine S.P8 bA.here ?_;refine U 7 ?_;refine O.dI (hls) (h:=fun ZZ R6 Hj HE=>?_);obtain ⟨rfl,_⟩:=HE;refine U 1 ?_;refine O.slot 52 (v' :=.slice jY ws[k].length jZ) rfl (by exact gQ) ?_;refine U 8 ?_;refine S.wE (ι:=Nat) (dy:=Option Addr) (gN:=Nat) (fun i a c=>i≤64) (fun i a c=>[(8,.int .i64 (i:Int)),(7,.slice a (ws[k].length+i) c)]) [(0,_),(5,_),(6,_)] (fun i a c=>[iX ag.u8 5 (.slice jY ws[k].length jZ) ws[k] (.slice a (ws[k].length+i) c) (ov k ws[k].length i),aZ (ak ag.u8 5) (vs.drop (k+1)) (ws.drop (k+1)),aZ (mD 5) ((vs.take k).zip us) (p4 ws k),ak ag.val 22 (.slice g7 vs.length g8) (us++List.replicate (vs.length - k) (.slice none 0 0))]) (fun i a c=>64 - i) (0) (jY) (jZ) aH aO aO rfl fun i a c hx ih=>?_;have mP:=bS (g:=g);refine U 6 ?_;refine S.cd rfl (fun Ga=>?_) fun Ga=>?_
   ·have hi:i<64:=by omega
    refine U 8 ?_;refine O.dI (hls) (h:=fun Dv Cl ya tB=>?_);obtain ⟨rfl,_⟩:=tB;refine U 1 ?_;refine O.slot 62 (v' :=.slice jY ws[k].length jZ) rfl (by exact gQ)<|U 3 ?_;refine O.v0 (.p rfl) rfl af rfl rfl (tO _ _ e6 e6) ?_;refine O.aD (.p rfl) (.bw (T:=ag.u8) (ys:=[_]) underlying22 cP aq rfl rfl ⟨rfl,trivial⟩ aq) ?_;rintro _ _ ⟨afd,afo,rfl,rfl⟩;refine O.gH an fun g hs hm UI=>?_;replace hg:=bf hg hs;replace hR:=a_ hR hm
    try replace hls:=hls.mono hs
    try replace Hj:=Hj.mono hs
    try replace ya:=ya.mono hs
    replace aW:=eT aW hm;replace hm2:=eT hm2 hm;replace mP:=eT mP hm;clear hs hm;refine O.aD (.p rfl) (.K3 ox underlying22 cP aq rfl rfl an UI cw cw) ?_;rintro _ _ ⟨QS,Rw,rfl,rfl⟩;refine U 8 ?_;rw [N0];simp only [Y2];exact S.jo mP (S.cF (ih (i+1) (QS) (Rw) ai ai))
   ·clear ih
    have hi:i=64:=by omega
    subst hi;refine U 5 ?_;refine O.aD (.p rfl) (.qP (T:=ag.val) underlying28 mX rfl rfl rfl an qf) ?_;rintro _ _ ⟨ah4,rfl,VV,rfl⟩;refine O.eg rfl (.sj mX rfl VV rfl an qf (⟨rfl,rfl⟩:ag.rel ag.val _ _ (.slice a (ws[k].length+64) c))) ?_;refine U 7 ?_;rw [PO gP hk];refine S.conv (B:=iX ag.u8 5 (.slice jY ws[k].length jZ) ws[k] (.slice a (ws[k].length+64) c) (ov k ws[k].length 64)) (C:=mD 5 (.slice jY ws[k].length jZ,.slice a (ws[k].length+64) c) (ws[k],ov k ws[k].length 64)) an (fun m x=>⟨m,Fr.bH _,x⟩) ?_;refine S.each (A:=mD 5) an an ?_;rw [Z5 ws k hka,Qu hk gP gQ];exact S.pw (ih (k+1) (us++[.slice a (ws[k].length+64) c]) vu ai)
  ·clear ih
   have hk:k=vs.length:=by omega
   subst hk;rw [List.take_length,Nat.sub_self,List.replicate_zero,List.append_nil,List.drop_length];refine U 7 ?_;refine S.Ma (B:=ak ag.val 22 (.slice g7 vs.length g8) us) an fun g1 hs1 ⟨m1,GW,HP⟩ ac6=>?_;refine S.Ma (B:=aZ (mD 5) (vs.zip us) (p4 ws vs.length)) an fun g2 ye ⟨m2,GX,HQ⟩ ac7=>?_;have vX:av ag.val g2.h (.slice g7 vs.length g8) us:=GW.arr.mono (bf HP ye);have MN:=hls;replace hls:=hls.mono (bf hs1 ye);have C8:=fun k h1 h2 h3=>P9 GX HQ rfl gP ai k h1 h2 h3;refine S.ev (ι:=Nat) (fun k=>k≤vs.length) (fun k=>[(9,.int .i64 (k:Int))]) [(0,_),(5,_)] (fun k=>[aZ (ak ag.u8 5) [] (ws.drop vs.length)]) (fun k=>vs.length - k) (0) aH aO aO rfl fun k hx ih=>?_;have mP:=bS (g:=g);refine U 8 ?_;refine S.cd rfl (fun fe=>?_) fun fe=>?_
   ·have hk:k<vs.length:=by omega
    have hka:k<ws.length:=by omega
    have Aj:k<us.length:=by omega
    have hrow:=hbd k hka;obtain ⟨hA,hB⟩:=C8 k hk Aj hka;rw [show (ws[k]?.getD [])=ws[k] from by simp [hka]] at hB;have z4:=hall k hka;obtain ⟨lq,hnk⟩:∃ lq,ws[k].length=lq:=⟨_,rfl⟩;simp only [hnk] at z4 hrow hB;rw [z4] at hA hB;rw [YY] at hB;obtain ⟨jY,jZ,gQ⟩:=hA.shape;obtain ⟨BZ,Cm,uU⟩:=hB.shape;rw [gQ] at hA;rw [uU] at hB;rw [IK] at gQ uU hA hB;refine U 8 ?_;refine S.ev (ι:=Nat) (fun i=>i≤lq+64) (fun i=>[(10,.int .i64 (i:Int))]) [(0,_),(5,_),(9,_)] (fun i=>[aZ (ak ag.u8 5) [] (ws.drop vs.length)]) (fun i=>lq+64 - i) (0) aH aO aO rfl fun i hx ih=>?_;have vZ:=bS (g:=g);refine U 6 ?_;refine O.dI (vX) (h:=fun ah6 afN ahb Wu=>?_);obtain ⟨rfl,_⟩:=Wu;refine U 1 ?_;refine O.slot 83 (v' :=.slice BZ (lq+64) Cm) rfl (by exact uU) ?_;refine U 3 ?_;refine S.cd rfl (fun Uc=>?_) fun Uc=>?_
    ·have hi:i<lq+64:=by omega
     refine S.skip<|S.seq<|S.block<|S.seq<|S.aY (L:=.range 35) F.mixed af<|ah.q 2 rfl<|ah.dI (vX) (h:=fun ah7 afP ahc Ww=>?_);obtain ⟨rfl,_⟩:=Ww;refine U 1 ?_;refine ah.slot 91 (v' :=.slice BZ (lq+64) Cm) rfl (by exact uU) ?_;refine ah.q 1 rfl<|ah.dI (hB) (h:=fun ah8 afQ ahd Wx=>?_);obtain ⟨rfl,_⟩:=Wx;refine U 1 ?_;refine ah.q 2 rfl<|ah.v0 (.p rfl) af rfl af rfl rfl (tO _ _ e6 e6)<|U 1 ?_;refine ah.sT 98 rfl (by simp [kv])<|U 5 ?_;refine ah.dI (hls) (h:=fun ahN aft agX V9=>?_);obtain ⟨rfl,_⟩:=V9;refine U 1 ?_;refine ah.slot 105 (v' :=.slice jY lq jZ) rfl (by exact gQ)<|U 3 ?_
     refine ah.cs 108 rfl (fun TX=>?_) fun TX=>?_
     ·have hi2:i<lq:=by omega
      refine ah.q 2 rfl<|ah.dI (hls) (h:=fun ahO afv agZ Wa=>?_);obtain ⟨rfl,_⟩:=Wa;refine U 1 ?_;refine ah.slot 112 (v' :=.slice jY lq jZ) rfl (by exact gQ) ?_;refine ah.q 1 rfl<|ah.dI (hA) (h:=fun ahP afw ag0 Wb=>?_);obtain ⟨rfl,_⟩:=Wb;refine U 1 ?_;refine ah.q 2 rfl<|ah.v0 (.g rfl rfl) af rfl af rfl rfl (tO _ _ e6 e6)<|U 1 ?_;refine ah.sT 119 rfl (by simp [kv])<|U 12 ?_;exact S.cF (ih (i+1) ai ai)
     ·refine U 23 ?_
      exact S.cF (ih (i+1) ai ai)
    ·clear ih
     refine U 7 ?_;exact S.cF (ih (k+1) ai ai)
   ·clear ih
    refine U 7 ?_;refine ac7 (ac6 ?_);replace hls:=MN;clear C8 vX MN;refine S.uG (mD 5) ?_;refine S.i_ (ι:=Nat) (dy:=List Value) (fun k nR=>k≤vs.length∧nR.length=k) (fun k nR=>[(11,.int .i64 (k:Int))]) [(0,_),(5,_)] (fun k nR=>[aZ (mD 5) ((vs.take k).zip nR) (yC ws vs.length k),ak ag.val 22 (.slice g7 vs.length g8) (nR++us.drop k),aZ (mD 5) ((vs.zip us).drop k) ((p4 ws vs.length).drop k),aZ (ak ag.u8 5) [] (ws.drop vs.length)]) (fun k nR=>vs.length - k) (0) ([]) sK aO aO rfl fun k nR hx ih=>?_;have vZ:=bS (g:=g);obtain ⟨hx1,HV⟩:=hx;refine U 8 ?_;refine S.cd rfl (fun e_=>?_) fun e_=>?_
    ·have hk:k<vs.length:=by omega
     have hka:k<ws.length:=by omega
     have Aj:k<us.length:=by omega
     have hrow:=hbd k hka;have hz:(vs.zip us).drop k=(vs[k],us[k])::(vs.zip us).drop (k+1):=by rw [List.drop_eq_getElem_cons cw,List.getElem_zip]
     have hp:(p4 ws vs.length).drop k=(ws[k],ov k ws[k].length 64)::(p4 ws vs.length).drop (k+1):=by rw [List.drop_eq_getElem_cons (by simp [p4];omega)];simp [p4,hka]
     rw [hz,hp];refine S.LC an ?_;refine S.conv (B:=mD 5 (vs[k],us[k]) (ws[k],ov k ws[k].length 64)) (C:=ak ag.u8 5 vs[k] ws[k]) an (fun _ x=>iX.own x) ?_;refine S.nu bA.here (fun _ x=>ak.shape x) fun ⟨jY,jZ,gQ⟩=>?_;rw [gQ];refine S.P8 bA.here ?_;refine U 5 ?_;refine O.aD (.p rfl) (.iR (T:=ag.u8) (0:UInt8) (m:=64) underlying22 cP aq rfl rfl rfl rfl rfl aq aq) ?_;rintro _ _ ⟨QO,Ru,rfl,rfl⟩;refine U 8 ?_;refine S.ev (ι:=Nat) (fun i=>i≤64) (fun i=>[(13,.int .i64 (i:Int))]) [(0,_),(5,_),(11,_),(12,_)] (fun i=>[ak ag.u8 5 (.slice QO 64 Ru) (ou k vs.length i++List.replicate (64 - i) 0),iX ag.u8 5 (.slice jY ws[k].length jZ) ws[k] (.slice jY ws[k].length jZ) [],aZ (mD 5) ((vs.zip us).drop (k+1)) ((p4 ws vs.length).drop (k+1)),aZ (mD 5) ((vs.take k).zip nR) (yC ws vs.length k),ak ag.val 22 (.slice g7 vs.length g8) (nR++us.drop k),aZ (ak ag.u8 5) [] (ws.drop vs.length)]) (fun i=>64 - i) (0) aH aO aO rfl fun i hx ih=>?_;have GY:=bS (g:=g);refine U 6 ?_;refine S.cd rfl (fun TY=>?_) fun TY=>?_
     ·have hi:i<64:=by omega
      refine U 11 ?_;refine O.v0 (.p rfl) rfl af rfl rfl (tO _ _ e6 e6) ?_;refine O.aD (.p rfl) (.qP (T:=ag.u8) underlying22 fG rfl rfl rfl an qf) ?_;rintro _ _ ⟨ahQ,rfl,VN,rfl⟩;refine O.eg rfl (.sj fG rfl VN rfl an qf (show _=_ by rfl:ag.rel _ _ _ (c_ ((k:Int)+(vs.length:Int)) (i:Int))))<|U 7 ?_;rw [PO aH hi,Y1];exact S.cF (ih (i+1) ai ai)
     ·clear ih
      have hi:i=64:=by omega
      subst hi;rw [Nat.sub_self,List.replicate_zero,List.append_nil];refine S.gH an fun g hs hm Vm=>?_;replace hg:=bf hg hs;replace hR:=a_ hR hm
      try replace hls:=hls.mono hs
      try replace vX:=vX.mono hs
      replace aW:=eT aW hm;replace hm2:=eT hm2 hm;replace mP:=eT mP hm;replace vZ:=eT vZ hm;replace GY:=eT GY hm;clear hs hm;refine U 6 ?_;refine O.dI (hls) (h:=fun ahR afx ag1 Wc=>?_);obtain ⟨rfl,_⟩:=Wc;refine U 1 ?_;refine O.slot 148 (v' :=.slice jY ws[k].length jZ) rfl (by exact gQ) ?_;refine O.q 1 rfl<|O.aD (.p rfl) (.K3 ox underlying22 cP aq rfl rfl an Vm cw cw) ?_;rintro _ _ ⟨BN,B6,rfl,rfl⟩;refine O.aD (.p rfl) (.qP (T:=ag.val) underlying28 mX rfl rfl rfl an qf) ?_;rintro _ _ ⟨ahS,rfl,VP,rfl⟩;refine O.eg rfl (.sj mX rfl VP rfl an qf (⟨rfl,rfl⟩:ag.rel ag.val _ _ (.slice BN (ws[k].length+0+(ou k vs.length 64).length) B6))) ?_;refine U 7 ?_;rw [acz HV Aj];simp only [List.nil_append];refine S.conv (B:=iX ag.u8 5 (.slice jY ws[k].length jZ) ws[k] (.slice BN (ws[k].length+0+(ou k vs.length 64).length) B6) (ou k vs.length 64)) (C:=mD 5 (.slice jY ws[k].length jZ,.slice BN (ws[k].length+0+(ou k vs.length 64).length) B6) (ws[k],ou k vs.length 64)) an (fun m x=>⟨m,Fr.bH _,x⟩) ?_;refine S.each (A:=mD 5) (bs:=(vs.take k).zip nR) an an ?_;rw [Z4 ws vs.length k hka,Qu hk HV gQ];exact S.jo vZ (S.pw (ih (k+1) (nR++[.slice BN (ws[k].length+0+(ou k vs.length 64).length) B6]) vu ai))
    ·clear ih
     have hk:k=vs.length:=by omega
     subst hk;rw [List.take_length,show us.drop vs.length=[] from by rw [← gP,List.drop_length],List.append_nil];refine S.fW (A:=ak ag.val 22 (.slice g7 vs.length g8) nR) an fun g1 hs1 Vn ⟨m1,GW,HP⟩=>?_;refine S.fW (A:=aZ (mD 5) (vs.zip nR) (yC ws vs.length vs.length)) an fun g2 ye Vo ⟨m2,GX,HQ⟩=>?_;have vX:av ag.val g2.h (.slice g7 vs.length g8) nR:=GW.arr.mono (bf HP ye);replace hls:=hls.mono (bf hs1 ye);replace hR:=a_ (a_ hR Vn) Vo;have C8:=fun k h1 h2 h3=>P9 GX HQ rfl HV ai k h1 h2 h3;refine S.pk j_.nil ?_;refine U 7 ?_;refine S.ev (ι:=Nat) (fun k=>k≤vs.length) (fun k=>[(14,.int .i64 (k:Int))]) [(0,_),(5,_)] (fun k=>[]) (fun k=>vs.length - k) (0) aH aO aO rfl fun k hx ih=>?_;have GY:=bS (g:=g);refine U 8 ?_;refine S.cd rfl (fun fc=>?_) fun fc=>?_
     ·have hk:k<vs.length:=by omega
      have hka:k<ws.length:=by omega
      have Aj:k<nR.length:=by omega
      have hrow:=hbd k hka;obtain ⟨hA,hB⟩:=C8 k hk Aj hka;have z4:=hall k hka;obtain ⟨lq,hnk⟩:∃ lq,ws[k].length=lq:=⟨_,rfl⟩;simp only [hnk] at z4 hrow;rw [z4] at hA hB;obtain ⟨jY,jZ,gQ⟩:=hA.shape;obtain ⟨BZ,Cm,uU⟩:=hB.shape;rw [gQ] at hA;rw [uU] at hB;simp only [cI,IK,Y0] at gQ uU hA hB;refine U 8 ?_;refine S.ev (ι:=Nat) (fun i=>i≤lq) (fun i=>[(15,.int .i64 (i:Int))]) [(0,_),(5,_),(14,_)] (fun i=>[]) (fun i=>lq - i) (0) aH aO aO rfl fun i hx ih=>?_;have agO:=bS (g:=g);refine U 6 ?_;refine O.dI (hls) (h:=fun ahT afy ag2 We=>?_);obtain ⟨rfl,_⟩:=We;refine U 1 ?_;refine O.slot 162 (v' :=.slice jY lq jZ) rfl (by exact gQ) ?_;refine U 3 ?_;refine S.cd rfl (fun T1=>?_) fun T1=>?_
      ·have hi:i<lq:=by omega
       refine S.skip<|S.seq<|S.block<|S.seq<|S.aY (L:=.range 26) F.mixed af<|ah.q 2 rfl<|ah.dI (hls) (h:=fun ahU afz ag3 Wf=>?_);obtain ⟨rfl,_⟩:=Wf;refine U 1 ?_;refine ah.slot 170 (v' :=.slice jY lq jZ) rfl (by exact gQ) ?_;refine ah.q 1 rfl<|ah.dI (hA) (h:=fun ahV afA ag4 Wg=>?_);obtain ⟨rfl,_⟩:=Wg;refine U 1 ?_;refine ah.q 2 rfl<|ah.v0 (.p rfl) af rfl af rfl rfl (tO _ _ e6 e6)<|U 1 ?_;refine ah.sT 177 rfl (by simp [kv])<|U 4 ?_;refine ah.dI (vX) (h:=fun ahW afC ag6 Wi=>?_);obtain ⟨rfl,_⟩:=Wi;refine U 1 ?_;refine ah.slot 183 (v' :=.slice BZ (lq+64) Cm) rfl (by exact uU) ?_;refine ah.q 1 rfl<|ah.dI (hB) (h:=fun ahX afD ag7 Wj=>?_);obtain ⟨rfl,_⟩:=Wj;refine U 1 ?_;refine ah.q 2 rfl<|ah.v0 (.g rfl rfl) af rfl af rfl rfl (tO _ _ e6 e6)<|U 1 ?_;refine ah.sT 190 rfl (by rw [xu cw];simp [kv])<|U 11 ?_;exact S.cF (ih (i+1) ai ai)
      ·clear ih
       refine U 7 ?_;exact S.cF (ih (k+1) ai ai)
     ·clear ih
      refine U 5 ?_;exact S.rt results86 rfl hR ⟨rfl,rfl⟩
def xP (u:Value):List Value:=[.slice none 0 0,.slice none 0 0,.slice none 0 0,.slice none 0 0,.slice none 0 0,u,.slice none 0 0,.slice none 0 0,.slice none 0 0,.slice none 0 0,.slice none 0 0,.slice none 0 0,.slice none 0 0,.slice none 0 0,.slice none 0 0,.slice none 0 0,.slice none 0 0,.slice none 0 0,.slice none 0 0,.slice none 0 0,.slice none 0 0,.slice none 0 0,.slice none 0 0,.slice none 0 0]
theorem aah {r:Fr} {b:Nat} {a a1:Option Addr} {c m1 c1:Nat} {ws:List Value} (hb:ws.length≤1000000000) :
  aj prog 65 #[.pointer (some ⟨b,0,none⟩),.slice a1 m1 c1] r [obj b 93 (xP (.slice a ws.length c)),ak ag.val 22 (.slice a ws.length c) ws]
   (aF fun v aa=>∃ a' c',v=.tuple #[]∧aa=[obj b 93 (xP (.slice a' (ws.length+1) c')),ak ag.val 22 (.slice a' (ws.length+1) c') (ws++[.slice a1 m1 c1])]):=by
 refine aj.o func65 fun g hg R hR=>?_;unfold xP;refine U 6 ?_;refine O.q 1 rfl<|O.aD (.p rfl) (.bw (T:=ag.val) (ys:=[_]) underlying28 dH aq rfl rfl ⟨⟨rfl,rfl⟩,trivial⟩ aq) ?_;rintro _ _ ⟨c6,bB,rfl,rfl⟩;refine O.aD (.p rfl) (.fH (T:=ag.val) underlying28 dH aq rfl rfl an an bl bl) ?_;rintro _ _ ⟨cQ,bG,rfl,rfl⟩;refine U 3 ?_;refine O.nil<|S.gl results65 fun w hw=>ax.end_ hR hw ?_;exact pk ⟨cQ,bG,rfl,rfl⟩
theorem Q3 {r:Fr} {b:Nat} {u:Value} {vs:List Value} {xss:List (List UInt8)} (hls:av ag.val r u vs) (hq:∀ x∈xss,x.length≤100000000) (hb:xss.length≤100000000) :
  aj prog 38 #[.pointer (some ⟨b,0,none⟩)] r [obj b 93 (xP u),nc ag.u8 5 vs xss] (aF fun v aa=>v=.bool true∧aa=[]):=by
 refine aj.o func38 fun g hg R hR=>?_;have hls:=hls.mono hg;unfold xP;refine U 10 ?_;refine O.v0 (.p rfl) rfl af rfl rfl (Ta) ?_;refine O.sT 7 rfl iu<|U 5 ?_;refine O.v0 (.g rfl rfl) rfl af rfl rfl (Tn) ?_;refine O.sT 13 rfl iu<|U 6 ?_;refine O.v0 (.g rfl rfl) rfl af rfl rfl (S9) ?_;refine O.sT 20 rfl iu<|U 6 ?_;refine O.v0 (.g rfl rfl) rfl af rfl rfl (Tb) ?_;refine O.sT 27 rfl iu<|U 6 ?_;refine O.v0 (.g rfl rfl) rfl af rfl rfl (Tl) ?_;refine O.sT 34 rfl iu<|U 6 ?_;refine O.ug (.g rfl rfl) rfl af rfl rfl an (S1 hls hq hb) ?_;refine O.sT 41 rfl iu<|U 6 ?_;refine O.v0 (.g rfl rfl) rfl af rfl rfl (Tm) ?_;refine O.sT 48 rfl iu<|U 6 ?_;refine O.v0 (.g rfl rfl) rfl af rfl rfl (Th) ?_;refine O.sT 55 rfl iu<|U 6 ?_;refine O.v0 (.g rfl rfl) rfl af rfl rfl (S3) ?_;refine O.sT 62 rfl iu<|U 6 ?_;refine O.v0 (.g rfl rfl) rfl af rfl rfl (Tf) ?_;refine O.sT 69 rfl iu<|U 6 ?_;refine O.v0 (.g rfl rfl) rfl af rfl rfl (S_) ?_;refine O.sT 76 rfl iu<|U 6 ?_;refine O.v0 (.g rfl rfl) rfl af rfl rfl (S7) ?_;refine O.sT 83 rfl iu<|U 6 ?_;refine O.v0 (.g rfl rfl) rfl af rfl rfl (Tc) ?_;refine O.sT 90 rfl iu<|U 6 ?_;refine O.v0 (.g rfl rfl) rfl af rfl rfl (Tj) ?_
 refine O.sT 97 rfl iu<|U 6 ?_;refine O.v0 (.g rfl rfl) rfl af rfl rfl (Te) ?_;refine O.sT 104 rfl iu<|U 6 ?_;refine O.v0 (.g rfl rfl) rfl af rfl rfl (Tg) ?_;refine O.sT 111 rfl iu<|U 6 ?_;refine O.v0 (.g rfl rfl) rfl af rfl rfl (S5) ?_;refine O.sT 118 rfl iu<|U 6 ?_;refine O.v0 (.g rfl rfl) rfl af rfl rfl (S6) ?_;refine O.sT 125 rfl iu<|U 6 ?_;refine O.v0 (.g rfl rfl) rfl af rfl rfl (Td) ?_;refine O.sT 132 rfl iu<|U 6 ?_;refine O.v0 (.g rfl rfl) rfl af rfl rfl (S4) ?_;refine O.sT 139 rfl iu<|U 6 ?_;refine O.v0 (.g rfl rfl) rfl af rfl rfl (S8) ?_;refine O.sT 146 rfl iu<|U 6 ?_;refine O.v0 (.g rfl rfl) rfl af rfl rfl (S2) ?_;refine O.sT 153 rfl iu<|U 6 ?_;refine O.v0 (.g rfl rfl) rfl af rfl rfl (Ti) ?_;refine O.sT 160 rfl iu<|U 6 ?_;refine O.v0 (.g rfl rfl) rfl af rfl rfl (Tk) ?_;refine O.sT 167 rfl iu<|U 3 ?_;exact S.rt results38 rfl hR ⟨rfl,rfl⟩
theorem QA {r:Fr} {va:Value} {vs:List Value} {xss:List (List UInt8)} (hls:av ag.val r va vs) (hq:∀ x∈xss,x.length≤100000000) (hb:xss.length≤100000000) :
  aj prog 24 #[va] r [nc ag.u8 5 vs xss] (aF fun v aa=>v=.bool true∧aa=[]):=by
 refine aj.o func24 fun g hg R hR=>?_;have hls:=hls.mono hg;obtain ⟨a1,c1,rfl⟩:=hls.shape;refine S.nu bA.here (fun _ x=>aZ.len x) fun hlen=>?_;refine S.nu bA.here (fun _ x=>aZ.sW (R:=fun v x=>∃ a c,v=.slice a x.length c) (fun _ _ _ y _=>ak.shape y) x (Fr.bH _)) fun hsh=>?_;refine U 6 ?_;refine O.op (.p rfl) (.build (cs:=[_,_,_,_,_,_,_,_,_,_,_,_,_,_,_,_,_,_,_,_,_,_,_,_]) underlying93 rfl rfl rfl rfl rfl)<|O.aD (.p rfl) (.box (cs:=[_,_,_,_,_,_,_,_,_,_,_,_,_,_,_,_,_,_,_,_,_,_,_,_]) rfl rfl) ?_;rintro _ _ ⟨kG,rfl,rfl⟩;refine U 8 ?_;refine S.l_ (T:=ag.val) (e:=22) ?_;refine S.wE (ι:=Nat) (dy:=Option Addr) (gN:=Nat) (fun k a c=>k≤vs.length) (fun k a c=>[(4,.int .i64 (k:Int))]) [(0,_),(3,_)] (fun k a c=>[ak ag.val 22 (.slice a (vs.take k).length c) (vs.take k),obj kG 93 (xP (.slice a (vs.take k).length c)),nc ag.u8 5 vs xss]) (fun k a c=>vs.length - k) (0) (none) (0) aH aO aO rfl fun k a c hx ih=>?_;have aW:=bS (g:=g);refine U 8 ?_;refine S.cd rfl (fun h10=>?_) fun h10=>?_
 ·have hk:k<vs.length:=by omega
  obtain ⟨jY,jZ,gQ⟩:=hsh.get k hk ai;have hl:(vs.take k).length=k:=by simp;omega
  refine U 7 ?_;refine O.dI (hls) (h:=fun bW Lu C3 we=>?_);obtain ⟨rfl,_⟩:=we;refine U 1 ?_;refine O.slot 17 (v' :=.slice jY xss[k].length jZ) rfl (by exact gQ) ?_;refine O.s3 (.p rfl) rfl af rfl rfl ct (aah ai) ?_;rintro _ _ ⟨eE,cN,rfl,rfl⟩;refine U 7 ?_;rw [← gQ,← j9 hk];have qK:(vs.take k).length+1=(vs.take (k+1)).length:=by simp;omega
  rw [qK];exact S.pw (ih (k+1) (eE) (cN) ai ai)
 ·have hk:k=vs.length:=by omega
  subst hk;rw [List.take_length];refine S.gH an fun g hs hm U2=>?_;replace hg:=bf hg hs;replace hR:=a_ hR hm
  try replace hls:=hls.mono hs
  replace aW:=eT aW hm;clear hs hm;refine U 4 ?_;refine O.s3 (.p rfl) rfl af rfl rfl ct (Q3 U2 hq hb) ?_;rintro _ _ ⟨rfl,rfl⟩;refine U 2 ?_;exact S.rt results24 rfl hR ⟨rfl,rfl⟩
theorem QB {r:Fr} {va:Value} {xs:List UInt8} (ha:av ag.u8 r va xs) (hl:xs.length≤140737488355328) :
  aj prog 26 #[va] r [] (aF fun v aa=>∃ a c,v=.slice a xs.length c∧aa=[ak ag.u8 5 v xs]):=by
 refine aj.o func26 fun g hg R hR=>?_;obtain ⟨a1,c1,rfl⟩:=ha.shape;refine S.l_ (T:=ag.u8) (e:=5) ?_;refine U 12 ?_;refine O.aD (.p rfl) (.mb (T:=ag.u8) ox underlying22 cP aq rfl rfl an bq bl bl) ?_;rintro _ _ ⟨a6,cB,rfl,rfl⟩;refine O.q 1 rfl<|O.nil<|S.ret results26 rfl fun w hw=>hR _ _ w ?_ hw;exact ⟨a6,cB,by simp,rfl⟩
def pick (x n:Int):Int:=if n<1 then 0 else if x.tmod n<0 then x.tmod n+n else x.tmod n
theorem CF {f:aP}:jj f=0↔g_ f∧(di f).length≤262144:=by
 unfold jj
 constructor
 ·intro h
  split at h
  ·rename_i q
   split at h
   ·rename_i bg;exact ⟨q,bg⟩
   ·cases h
  ·cases h
 ·rintro ⟨h1,h2⟩;rw [if_pos h1,if_pos h2]
theorem TB {f:aP} (h:jj f=0):e9 f=di f:=by unfold e9;rw [if_pos (CF.1 h)]
def xG:aP:=(1,5,3,[],[],dL,[],en,ek,[],ef,0,())
def zq:aP:=(6,0,0,[],[],dL,[],en,ek,[],ef,6,())
def B1:aP:=(3,0,0,[],[48,49,50],dL,[],en,ek,[],ef,0,())
theorem B0:g_ xG∧(di xG).length≤262144:=⟨⟨⟨.inl ⟨rfl,by decide,by decide⟩,by decide,by decide⟩,rfl⟩,by rw [CE,zT rfl,ga];decide⟩
theorem K7:g_ zq∧(di zq).length≤262144:=⟨⟨⟨.inr (.inr (.inr (.inr (.inr (.inl ⟨rfl,by decide,by decide⟩))))),by decide,by decide⟩,rfl⟩,by rw [CE,zU rfl,ga];decide⟩
theorem Ra:jj B1=4:=by
 unfold jj;rw [if_neg fun h=>?_];have h2:=((yl (f:=B1) rfl).1 h.1.1).2 50 aq;exact absurd h2 aq
theorem K6:e9 xG=[1,0,0,0,0,0,0,0,5,0,0,0,0,0,0,0,3]:=by
 unfold e9;rw [if_pos B0];unfold di;rw [zT rfl];rfl
theorem Q_:e9 zq=[6,0,0,0,0,0,0,0,0,0,0,0,0,0,0,0,6]:=by
 unfold e9;rw [if_pos K7];unfold di;rw [zU rfl];rfl
theorem K5:mg ([1,0,0,0,0,0,0,0,5,0,0,0,0,0,0,0,3]++[0])=none∧rO [1,0,0,0,0,0,0,0,5,0,0,0,0,0,0,0,3,0]=4:=by
 refine ⟨?_,by unfold rO;rw [if_pos aq]⟩;have e:di xG=[1,0,0,0,0,0,0,0,5,0,0,0,0,0,0,0,3]:=by rw [← K6,TB (CF.2 B0)]
 unfold mg;rw [if_pos aq,← e];exact Tv B0.1 (by rw [e];decide) aq
theorem acW:kD xG:=qb aq aq qd aq ru rq sJ rp
theorem acX:kD zq:=qb aq aq qd aq ru rq sJ rp
theorem acY:kD B1:=qb aq aq qd aq ru rq sJ rp
theorem K8 {r:Fr} (aU:cg r ⟨0,0,none⟩ (cz fq)) (hK:cg r ⟨1,0,none⟩ (cz gW)):aj prog 8 #[] r [] (aF fun v aa=>v=.bool true∧aa=[]):=by
 refine aj.of (n:=68) _ rfl func8 rfl rfl rfl fun g hg R hR=>?_;have aU:=aU.mono hg;have hK:=hK.mono hg;have r1:ck.rel g.h [aT 1,.int .i64 5,.int .i64 3,.string ⟨#[]⟩,.string ⟨#[]⟩,.int .i64 0,.int .i64 0,.int .i64 0,.slice none 0 0,.slice none 0 0,.slice none 0 0,.slice none 0 0,.slice none 0 0,.int .u8 0,.slice none 0 0,.slice none 0 0,.slice none 0 0,.slice none 0 0,.int .i64 0,.int .i64 0,.int .i64 0,.slice none 0 0,.slice none 0 0,.int .i64 0,.int .i64 0,.int .i64 0,.slice none 0 0,.slice none 0 0,.int .i64 0] xG:=ck.mk (x0:=1) (kB:=0) (⟨by decide,by decide⟩:aS 5) (⟨by decide,by decide⟩:aS 3) (show ([]:List UInt8).length≤9223372036854775807 by decide) (show ([]:List UInt8).length≤9223372036854775807 by decide) RS.cW RS.cW RS.cW av.nil av.nil av.nil av.nil av.nil av.nil av.nil av.nil av.nil RS.cW RS.cW RS.cW av.nil av.nil RS.cW RS.cW RS.cW av.nil av.nil RS.cW
 have r2:ck.rel g.h [aT 6,.int .i64 0,.int .i64 0,.string ⟨#[]⟩,.string ⟨#[]⟩,.int .i64 0,.int .i64 0,.int .i64 0,.slice none 0 0,.slice none 0 0,.slice none 0 0,.slice none 0 0,.slice none 0 0,.int .u8 0,.slice none 0 0,.slice none 0 0,.slice none 0 0,.slice none 0 0,.int .i64 0,.int .i64 0,.int .i64 0,.slice none 0 0,.slice none 0 0,.int .i64 0,.int .i64 0,.int .i64 0,.slice none 0 0,.slice none 0 0,.int .i64 6] zq:=ck.mk (x0:=6) (kB:=0) RS.cW RS.cW (show ([]:List UInt8).length≤9223372036854775807 by decide) (show ([]:List UInt8).length≤9223372036854775807 by decide) RS.cW RS.cW RS.cW av.nil av.nil av.nil av.nil av.nil av.nil av.nil av.nil av.nil RS.cW RS.cW RS.cW av.nil av.nil RS.cW RS.cW RS.cW av.nil av.nil (⟨by decide,by decide⟩:aS 6)
 have gV:ck.rel g.h [aT 3,.int .i64 0,.int .i64 0,.string ⟨#[]⟩,.string (str [48,49,50]),.int .i64 0,.int .i64 0,.int .i64 0,.slice none 0 0,.slice none 0 0,.slice none 0 0,.slice none 0 0,.slice none 0 0,.int .u8 0,.slice none 0 0,.slice none 0 0,.slice none 0 0,.slice none 0 0,.int .i64 0,.int .i64 0,.int .i64 0,.slice none 0 0,.slice none 0 0,.int .i64 0,.int .i64 0,.int .i64 0,.slice none 0 0,.slice none 0 0,.int .i64 0] B1:=ck.mk (x0:=3) (kB:=0) RS.cW RS.cW (show ([]:List UInt8).length≤9223372036854775807 by decide) (show ([48,49,50]:List UInt8).length≤9223372036854775807 by decide) RS.cW RS.cW RS.cW av.nil av.nil av.nil av.nil av.nil av.nil av.nil av.nil av.nil RS.cW RS.cW RS.cW av.nil av.nil RS.cW RS.cW RS.cW av.nil av.nil RS.cW;refine S.seq<|S.region rfl<|O.q 1 rfl<|O.nil<|S.seq<|S.region rfl<|O.op (.p rfl) (.build (cs:=[_,_,_,_,_,_,_,_,_,_,_,_,_,_,_,_,_,_,_,_,_,_,_,_,_,_,_,_,_]) underlying41 rfl rfl rfl rfl rfl)<|O.aN (.p rfl) rfl af rfl rfl ((xZ r1 acW aU hK)) ?_;rintro _ _ ⟨cQ,bG,rfl,rfl⟩
 try simp only [gB,gC,gD]
 rw [K6,CF.2 B0];refine O.gH an fun g hs hm x3=>?_;replace hg:=Fr.bQ hg hs;replace hR:=a_ hR hm
 try replace aU:=aU.mono hs
 try replace hK:=hK.mono hs
 try replace r1:=r1.mono hs
 try replace r2:=r2.mono hs
 try replace gV:=gV.mono hs
 clear hs hm;refine O.q 5 rfl<|O.nil<|S.seq<|S.region rfl<|O.op (.p rfl) (.build (cs:=[_,_,_,_,_,_,_,_,_,_,_,_,_,_,_,_,_,_,_,_,_,_,_,_,_,_,_,_,_]) underlying41 rfl rfl rfl rfl rfl)<|O.aN (.p rfl) rfl af rfl rfl ((xZ r2 acX aU hK)) ?_;rintro _ _ ⟨b_,bn,rfl,rfl⟩
 try simp only [gB,gC,gD]
 rw [Q_,CF.2 K7];refine O.gH an fun g hs hm pN=>?_;replace hg:=Fr.bQ hg hs;replace hR:=a_ hR hm
 try replace aU:=aU.mono hs
 try replace hK:=hK.mono hs
 try replace r1:=r1.mono hs
 try replace r2:=r2.mono hs
 try replace gV:=gV.mono hs
 try replace x3:=x3.mono hs
 clear hs hm;refine O.q 5 rfl<|O.nil<|S.seq<|S.region rfl<|O.q 1 rfl<|O.aN (.p rfl) rfl af rfl rfl ((QB x3 aq)) ?_;rintro _ _ ⟨dW,cn,rfl,rfl⟩
 try simp only [gB,gC,gD]
 refine O.aD (.p rfl) (.bw (T:=ag.u8) (ys:=[0]) underlying22 cP aq rfl rfl ⟨rfl,trivial⟩ aq) ?_;rintro _ _ ⟨cY,bJ,rfl,rfl⟩;refine O.aD (.p rfl) (.fH (T:=ag.u8) underlying22 cP aq rfl rfl an an bl bl) ?_;rintro _ _ ⟨gk,dm,rfl,rfl⟩;refine O.gH an fun g hs hm pO=>?_;replace hg:=Fr.bQ hg hs;replace hR:=a_ hR hm
 try replace aU:=aU.mono hs
 try replace hK:=hK.mono hs
 try replace r1:=r1.mono hs
 try replace r2:=r2.mono hs
 try replace gV:=gV.mono hs
 try replace x3:=x3.mono hs
 try replace pN:=pN.mono hs
 clear hs hm;refine O.aN (.p rfl) rfl af rfl rfl (((SS pO aq rfl aU hK).mono (aF.imp fun _ _ h=>L_ K5.1 h))) ?_;rintro _ _ ⟨rfl,rfl⟩
 try simp only [gB,gC,gD]
 rw [K5.2];refine O.q 3 rfl<|O.aD (.p rfl) (.alloc (cs:=[.int .u8 0,.int .i64 0,.int .i64 0,.string ⟨#[]⟩,.string ⟨#[]⟩,.int .i64 0,.int .i64 0,.int .i64 0,.slice none 0 0,.slice none 0 0,.slice none 0 0,.slice none 0 0,.slice none 0 0,.int .u8 0,.slice none 0 0,.slice none 0 0,.slice none 0 0,.slice none 0 0,.int .i64 0,.int .i64 0,.int .i64 0,.slice none 0 0,.slice none 0 0,.int .i64 0,.int .i64 0,.int .i64 0,.slice none 0 0,.slice none 0 0,.int .i64 0]) zeroValue41 rfl) ?_;rintro _ _ ⟨iL,rfl,rfl⟩;refine O.eg rfl (.jM af rfl rfl rfl rfl an oL) ?_;refine O.q 1 rfl<|O.nil<|S.seq<|S.region rfl<|O.op (.p rfl) (.build (cs:=[_,_,_,_,_,_,_,_,_,_,_,_,_,_,_,_,_,_,_,_,_,_,_,_,_,_,_,_,_]) underlying41 rfl rfl rfl rfl rfl)<|O.aN (.p rfl) rfl af rfl rfl ((xZ gV acY aU hK)) ?_;rintro _ _ ⟨uv,rH,rfl,rfl⟩
 try simp only [gB,gC,gD]
 rw [Ra];refine O.q 5 rfl<|O.nil<|S.seq<|S.region rfl<|O.q 1 rfl<|O.op (.p rfl) (.eql rfl rfl)<|O.sT 33 rfl dU ?_;refine O.q 2 rfl<|O.aD (.g rfl rfl) (.bw (T:=ag.u8) (ys:=[1,0,0,0,0,0,0,0,5,0,0,0,0,0,0,0,3]) underlying22 cP aq rfl rfl ⟨rfl,rfl,rfl,rfl,rfl,rfl,rfl,rfl,rfl,rfl,rfl,rfl,rfl,rfl,rfl,rfl,rfl,trivial⟩ aq) ?_;rintro _ _ ⟨nZ,n8,rfl,rfl⟩;refine O.dh (.g rfl rfl) rfl af rfl rfl (bs:=[ak ag.u8 5 (.slice nZ 17 n8) [1,0,0,0,0,0,0,0,5,0,0,0,0,0,0,0,3]]) ct (fun m hm hd=>oQ x3.left (hm.arr.right hd)) ?_;rintro _ _ ⟨rfl,rfl⟩
 try simp only [gB,gC,gD]
 refine O.sT 37 rfl dU ?_;refine O.q 3 rfl<|O.op (.g rfl rfl) (.eql rfl rfl)<|O.sT 41 rfl dU ?_;refine O.q 3 rfl<|O.op (.g rfl rfl) (.len rfl underlying22 rfl)<|O.op (.g rfl rfl) (.eql rfl rfl)<|O.sT 46 rfl dU ?_;refine O.q 3 rfl<|O.c7 (.g rfl rfl) underlying22 fG rfl rfl (show _=(((0):Nat):Int) by omega) (pN) (h:=fun ah2 afK VT Wr=>?_)
 cases Wr
 refine O.op (.g rfl rfl) (.loadAt vM rfl VT rfl) ?_;refine O.op (.g rfl rfl) (.eql rfl rfl)<|O.sT 52 rfl dU ?_;refine O.q 3 rfl<|O.c7 (.g rfl rfl) underlying22 fG rfl rfl (show _=(((16):Nat):Int) by omega) (pN) (h:=fun ah3 afL VU Ws=>?_)
 cases Ws
 refine O.op (.g rfl rfl) (.loadAt vM rfl VU rfl) ?_;refine O.op (.g rfl rfl) (.eql rfl rfl)<|O.sT 58 rfl dU ?_;refine O.q 3 rfl<|O.op (.g rfl rfl) (.eql rfl rfl)<|O.sT 62 rfl dU ?_;refine O.q 3 rfl<|O.op (.g rfl rfl) (.eql rfl rfl)<|O.sT 66 rfl dU ?_;refine O.q 2 rfl<|O.nil ?_;exact S.rt results8 rfl hR ⟨rfl,rfl⟩
theorem TC {f:aP} (hl:kD f):(e9 f).length≤262144:=by
 unfold e9
 split
 ·rename_i h;exact h.2
 ·simp
theorem abK {e:TypeId} {v w:Value} {xs ys:List UInt8} {m:Fr} (h:Sat [nc ag.u8 e [v,w] [xs,ys]] m):av ag.u8 m v xs:=by
 obtain ⟨m1,_,_,s1,_,x,_⟩:=h;obtain ⟨m2,_,_,s2,_,y,_⟩:=x;exact y.arr.mono (Fr.bQ s2 s1)
theorem Ts {r:Fr} {cs:List Value} {f:aP} (hf:ck.rel r cs f) (ho:jD c4 f) (aU:cg r ⟨0,0,none⟩ (cz fq)) (hK:cg r ⟨1,0,none⟩ (cz gW)) :
  aj prog 5 #[.agg cs.toArray] r [] (aF fun v aa=>v=.bool true∧aa=[]):=by
 have kr:=hf;obtain ⟨a8,a9,c6,cQ,cR,cS,cT,b_,dV,dW,cY,cX,dX,bk,bc,bB,bG,bD,bE,bF,bn,cx,cn,bJ,bI,cq,rfl,p1,p2,p3,gT,gL,jb,gU,bU,b7,bO,b5,bL,bN,bP,bW,bK,ja,e5,gS,bT,b6,fp,hY,iT,cc,bX,jq⟩:=ck.sh kr;refine aj.of (n:=65) _ rfl func5 rfl rfl rfl fun g hg R hR=>?_;have hf:=hf.mono hg;have aU:=aU.mono hg;have hK:=hK.mono hg;refine S.seq<|S.region rfl<|O.aD (.p rfl) (.box (cs:=[_,_,_,_,_,_,_,_,_,_,_,_,_,_,_,_,_,_,_,_,_,_,_,_,_,_,_,_,_]) rfl rfl) ?_;rintro _ _ ⟨b1,rfl,rfl⟩;refine O.q 1 rfl<|O.nil<|S.seq<|S.seq<|S.cy an fun g hs hm cK=>?_;replace hg:=Fr.bQ hg hs;replace hR:=a_ hR hm
 try replace hf:=hf.mono hs
 try replace aU:=aU.mono hs
 try replace hK:=hK.mono hs
 clear hs hm;refine S.region rfl<|O.op (.p rfl) (.aJ isAgg41 af rfl cK) ?_;refine O.aN (.p rfl) rfl af rfl rfl ((Tr hf ho)) ?_;rintro v11 _ ⟨n,rfl,hn,rfl⟩
 try simp only [gB,gC,gD]
 refine O.op (.p rfl) (.gtr rfl rfl)<|O.nil ?_
 first|refine S.xT rfl (fun h12=>?_) (fun h12=>?_)|refine S.uD rfl (fun h12=>?_) (fun h12=>?_)
 ·refine S.seq<|S.region rfl<|O.aN (.p rfl) rfl af rfl rfl ((K8 aU hK)) ?_
  rintro _ _ ⟨rfl,rfl⟩
  try simp only [gB,gC,gD]
  refine O.q 1 rfl<|O.nil ?_;exact S.rt results5 rfl hR ⟨rfl,rfl⟩
 ·have hc:=hn ai
  have hsz:=hc.sz;have hk:=jD.mono' (N:=60000) (M:=100000000000) aq hc.1;have k_:=TC hsz;refine S.skip<|S.seq<|S.region rfl<|O.op (.p rfl) (.aJ isAgg41 af rfl cK) ?_;refine O.aN (.p rfl) rfl af rfl rfl ((Yt hf hk)) ?_;rintro _ _ ⟨lF,d8,kI,d9,Co,d10,Cp,d11,Cq,d12,Cr,d14,Cs,d15,Ct,d16,Cu,d17,qv,d21,qw,d22,qx,d26,qy,d27,rfl,rfl⟩
  try simp only [gB,gC,gD]
  refine O.aD (.p rfl) (.alloc (cs:=[.int .u8 0,.int .i64 0,.int .i64 0,.string ⟨#[]⟩,.string ⟨#[]⟩,.int .i64 0,.int .i64 0,.int .i64 0,.slice none 0 0,.slice none 0 0,.slice none 0 0,.slice none 0 0,.slice none 0 0,.int .u8 0,.slice none 0 0,.slice none 0 0,.slice none 0 0,.slice none 0 0,.int .i64 0,.int .i64 0,.int .i64 0,.slice none 0 0,.slice none 0 0,.int .i64 0,.int .i64 0,.int .i64 0,.slice none 0 0,.slice none 0 0,.int .i64 0]) zeroValue41 rfl) ?_;rintro _ _ ⟨b3,rfl,rfl⟩;refine O.eg rfl (.jM af rfl rfl rfl rfl an oL) ?_
  refine O.nil<|S.seq<|S.cH (b:=b3) (cs' :=[aT f.1,.int .i64 f.2.1,.int .i64 f.2.2.1,.string (str f.2.2.2.1),.string (str f.2.2.2.2.1),.int .i64 f.2.2.2.2.2.1.1,.int .i64 f.2.2.2.2.2.1.2.1,.int .i64 f.2.2.2.2.2.1.2.2.1,.slice lF f.2.2.2.2.2.1.2.2.2.1.length d8,.slice kI f.2.2.2.2.2.1.2.2.2.2.1.length d9,.slice Co f.2.2.2.2.2.2.1.length d10,.slice Cp f.2.2.2.2.2.2.2.1.1.length d11,.slice Cq f.2.2.2.2.2.2.2.1.2.1.length d12,aT f.2.2.2.2.2.2.2.2.1.1,.slice Cr f.2.2.2.2.2.2.2.2.1.2.1.length d14,.slice Cs f.2.2.2.2.2.2.2.2.1.2.2.1.length d15,.slice Ct f.2.2.2.2.2.2.2.2.1.2.2.2.1.length d16,.slice Cu f.2.2.2.2.2.2.2.2.2.1.length d17,.int .i64 f.2.2.2.2.2.2.2.2.2.2.1.1.1,.int .i64 f.2.2.2.2.2.2.2.2.2.2.1.1.2.1,.int .i64 f.2.2.2.2.2.2.2.2.2.2.1.1.2.2.1,.slice qv f.2.2.2.2.2.2.2.2.2.2.1.1.2.2.2.1.length d21,.slice qw f.2.2.2.2.2.2.2.2.2.2.1.1.2.2.2.2.1.length d22,.int .i64 f.2.2.2.2.2.2.2.2.2.2.1.2.1.1,.int .i64 f.2.2.2.2.2.2.2.2.2.2.1.2.1.2.1,.int .i64 f.2.2.2.2.2.2.2.2.2.2.1.2.1.2.2.1,.slice qx f.2.2.2.2.2.2.2.2.2.2.1.2.1.2.2.2.1.length d26,.slice qy f.2.2.2.2.2.2.2.2.2.2.1.2.1.2.2.2.2.1.length d27,.int .i64 f.2.2.2.2.2.2.2.2.2.2.2.1]) an rfl ?_;refine S.cy an fun g hs hm ep=>?_;replace hg:=Fr.bQ hg hs;replace hR:=a_ hR hm
  try replace hf:=hf.mono hs
  try replace aU:=aU.mono hs
  try replace hK:=hK.mono hs
  try replace cK:=cK.mono hs
  clear hs hm;refine S.fW (A:=(rA aX).own [aT f.1,.int .i64 f.2.1,.int .i64 f.2.2.1,.string (str f.2.2.2.1),.string (str f.2.2.2.2.1),.int .i64 f.2.2.2.2.2.1.1,.int .i64 f.2.2.2.2.2.1.2.1,.int .i64 f.2.2.2.2.2.1.2.2.1,.slice lF f.2.2.2.2.2.1.2.2.2.1.length d8,.slice kI f.2.2.2.2.2.1.2.2.2.2.1.length d9,.slice Co f.2.2.2.2.2.2.1.length d10,.slice Cp f.2.2.2.2.2.2.2.1.1.length d11,.slice Cq f.2.2.2.2.2.2.2.1.2.1.length d12,aT f.2.2.2.2.2.2.2.2.1.1,.slice Cr f.2.2.2.2.2.2.2.2.1.2.1.length d14,.slice Cs f.2.2.2.2.2.2.2.2.1.2.2.1.length d15,.slice Ct f.2.2.2.2.2.2.2.2.1.2.2.2.1.length d16,.slice Cu f.2.2.2.2.2.2.2.2.2.1.length d17,.int .i64 f.2.2.2.2.2.2.2.2.2.2.1.1.1,.int .i64 f.2.2.2.2.2.2.2.2.2.2.1.1.2.1,.int .i64 f.2.2.2.2.2.2.2.2.2.2.1.1.2.2.1,.slice qv f.2.2.2.2.2.2.2.2.2.2.1.1.2.2.2.1.length d21,.slice qw f.2.2.2.2.2.2.2.2.2.2.1.1.2.2.2.2.1.length d22,.int .i64 f.2.2.2.2.2.2.2.2.2.2.1.2.1.1,.int .i64 f.2.2.2.2.2.2.2.2.2.2.1.2.1.2.1,.int .i64 f.2.2.2.2.2.2.2.2.2.2.1.2.1.2.2.1,.slice qx f.2.2.2.2.2.2.2.2.2.2.1.2.1.2.2.2.1.length d26,.slice qy f.2.2.2.2.2.2.2.2.2.2.1.2.1.2.2.2.2.1.length d27,.int .i64 f.2.2.2.2.2.2.2.2.2.2.2.1] f) an fun g hs hm ⟨_,x',s'⟩=>?_;have hL:=(fun s x=>(rA aX).mono s ((rA aX).read x)) s' x';clear x' s';replace hg:=Fr.bQ hg hs;replace hR:=a_ hR hm
  try replace hf:=hf.mono hs
  try replace aU:=aU.mono hs
  try replace hK:=hK.mono hs
  try replace cK:=cK.mono hs
  try replace ep:=ep.mono hs
  clear hs hm;have z6:=(rA aX).rel hL;refine S.region rfl<|O.op (.p rfl) (.aJ isAgg41 af rfl ep) ?_;refine O.aN (.p rfl) rfl af rfl rfl ((xZ z6 hsz aU hK)) ?_;rintro _ _ ⟨eE,cN,rfl,rfl⟩
  try simp only [gB,gC,gD]
  refine O.q 5 rfl<|O.nil<|S.seq<|S.region rfl<|O.op (.p rfl) (.aJ isAgg41 af rfl ep) ?_;refine O.aN (.p rfl) rfl af rfl rfl ((xZ z6 hsz aU hK)) ?_;rintro _ _ ⟨gk,dm,rfl,rfl⟩
  try simp only [gB,gC,gD]
  refine O.q 5 rfl<|O.nil<|S.seq<|S.region rfl<|O.op (.p rfl) (.aJ isAgg41 af rfl cK) ?_;refine O.aN (.p rfl) rfl af rfl rfl ((OM hf hsz)) ?_;rintro _ _ ⟨xD,fl,rfl,rfl⟩
  try simp only [gB,gC,gD]
  refine O.q 5 rfl<|O.nil<|S.seq<|S.uG (ak ag.u8 5) ?_;refine S.each (A:=ak ag.u8 5) (b:=.slice eE (e9 f).length cN) (a:=e9 f) an an ?_;refine S.each (A:=ak ag.u8 5) (b:=.slice gk (e9 f).length dm) (a:=e9 f) an an ?_;simp only [List.nil_append,List.cons_append];refine S.gH an fun g hs hm hb=>?_;replace hg:=Fr.bQ hg hs;replace hR:=a_ hR hm
  try replace hf:=hf.mono hs
  try replace aU:=aU.mono hs
  try replace hK:=hK.mono hs
  try replace cK:=cK.mono hs
  try replace ep:=ep.mono hs
  try replace hL:=hL.mono hs
  try replace z6:=z6.mono hs
  clear hs hm;refine S.aY (L:=[0,1,2,3,4,5,6,7,8,9,11,10,12,13,14,15,16,17,18,19,20,21,22,23,24,25,26,27,28,29,30,31,32,33,34]) F.mixed af ?_;refine ah.q 2 rfl<|.quiet (.p rfl) rfl (fun _=>.eql rfl rfl)<|ah.sT 33 rfl aH ?_;refine ah.q 3 rfl<|ah.dh (.g rfl rfl) af rfl af rfl rfl (bs:=[nc ag.u8 5 [.slice eE (e9 f).length cN,.slice gk (e9 f).length dm] [e9 f,e9 f]]) ct (fun m hm hd=>oQ ((abK hm).right hd) hb.left) ?_;rintro _ _ ⟨rfl,rfl⟩
  try simp only [gB,gC,gD]
  refine ah.sT 37 rfl aH ?_;refine ah.q 2 rfl<|.quiet (.g rfl rfl) rfl (fun _=>.aJ isAgg41 af rfl ep) ?_;refine .quiet (.g rfl rfl) rfl (fun _=>.aJ isAgg41 af rfl cK) ?_;refine ah.aN (.g rfl rfl) af rfl af rfl rfl ((SU z6 hsz aU hK)) ?_;rintro _ _ ⟨rfl,rfl⟩
  try simp only [gB,gC,gD]
  refine ah.aN (.g rfl rfl) af rfl af rfl rfl ((aaC hf hsz)) ?_;rintro _ _ ⟨rfl,rfl⟩
  try simp only [gB,gC,gD]
  refine .quiet (.g rfl rfl) rfl (fun _=>.LF underlying4 rfl rfl)<|ah.sT 44 rfl aH ?_;refine ah.q 2 rfl<|.quiet (.g rfl rfl) rfl (fun _=>.aJ isAgg41 af rfl ep) ?_;refine .quiet (.g rfl rfl) rfl (fun _=>.aJ isAgg41 af rfl cK) ?_;refine ah.aN (.g rfl rfl) af rfl af rfl rfl ((Nr hL hf hk)) ?_;rintro _ _ ⟨rfl,rfl⟩
  try simp only [gB,gC,gD]
  refine ah.q 4 rfl<|ah.bw (T:=ag.val) (ys:=[_,_]) (.g rfl rfl) af underlying28 dH aq rfl rfl ⟨⟨rfl,rfl⟩,⟨rfl,rfl⟩,trivial⟩ aq (fun ix iy=>?_);refine ah.s3 (.g rfl rfl) af rfl af rfl rfl ct (aj.YC (aa:=[nc ag.u8 5 [.slice eE (e9 f).length cN,.slice gk (e9 f).length dm] [e9 f,e9 f]]) (bs:=[ak ag.val 22 (.slice ix 2 iy) [.slice eE (e9 f).length cN,.slice gk (e9 f).length dm]]) (fun m hm hd=>QA (hm.arr.right hd) cw aH)) ?_;rintro adI _ ⟨_,⟨rfl,rfl⟩,rfl⟩
  try simp only [gB,gC,gD]
  refine ah.q 2 rfl<|.quiet (.g rfl rfl) rfl (fun _=>.aJ isAgg41 af rfl ep) ?_;refine .quiet (.g rfl rfl) rfl (fun _=>.aJ isAgg41 af rfl cK) ?_;refine ah.aN (.g rfl rfl) af rfl af rfl rfl ((Nr hL hf hk)) ?_;rintro _ _ ⟨rfl,rfl⟩
  try simp only [gB,gC,gD]
  refine ah.q 2 rfl<|ah.aN (.g rfl rfl) af rfl af rfl rfl ((K8 aU hK)) ?_;rintro _ _ ⟨rfl,rfl⟩
  try simp only [gB,gC,gD]
  refine ah.q 2 rfl<|bt.nil ?_;exact S.rt results5 rfl hR ⟨rfl,rfl⟩
end Go.Proofs.YtdjoggpacmpfnaaGreatDoor
