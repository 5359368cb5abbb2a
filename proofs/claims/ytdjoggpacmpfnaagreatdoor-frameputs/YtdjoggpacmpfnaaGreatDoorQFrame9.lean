/- Texts of this proof. -/
import Derived.Test.YtdjoggpacmpfnaaGreatDoorQLent0
open Go Go.Sp Go.Proofs.Tryz
set_option maxRecDepth 100000
set_option maxHeartbeats 1000000
attribute [local irreducible] obj Own ak
namespace Go.Proofs.YtdjoggpacmpfnaaGreatDoor
theorem NV {r:Fr} (k i:Int) (hk:iW k) (hi:iW i):aj prog 118 #[.int .i64 k,.int .i64 i] r [] (aF fun v aa=>v=.agg #[.string (str []),.int .i64 0,.int .i64 (o8 k i),.slice none 0 0,.bool false,.slice none 0 0,.slice none 0 0]∧aa=[]):=by
 refine aj.o func118 fun g hg R hR=>?_;refine S.seq<|S.region rfl<|O.aD (.p rfl) (.alloc (cs:=[.string ⟨#[]⟩,.int .i64 0,.int .i64 0,.slice none 0 0,.bool false,.slice none 0 0,.slice none 0 0]) zeroValue118 rfl) ?_;rintro _ _ ⟨b4,rfl,rfl⟩;refine U 5 ?_;refine O.v0 (.p rfl) rfl af rfl rfl ((IM _ _ hk hi)) ?_;refine O.op (.p rfl) (.build (cs:=[_,_,_,_,_,_,_]) underlying118 rfl rfl rfl rfl rfl)<|U 1 ?_;refine O.nil<|S.mW results118 isAgg118 af rfl an fun w hw=>ax.end_ hR hw ?_;exact pk ⟨rfl,rfl⟩
theorem NW {h:Fr} {k i:Int} (hk:iW k) (hi:iW i):bu.rel h [.string (str []),.int .i64 0,.int .i64 (o8 k i),.slice none 0 0,.bool false,.slice none 0 0,.slice none 0 0] (mT k i):=bu.mk aH (by constructor<;>decide) (N1 hk hi) av.nil av.nil av.nil
theorem Yy {r:Fr} {cs:List Value} {x:aV} (h:bu.rel r cs x) (hb:lB 100000000000 x) :
  aj prog 117 #[.agg cs.toArray] r [] (aF fun v aa=>∃ a3 c3 a5 cD a6 cB,v=.agg #[.string (str x.1),.int .i64 x.2.1,.int .i64 x.2.2.1,.slice a3 x.2.2.2.1.length c3,.bool x.2.2.2.2.1,.slice a5 x.2.2.2.2.2.1.length cD,.slice a6 x.2.2.2.2.2.2.1.length cB]∧aa=[(gj aX).own [.string (str x.1),.int .i64 x.2.1,.int .i64 x.2.2.1,.slice a3 x.2.2.2.1.length c3,.bool x.2.2.2.2.1,.slice a5 x.2.2.2.2.2.1.length cD,.slice a6 x.2.2.2.2.2.2.1.length cB] x]):=by
 obtain ⟨dM,je,iF,dN,jf,iG,rfl,k0,k1,k2,aI,cv,bV⟩:=bu.sh h;obtain ⟨qX,nM,Zo,Zp⟩:=hb;refine aj.o func117 fun g hg R hR=>?_;have aI:=aI.mono hg;have cv:=cv.mono hg;have bV:=bV.mono hg;refine S.seq<|S.region rfl<|O.aD (.p rfl) (.box (cs:=[_,_,_,_,_,_,_]) rfl rfl) ?_;rintro _ _ ⟨b1,rfl,rfl⟩;refine O.aD (.p rfl) (.alloc (cs:=[.string ⟨#[]⟩,.int .i64 0,.int .i64 0,.slice none 0 0,.bool false,.slice none 0 0,.slice none 0 0]) zeroValue118 rfl) ?_;rintro _ _ ⟨b2,rfl,rfl⟩;refine U 5 ?_;refine O.aN (.p rfl) rfl af rfl rfl ((Yr aI ai)) ?_;rintro _ _ ⟨a3,c3,rfl,rfl⟩;refine U 7 ?_;refine O.aN (.p rfl) rfl af rfl rfl ((sO cv ai)) ?_;rintro _ _ ⟨a5,cD,rfl,rfl⟩;refine U 7 ?_;refine O.aN (.p rfl) rfl af rfl rfl ((sO bV ai)) ?_;rintro _ _ ⟨a6,cB,rfl,rfl⟩;refine U 7 ?_;refine O.nil<|S.oS (A:=(gj aX).own [.string (str x.1),.int .i64 x.2.1,.int .i64 x.2.2.1,.slice a3 x.2.2.2.1.length c3,.bool x.2.2.2.2.1,.slice a5 x.2.2.2.2.2.1.length cD,.slice a6 x.2.2.2.2.2.2.1.length cB] x) (bs:=[jg cU aX.dot (lN 1) (.slice a3 x.2.2.2.1.length c3) x.2.2.2.1,jg ag.u8 aX.u8 (c_ 1) (.slice a5 x.2.2.2.2.2.1.length cD) x.2.2.2.2.2.1,jg ag.u8 aX.u8 (c_ 1) (.slice a6 x.2.2.2.2.2.2.1.length cB) x.2.2.2.2.2.2.1]) ct (fun m y=>gj.mk k0 k1 k2 y) ?_
 refine S.mW results117 isAgg118 af rfl an fun w hw=>ax.end_ hR hw ?_;exact pk ⟨a3,c3,a5,cD,a6,cB,rfl,rfl⟩
theorem X4 {r:Fr} {cs ds:List Value} {x:aV} (h:(gj aX).rd r cs x) (hy:bu.rel r ds x) (hb:lB 100000000000 x) :
  aj prog 138 #[.agg cs.toArray,.agg ds.toArray] r [] (aF fun v aa=>v=.bool true∧aa=[]):=by
 have hx:=(gj aX).rel h;obtain ⟨v3,iq,v6,rfl,k0,k1,k2,ei,h_,Jg⟩:=gj.lO h;obtain ⟨oF,vo,vp,oG,vq,vr,rfl,l6,fM,m4,gM,oH,oI⟩:=bu.sh hy;obtain ⟨qX,nM,Zo,Zp⟩:=hb;refine aj.o func138 fun g hg R hR=>?_;have hx:=hx.mono hg;have hy:=hy.mono hg;have gM:=gM.mono hg;have oH:=oH.mono hg;have oI:=oI.mono hg;replace ei:=ei.mono hg;replace h_:=h_.mono hg;replace Jg:=Jg.mono hg;refine S.seq<|S.region rfl<|O.aD (.p rfl) (.box (cs:=[_,_,_,_,_,_,_]) rfl rfl) ?_;rintro _ _ ⟨b2,rfl,rfl⟩;refine O.aD (.p rfl) (.box (cs:=[_,_,_,_,_,_,_]) rfl rfl) ?_;rintro _ _ ⟨b3,rfl,rfl⟩;refine U 6 ?_;refine O.v0 (.p rfl) rfl af rfl rfl ((DW hx hy)) ?_;refine O.sT 7 rfl aH ?_;refine U 5 ?_;refine O.v0 (.g rfl rfl) rfl af rfl rfl ((XY ei gM ai)) ?_;refine U 6 ?_;refine O.v0 (.g rfl rfl) rfl af rfl rfl ((uW h_ oH ai)) ?_;refine U 6 ?_;refine O.v0 (.g rfl rfl) rfl af rfl rfl ((uW Jg oI ai)) ?_;refine U 3 ?_;exact S.rt results138 rfl hR ⟨rfl,rfl⟩
theorem NK {r:Fr} {va:Value} {es:List aV} (ha:av bu r va es) (hq:∀ x∈es,lB 100000000000 x) (hl:es.length≤100000000000) :
  aj prog 54 #[va] r [] (aF fun v aa=>∃ a c,v=.slice a es.length c∧aa=[iI (gj aX) aX.mV (mT 1) (.slice a es.length c) es]):=by
 have har:=ha;refine aj.o func54 fun g hg R hR=>?_;have ha:=ha.mono hg;obtain ⟨a1,c1,rfl⟩:=ha.shape;refine U 9 ?_;refine O.aD (.p rfl) (.wF (T:=ag.cells 7) (c:=es.length+12) underlying36 zO rfl rfl rfl rfl ai ai) ?_;rintro _ _ ⟨c6,bB,rfl,rfl⟩;refine U 8 ?_;refine S.uG (gj aX).own ?_;refine S.r0 (ι:=Nat) (dy:=Option Addr) (gN:=Nat) (aL:=List (List Value)) (fun i a c aG=>i≤es.length∧aG.length=i) (fun i a c aG=>[(4,.int .i64 (i:Int)),(3,.slice a i c)]) [(0,_)] (fun i a c aG=>[aZ (gj aX).own aG (es.take i),ak (ag.cells 7) 118 (.slice a i c) aG]) (fun i a c aG=>es.length - i) (0) (c6) (bB) ([]) sK aO aO rfl fun i a c aG hx ih=>?_;have aW:=bS (g:=g);obtain ⟨hx1,hvs⟩:=hx;refine U 8 ?_;refine S.cd rfl (fun eH=>?_) fun eH=>?_
 ·have hi:i<es.length:=by omega
  have hrow:=hq es[i] (List.getElem_mem hi);refine U 7 ?_;refine O.ew har hg (h:=fun e5 me gx iZ=>?_);have ee:=ag.rel.mono iZ hg;obtain ⟨DB,DC,DD,DE,DF,DG,rfl,rT,CZ,C0,CM,CO,CQ⟩:=bu.sh ee;refine O.op (.p rfl) (.aJ isAgg118 af rfl gx) ?_;refine O.aN (.p rfl) rfl af rfl rfl ((Yy ee hrow)) ?_;rintro _ _ ⟨BO,B7,BT,Cb,BV,Cd,rfl,rfl⟩;refine O.aD (.p rfl) (.alloc (cs:=[.string ⟨#[]⟩,.int .i64 0,.int .i64 0,.slice none 0 0,.bool false,.slice none 0 0,.slice none 0 0]) zeroValue118 rfl) ?_;rintro _ _ ⟨iL,rfl,rfl⟩;refine U 5 ?_;refine O.aD (.p rfl) (.bw (T:=(ag.cells 7)) (ys:=[_]) underlying36 zO aq rfl rfl ⟨⟨rfl,rfl,by first|(simp;done)|(intro v hv;simp [Value.cells] at hv;rcases hv with rfl|rfl<;>rfl)|(refine List.forall_mem_cons.2 ⟨rfl,?_⟩;repeat (first|exact (fun _ h=>absurd h List.not_mem_nil)|refine List.forall_mem_cons.2 ⟨rfl,?_⟩))⟩,trivial⟩ aq) ?_;rintro _ _ ⟨gO,dw,rfl,rfl⟩;refine O.aD (.p rfl) (.fH (T:=(ag.cells 7)) underlying36 zO aq rfl rfl an an bl bl) ?_;rintro _ _ ⟨iJ,dG,rfl,rfl⟩;refine U 8 ?_
  have hcs:(Value.agg #[.string (str es[i].1),.int .i64 es[i].2.1,.int .i64 es[i].2.2.1,.slice BO es[i].2.2.2.1.length B7,.bool es[i].2.2.2.2.1,.slice BT es[i].2.2.2.2.2.1.length Cb,.slice BV es[i].2.2.2.2.2.2.1.length Cd]).cells.toList=[.string (str es[i].1),.int .i64 es[i].2.1,.int .i64 es[i].2.2.1,.slice BO es[i].2.2.2.1.length B7,.bool es[i].2.2.2.2.1,.slice BT es[i].2.2.2.2.2.1.length Cb,.slice BV es[i].2.2.2.2.2.2.1.length Cd]:=by simp [Value.cells]
  simp only [hcs];refine S.each (A:=(gj aX).own) (bs:=aG) (b:=[.string (str es[i].1),.int .i64 es[i].2.1,.int .i64 es[i].2.2.1,.slice BO es[i].2.2.2.1.length B7,.bool es[i].2.2.2.2.1,.slice BT es[i].2.2.2.2.2.1.length Cb,.slice BV es[i].2.2.2.2.2.2.1.length Cd]) (a:=es[i]) an an ?_;rw [← j9 hi,hvs];exact S.pw (ih (i+1) (iJ) (dG) (aG++[[.string (str es[i].1),.int .i64 es[i].2.1,.int .i64 es[i].2.2.1,.slice BO es[i].2.2.2.1.length B7,.bool es[i].2.2.2.2.1,.slice BT es[i].2.2.2.2.2.1.length Cb,.slice BV es[i].2.2.2.2.2.2.1.length Cd]]) vu ai)
 ·have hi:i=es.length:=by omega
  subst hi;rw [List.take_length];refine U 7 ?_;refine S.conv (B:=ak (ag.cells 7) 118 (.slice a es.length c) aG) (C:=ak (ag.cells 7) 118 (.slice a es.length c) (aG++[])) an (fun m x=>⟨m,Fr.bH _,by rw [List.append_nil];exact x⟩) ?_;refine S.r0 (ι:=Nat) (dy:=Option Addr) (gN:=Nat) (aL:=List (List Value)) (fun i a c cl=>i≤12∧cG (bu.rel Fr.emp) cl (iS (mT 1) i)) (fun i a c cl=>[(6,.int .i64 (i:Int)),(3,.slice a (es.length+i) c)]) [(0,_)] (fun i a c cl=>[ak (ag.cells 7) 118 (.slice a (es.length+i) c) (aG++cl),aZ (gj aX).own aG es]) (fun i a c cl=>12 - i) (0) (a) (c) ([]) (by exact ⟨by simp,trivial⟩) aO aO rfl fun i a c cl hx ih=>?_;have hm2:=bS (g:=g);obtain ⟨hx1,gP⟩:=hx;have ku:=gP.nI;rw [tP] at ku;refine U 6 ?_;refine S.cd rfl (fun hG=>?_) fun hG=>?_
  ·refine U 6 ?_
   refine O.v0 (.p rfl) rfl af rfl rfl (NV _ _ e6 e6) ?_;refine O.aD (.p rfl) (.bw (T:=(ag.cells 7)) (ys:=[_]) underlying36 zO aq rfl rfl ⟨⟨rfl,rfl,by first|(simp;done)|(intro v hv;simp [Value.cells] at hv;rcases hv with rfl|rfl<;>rfl)|(refine List.forall_mem_cons.2 ⟨rfl,?_⟩;repeat (first|exact (fun _ h=>absurd h List.not_mem_nil)|refine List.forall_mem_cons.2 ⟨rfl,?_⟩))⟩,trivial⟩ aq) ?_;rintro _ _ ⟨mE,mG,rfl,rfl⟩;refine O.aD (.p rfl) (.fH (T:=(ag.cells 7)) underlying36 zO aq rfl rfl an an bl bl) ?_;rintro _ _ ⟨ni,nq,rfl,rfl⟩;refine U 8 ?_;have hcs:(Value.agg #[.string (str []),.int .i64 0,.int .i64 (o8 1 (i:Int)),.slice none 0 0,.bool false,.slice none 0 0,.slice none 0 0]).cells.toList=[.string (str []),.int .i64 0,.int .i64 (o8 1 (i:Int)),.slice none 0 0,.bool false,.slice none 0 0,.slice none 0 0]:=by simp [Value.cells]
   simp only [hcs];rw [kV];simp only [cI,hvs,ku];exact S.pw (ih (i+1) (ni) (nq) ((cl++[[.string (str []),.int .i64 0,.int .i64 (o8 1 (i:Int)),.slice none 0 0,.bool false,.slice none 0 0,.slice none 0 0]])) (by exact ⟨by omega,by rw [← AN];exact cG.append gP ⟨NW e6 e6,trivial⟩⟩) ai)
  ·have hi:i=12:=by omega
   subst hi;refine S.nu an (fun _ x=>ak.room (T:=ag.cells 7) (e:=118) (xs:=aG++cl) (a:=a) (c:=c) (m:=es.length+12) x) fun hroom=>?_;refine U 6 ?_;refine O.qa (q:=es.length) (ag.cells 7) (.p rfl) underlying36 oC rfl rfl rfl ai ?_;refine O.q 1 rfl<|O.nil<|S.pk (ζ:=[ak (ag.cells 7) 118 (.slice a (es.length+12) c) (aG++cl),aZ (gj aX).own aG es]) aC ?_;refine S.fold (A:=iI (gj aX) aX.mV (mT 1) (.slice a es.length c) es) (bs:=[ak (ag.cells 7) 118 (.slice a (es.length+12) c) (aG++cl),aZ (gj aX).own aG es]) (fun m x=>iI.fold (L:=gj aX) hroom.2 hvs gP x) ?_;exact S.rt results54 rfl hR ⟨a,c,rfl,rfl⟩
theorem Ns {r:Fr} {va jO:Value} {es:List aV} (hz:mC (gj aX) (mT 1) r va es) (hl:av bu r jO es) (hq:∀ x∈es,lB 100000000000 x) (hb:es.length≤100000000000) :
  aj prog 63 #[va,jO] r [] (aF fun v aa=>v=.bool true∧aa=[]):=by
 obtain ⟨a,c,aG,cl,rfl,wj,hin,hv,hu⟩:=hz;have hlr:=hl;refine aj.o func63 fun g hg R hR=>?_;have hin:=hin.mono hg;have hl:=hl.mono hg;replace hv:=hv.imp fun _ _=>(gj aX).mono hg;replace hu:=hu.imp fun _ _=>bu.mono hg;have hvl:=hv.nI;have ku:=hu.nI;rw [tP] at ku;obtain ⟨a1,c1,rfl⟩:=hl.shape;have hal:(aG++cl).length=es.length+12:=by simp;omega
 refine U 13 ?_;refine S.cd rfl (fun h11=>?_) fun h11=>?_
 ·exact absurd rfl ay
 ·refine U 7 ?_
  refine O.qa (q:=es.length+12) (ag.cells 7) (.p rfl) underlying36 oC rfl rfl rfl ai<|U 8 ?_;refine S.ev (ι:=Nat) (fun i=>i≤es.length+12) (fun i=>[(6,.int .i64 (i:Int))]) [(1,_),(5,_)] (fun i=>[]) (fun i=>es.length+12 - i) (0) aH aO aO rfl fun i hx ih=>?_;have aW:=bS (g:=g);refine U 8 ?_;refine S.cd rfl (fun gI=>?_) fun gI=>?_
  ·have hi:i<(aG++cl).length:=by omega
   refine U 4 ?_;refine S.aY (L:=.range 35) F.mixed af ?_;refine U 5 ?_
   refine ah.cs 27 rfl (fun hG=>?_) fun hG=>?_
   ·have hi2:i<es.length:=by omega
    have jl:(aG++cl)[i]=aG[i]:=xu ai;have hA:=hv.vF i ai hi2;have iN:=(gj aX).rel hA;have hrow:=hq es[i] (List.getElem_mem hi2);refine ah.q 2 rfl<|ah.dI (hin) (h:=fun tW s4 jI j5=>?_);obtain ⟨rfl,_,_⟩:=j5;rw [jl] at jI;generalize aG[i]=zK at jI hA iN;obtain ⟨aiM,aiO,aiQ,aiS,aiU,aiW,rfl,Qv,Qx,aiY,ai0,ai2,ai4⟩:=bu.sh iN;refine .quiet (.g rfl rfl) rfl (fun _=>.aJ isAgg118 af rfl jI) ?_;refine ah.q 2 rfl<|ah.ew hlr hg (h:=fun A2 zJ tu Ay=>?_);have ot:=ag.rel.mono Ay hg;obtain ⟨aih,aii,aij,aik,ail,aim,rfl,MP,agU,agV,agf,agi,agj⟩:=bu.sh ot;refine .quiet (.g rfl rfl) rfl (fun _=>.aJ isAgg118 af rfl tu) ?_;refine ah.v0 (.g rfl rfl) af rfl af rfl rfl ((X4 hA ot hrow)) ?_;refine U 7 ?_;refine ah.aB 43 rfl cw ?_;refine U 23 ?_;exact S.cF (ih (i+1) ai ai)
   ·have hi2:es.length≤i:=by omega
    have hid:i - aG.length<cl.length:=by omega
    have jl:(aG++cl)[i]=cl[i - aG.length]:=List.getElem_append_right ai;have iN:=hu.vF (i - aG.length) hid cw;rw [Dj] at iN;have hmk:iW ((i:Int) - (es.length:Int)):=by constructor<;>omega
    have Ae:((i - aG.length:Nat):Int)=(i:Int) - (es.length:Int):=by omega
    rw [Ae] at iN;refine U 16 ?_;refine ah.sT 43 rfl cw ?_;refine ah.q 3 rfl<|ah.dI (hin) (h:=fun wP vI lI nG=>?_);obtain ⟨rfl,_,_⟩:=nG;rw [jl] at lI;generalize cl[i - aG.length]=zK at lI iN;obtain ⟨aiN,aiP,aiR,aiT,aiV,aiX,rfl,Qw,Qy,aiZ,ai1,ai3,ai5⟩:=bu.sh iN;refine .quiet (.g rfl rfl) rfl (fun _=>.aJ isAgg118 af rfl lI) ?_;refine U 4 ?_;refine ah.v0 (.g rfl rfl) af rfl af rfl rfl ((NV _ _ e6 hmk)) ?_;refine ah.v0 (.g rfl rfl) af rfl af rfl rfl ((DW iN (NW e6 hmk))) ?_;refine ah.sT 54 rfl aH ?_;refine U 12 ?_;exact S.cF (ih (i+1) ai ai)
  ·refine U 5 ?_
   exact S.rt results63 rfl hR ⟨rfl,rfl⟩
theorem NT {r:Fr} (k i:Int) (hk:iW k) (hi:iW i):aj prog 189 #[.int .i64 k,.int .i64 i] r [] (aF fun v aa=>v=.agg #[.string (str (gR k i)),.slice none 0 0]∧aa=[]):=by
 refine aj.o func189 fun g hg R hR=>?_;refine S.seq<|S.region rfl<|O.aD (.p rfl) (.alloc (cs:=[.string ⟨#[]⟩,.slice none 0 0]) zeroValue120 rfl) ?_;rintro _ _ ⟨b4,rfl,rfl⟩;refine U 5 ?_;refine O.v0 (.p rfl) rfl af rfl rfl ((IL _ _)) ?_;refine O.op (.p rfl) (.build (cs:=[_,_]) underlying120 rfl rfl rfl rfl rfl)<|U 1 ?_;refine O.nil<|S.mW results189 isAgg120 af rfl an fun w hw=>ax.end_ hR hw ?_;exact pk ⟨rfl,rfl⟩
theorem NU {h:Fr} {k i:Int} (hk:iW k) (hi:iW i):dJ.rel h [.string (str (gR k i)),.slice none 0 0] (qU k i):=dJ.mk aH av.nil
theorem Yu {r:Fr} {cs:List Value} {x:eL} (h:dJ.rel r cs x) (hb:py 100000000000 x) :
  aj prog 214 #[.agg cs.toArray] r [] (aF fun v aa=>∃ a1 c1,v=.agg #[.string (str x.1),.slice a1 x.2.1.length c1]∧aa=[(iv aX).own [.string (str x.1),.slice a1 x.2.1.length c1] x]):=by
 obtain ⟨w7,w8,rfl,k0,k1⟩:=dJ.sh h;obtain ⟨qX,nL⟩:=hb;refine aj.o func214 fun g hg R hR=>?_;have k1:=k1.mono hg;refine S.seq<|S.region rfl<|O.aD (.p rfl) (.box (cs:=[_,_]) rfl rfl) ?_;rintro _ _ ⟨b1,rfl,rfl⟩;refine O.aD (.p rfl) (.alloc (cs:=[.string ⟨#[]⟩,.slice none 0 0]) zeroValue120 rfl) ?_;rintro _ _ ⟨b2,rfl,rfl⟩;refine U 5 ?_;refine O.aN (.p rfl) rfl af rfl rfl ((NK k1 nL.2 nL.1)) ?_;rintro _ _ ⟨a1,c1,rfl,rfl⟩;refine U 7 ?_;refine O.nil<|S.oS (A:=(iv aX).own [.string (str x.1),.slice a1 x.2.1.length c1] x) (bs:=[iI (gj aX) aX.mV (mT 1) (.slice a1 x.2.1.length c1) x.2.1]) ct (fun m y=>iv.mk k0 y) ?_;refine S.mW results214 isAgg120 af rfl an fun w hw=>ax.end_ hR hw ?_;exact pk ⟨a1,c1,rfl,rfl⟩
theorem X0 {r:Fr} {cs ds:List Value} {x:eL} (h:(iv aX).rd r cs x) (hy:dJ.rel r ds x) (hb:py 100000000000 x) :
  aj prog 227 #[.agg cs.toArray,.agg ds.toArray] r [] (aF fun v aa=>v=.bool true∧aa=[]):=by
 have hx:=(iv aX).rel h;obtain ⟨v1,rfl,k0,q1⟩:=iv.lO h;obtain ⟨xd,xe,rfl,l6,fM⟩:=dJ.sh hy;obtain ⟨qX,nL⟩:=hb;refine aj.o func227 fun g hg R hR=>?_;have hx:=hx.mono hg;have hy:=hy.mono hg;have fM:=fM.mono hg;replace q1:=q1.mono hg;refine S.seq<|S.region rfl<|O.aD (.p rfl) (.box (cs:=[_,_]) rfl rfl) ?_;rintro _ _ ⟨b2,rfl,rfl⟩;refine O.aD (.p rfl) (.box (cs:=[_,_]) rfl rfl) ?_;rintro _ _ ⟨b3,rfl,rfl⟩;refine U 6 ?_;refine O.v0 (.p rfl) rfl af rfl rfl ((DU hx hy)) ?_;refine O.sT 7 rfl aH ?_;refine U 5 ?_;refine O.v0 (.g rfl rfl) rfl af rfl rfl ((Ns q1 fM nL.2 nL.1)) ?_;refine U 3 ?_;exact S.rt results227 rfl hR ⟨rfl,rfl⟩
theorem Yv {r:Fr} {va:Value} {es:List eL} (ha:av dJ r va es) (hq:∀ x∈es,py 100000000000 x) (hl:es.length≤100000000000) :
  aj prog 116 #[va] r [] (aF fun v aa=>∃ a c,v=.slice a es.length c∧aa=[iI (iv aX) aX.leaf (qU 1) (.slice a es.length c) es]):=by
 have har:=ha;refine aj.o func116 fun g hg R hR=>?_;have ha:=ha.mono hg;obtain ⟨a1,c1,rfl⟩:=ha.shape;refine U 9 ?_;refine O.aD (.p rfl) (.wF (T:=ag.cells 2) (c:=es.length+12) underlying33 zP rfl rfl rfl rfl ai ai) ?_;rintro _ _ ⟨c6,bB,rfl,rfl⟩;refine U 8 ?_;refine S.uG (iv aX).own ?_;refine S.r0 (ι:=Nat) (dy:=Option Addr) (gN:=Nat) (aL:=List (List Value)) (fun i a c aG=>i≤es.length∧aG.length=i) (fun i a c aG=>[(4,.int .i64 (i:Int)),(3,.slice a i c)]) [(0,_)] (fun i a c aG=>[aZ (iv aX).own aG (es.take i),ak (ag.cells 2) 120 (.slice a i c) aG]) (fun i a c aG=>es.length - i) (0) (c6) (bB) ([]) sK aO aO rfl fun i a c aG hx ih=>?_;have aW:=bS (g:=g);obtain ⟨hx1,hvs⟩:=hx;refine U 8 ?_;refine S.cd rfl (fun eH=>?_) fun eH=>?_
 ·have hi:i<es.length:=by omega
  have hrow:=hq es[i] (List.getElem_mem hi);refine U 7 ?_;refine O.ew har hg (h:=fun e5 me gx iZ=>?_);have ee:=ag.rel.mono iZ hg;obtain ⟨NA,NG,rfl,rT,z8⟩:=dJ.sh ee;refine O.op (.p rfl) (.aJ isAgg120 af rfl gx) ?_;refine O.aN (.p rfl) rfl af rfl rfl ((Yu ee hrow)) ?_;rintro _ _ ⟨sR,sX,rfl,rfl⟩;refine O.aD (.p rfl) (.alloc (cs:=[.string ⟨#[]⟩,.slice none 0 0]) zeroValue120 rfl) ?_;rintro _ _ ⟨iL,rfl,rfl⟩;refine U 5 ?_;refine O.aD (.p rfl) (.bw (T:=(ag.cells 2)) (ys:=[_]) underlying33 zP aq rfl rfl ⟨⟨rfl,rfl,by first|(simp;done)|(intro v hv;simp [Value.cells] at hv;rcases hv with rfl|rfl<;>rfl)|(refine List.forall_mem_cons.2 ⟨rfl,?_⟩;repeat (first|exact (fun _ h=>absurd h List.not_mem_nil)|refine List.forall_mem_cons.2 ⟨rfl,?_⟩))⟩,trivial⟩ aq) ?_;rintro _ _ ⟨gO,dw,rfl,rfl⟩;refine O.aD (.p rfl) (.fH (T:=(ag.cells 2)) underlying33 zP aq rfl rfl an an bl bl) ?_;rintro _ _ ⟨iJ,dG,rfl,rfl⟩;refine U 8 ?_;have hcs:(Value.agg #[.string (str es[i].1),.slice sR es[i].2.1.length sX]).cells.toList=[.string (str es[i].1),.slice sR es[i].2.1.length sX]:=by simp [Value.cells]
  simp only [hcs];refine S.each (A:=(iv aX).own) (bs:=aG) (b:=[.string (str es[i].1),.slice sR es[i].2.1.length sX]) (a:=es[i]) an an ?_;rw [← j9 hi,hvs];exact S.pw (ih (i+1) (iJ) (dG) (aG++[[.string (str es[i].1),.slice sR es[i].2.1.length sX]]) vu ai)
 ·have hi:i=es.length:=by omega
  subst hi;rw [List.take_length];refine U 7 ?_;refine S.conv (B:=ak (ag.cells 2) 120 (.slice a es.length c) aG) (C:=ak (ag.cells 2) 120 (.slice a es.length c) (aG++[])) an (fun m x=>⟨m,Fr.bH _,by rw [List.append_nil];exact x⟩) ?_;refine S.r0 (ι:=Nat) (dy:=Option Addr) (gN:=Nat) (aL:=List (List Value)) (fun i a c cl=>i≤12∧cG (dJ.rel Fr.emp) cl (iS (qU 1) i)) (fun i a c cl=>[(6,.int .i64 (i:Int)),(3,.slice a (es.length+i) c)]) [(0,_)] (fun i a c cl=>[ak (ag.cells 2) 120 (.slice a (es.length+i) c) (aG++cl),aZ (iv aX).own aG es]) (fun i a c cl=>12 - i) (0) (a) (c) ([]) (by exact ⟨by simp,trivial⟩) aO aO rfl fun i a c cl hx ih=>?_;have hm2:=bS (g:=g);obtain ⟨hx1,gP⟩:=hx;have ku:=gP.nI;rw [tP] at ku;refine U 6 ?_;refine S.cd rfl (fun hG=>?_) fun hG=>?_
  ·refine U 6 ?_
   refine O.v0 (.p rfl) rfl af rfl rfl (NT _ _ e6 e6) ?_;refine O.aD (.p rfl) (.bw (T:=(ag.cells 2)) (ys:=[_]) underlying33 zP aq rfl rfl ⟨⟨rfl,rfl,by first|(simp;done)|(intro v hv;simp [Value.cells] at hv;rcases hv with rfl|rfl<;>rfl)|(refine List.forall_mem_cons.2 ⟨rfl,?_⟩;repeat (first|exact (fun _ h=>absurd h List.not_mem_nil)|refine List.forall_mem_cons.2 ⟨rfl,?_⟩))⟩,trivial⟩ aq) ?_;rintro _ _ ⟨mE,mG,rfl,rfl⟩;refine O.aD (.p rfl) (.fH (T:=(ag.cells 2)) underlying33 zP aq rfl rfl an an bl bl) ?_;rintro _ _ ⟨ni,nq,rfl,rfl⟩;refine U 8 ?_;have hcs:(Value.agg #[.string (str (gR 1 (i:Int))),.slice none 0 0]).cells.toList=[.string (str (gR 1 (i:Int))),.slice none 0 0]:=by simp [Value.cells]
   simp only [hcs];rw [kV];simp only [cI,hvs,ku];exact S.pw (ih (i+1) (ni) (nq) ((cl++[[.string (str (gR 1 (i:Int))),.slice none 0 0]])) (by exact ⟨by omega,by rw [← AN];exact cG.append gP ⟨NU e6 e6,trivial⟩⟩) ai)
  ·have hi:i=12:=by omega
   subst hi;refine S.nu an (fun _ x=>ak.room (T:=ag.cells 2) (e:=120) (xs:=aG++cl) (a:=a) (c:=c) (m:=es.length+12) x) fun hroom=>?_;refine U 6 ?_;refine O.qa (q:=es.length) (ag.cells 2) (.p rfl) underlying33 sg rfl rfl rfl ai ?_;refine O.q 1 rfl<|O.nil<|S.pk (ζ:=[ak (ag.cells 2) 120 (.slice a (es.length+12) c) (aG++cl),aZ (iv aX).own aG es]) aC ?_;refine S.fold (A:=iI (iv aX) aX.leaf (qU 1) (.slice a es.length c) es) (bs:=[ak (ag.cells 2) 120 (.slice a (es.length+12) c) (aG++cl),aZ (iv aX).own aG es]) (fun m x=>iI.fold (L:=iv aX) hroom.2 hvs gP x) ?_;exact S.rt results116 rfl hR ⟨a,c,rfl,rfl⟩
theorem X1 {r:Fr} {va jO:Value} {es:List eL} (hz:mC (iv aX) (qU 1) r va es) (hl:av dJ r jO es) (hq:∀ x∈es,py 100000000000 x) (hb:es.length≤100000000000) :
  aj prog 137 #[va,jO] r [] (aF fun v aa=>v=.bool true∧aa=[]):=by
 obtain ⟨a,c,aG,cl,rfl,wj,hin,hv,hu⟩:=hz;have hlr:=hl;refine aj.o func137 fun g hg R hR=>?_;have hin:=hin.mono hg;have hl:=hl.mono hg;replace hv:=hv.imp fun _ _=>(iv aX).mono hg;replace hu:=hu.imp fun _ _=>dJ.mono hg;have hvl:=hv.nI;have ku:=hu.nI;rw [tP] at ku;obtain ⟨a1,c1,rfl⟩:=hl.shape;have hal:(aG++cl).length=es.length+12:=by simp;omega
 refine U 13 ?_;refine S.cd rfl (fun h11=>?_) fun h11=>?_
 ·exact absurd rfl ay
 ·refine U 7 ?_
  refine O.qa (q:=es.length+12) (ag.cells 2) (.p rfl) underlying33 sg rfl rfl rfl ai<|U 8 ?_;refine S.ev (ι:=Nat) (fun i=>i≤es.length+12) (fun i=>[(6,.int .i64 (i:Int))]) [(1,_),(5,_)] (fun i=>[]) (fun i=>es.length+12 - i) (0) aH aO aO rfl fun i hx ih=>?_;have aW:=bS (g:=g);refine U 8 ?_;refine S.cd rfl (fun gI=>?_) fun gI=>?_
  ·have hi:i<(aG++cl).length:=by omega
   refine U 4 ?_;refine S.aY (L:=.range 35) F.mixed af ?_;refine U 5 ?_
   refine ah.cs 27 rfl (fun hG=>?_) fun hG=>?_
   ·have hi2:i<es.length:=by omega
    have jl:(aG++cl)[i]=aG[i]:=xu ai;have hA:=hv.vF i ai hi2;have iN:=(iv aX).rel hA;have hrow:=hq es[i] (List.getElem_mem hi2);refine ah.q 2 rfl<|ah.dI (hin) (h:=fun tW s4 jI j5=>?_);obtain ⟨rfl,_,_⟩:=j5;rw [jl] at jI;generalize aG[i]=zK at jI hA iN;obtain ⟨aeQ,aeS,rfl,Qv,Qx⟩:=dJ.sh iN;refine .quiet (.g rfl rfl) rfl (fun _=>.aJ isAgg120 af rfl jI) ?_;refine ah.q 2 rfl<|ah.ew hlr hg (h:=fun A2 zJ tu Ay=>?_);have ot:=ag.rel.mono Ay hg;obtain ⟨ahv,ahA,rfl,MP,Ur⟩:=dJ.sh ot;refine .quiet (.g rfl rfl) rfl (fun _=>.aJ isAgg120 af rfl tu) ?_;refine ah.v0 (.g rfl rfl) af rfl af rfl rfl ((X0 hA ot hrow)) ?_;refine U 7 ?_;refine ah.aB 43 rfl cw ?_;refine U 23 ?_;exact S.cF (ih (i+1) ai ai)
   ·have hi2:es.length≤i:=by omega
    have hid:i - aG.length<cl.length:=by omega
    have jl:(aG++cl)[i]=cl[i - aG.length]:=List.getElem_append_right ai;have iN:=hu.vF (i - aG.length) hid cw;rw [Dj] at iN;have hmk:iW ((i:Int) - (es.length:Int)):=by constructor<;>omega
    have Ae:((i - aG.length:Nat):Int)=(i:Int) - (es.length:Int):=by omega
    rw [Ae] at iN;refine U 16 ?_;refine ah.sT 43 rfl cw ?_;refine ah.q 3 rfl<|ah.dI (hin) (h:=fun wP vI lI nG=>?_);obtain ⟨rfl,_,_⟩:=nG;rw [jl] at lI;generalize cl[i - aG.length]=zK at lI iN;obtain ⟨aeR,aeT,rfl,Qw,Qy⟩:=dJ.sh iN;refine .quiet (.g rfl rfl) rfl (fun _=>.aJ isAgg120 af rfl lI) ?_;refine U 4 ?_;refine ah.v0 (.g rfl rfl) af rfl af rfl rfl ((NT _ _ e6 hmk)) ?_;refine ah.v0 (.g rfl rfl) af rfl af rfl rfl ((DU iN (NU e6 hmk))) ?_;refine ah.sT 54 rfl aH ?_;refine U 12 ?_;exact S.cF (ih (i+1) ai ai)
  ·refine U 5 ?_
   exact S.rt results137 rfl hR ⟨rfl,rfl⟩
theorem It {r:Fr} {cs:List Value} {x:dD} (h:bx.rel r cs x) (hb:pz 100000000000 x) :
  aj prog 51 #[.agg cs.toArray] r [] (aF fun v aa=>∃ a3 c3 a4 bR,v=.agg #[.int .i64 x.1,.int .i64 x.2.1,.int .i64 x.2.2.1,.slice a3 x.2.2.2.1.length c3,.slice a4 x.2.2.2.2.1.length bR]∧aa=[(gu aX).own [.int .i64 x.1,.int .i64 x.2.1,.int .i64 x.2.2.1,.slice a3 x.2.2.2.1.length c3,.slice a4 x.2.2.2.2.1.length bR] x]):=by
 obtain ⟨dM,jz,dN,jA,rfl,k0,k1,k2,aI,fo⟩:=bx.sh h;obtain ⟨nM,wI⟩:=hb;refine aj.o func51 fun g hg R hR=>?_;have aI:=aI.mono hg;have fo:=fo.mono hg;refine S.seq<|S.region rfl<|O.aD (.p rfl) (.box (cs:=[_,_,_,_,_]) rfl rfl) ?_;rintro _ _ ⟨b1,rfl,rfl⟩;refine O.aD (.p rfl) (.alloc (cs:=[.int .i64 0,.int .i64 0,.int .i64 0,.slice none 0 0,.slice none 0 0]) zeroValue27 rfl) ?_;rintro _ _ ⟨b2,rfl,rfl⟩;refine U 5 ?_;refine O.aN (.p rfl) rfl af rfl rfl ((sO aI ai)) ?_;rintro _ _ ⟨a3,c3,rfl,rfl⟩;refine U 7 ?_;refine O.aN (.p rfl) rfl af rfl rfl ((sO fo ai)) ?_;rintro _ _ ⟨a4,bR,rfl,rfl⟩;refine U 7 ?_;refine O.nil<|S.oS (A:=(gu aX).own [.int .i64 x.1,.int .i64 x.2.1,.int .i64 x.2.2.1,.slice a3 x.2.2.2.1.length c3,.slice a4 x.2.2.2.2.1.length bR] x) (bs:=[jg ag.u8 aX.u8 (c_ 1) (.slice a3 x.2.2.2.1.length c3) x.2.2.2.1,jg ag.u8 aX.u8 (c_ 1) (.slice a4 x.2.2.2.2.1.length bR) x.2.2.2.2.1]) ct (fun m y=>gu.mk k0 k1 k2 y) ?_;refine S.mW results51 isAgg27 af rfl an fun w hw=>ax.end_ hR hw ?_;exact pk ⟨a3,c3,a4,bR,rfl,rfl⟩
theorem Ij {r:Fr} {cs ds:List Value} {x:dD} (h:(gu aX).rd r cs x) (hy:bx.rel r ds x) (hb:pz 100000000000 x) :
  aj prog 60 #[.agg cs.toArray,.agg ds.toArray] r [] (aF fun v aa=>v=.bool true∧aa=[]):=by
 have hx:=(gu aX).rel h;obtain ⟨v3,v4,rfl,k0,k1,k2,ei,jt⟩:=gu.lO h;obtain ⟨oF,Ko,oG,Kr,rfl,l6,fM,m4,gM,m5⟩:=bx.sh hy;obtain ⟨nM,wI⟩:=hb;refine aj.o func60 fun g hg R hR=>?_;have hx:=hx.mono hg;have hy:=hy.mono hg;have gM:=gM.mono hg;have m5:=m5.mono hg;replace ei:=ei.mono hg;replace jt:=jt.mono hg;refine S.seq<|S.region rfl<|O.aD (.p rfl) (.box (cs:=[_,_,_,_,_]) rfl rfl) ?_;rintro _ _ ⟨b2,rfl,rfl⟩;refine O.aD (.p rfl) (.box (cs:=[_,_,_,_,_]) rfl rfl) ?_;rintro _ _ ⟨b3,rfl,rfl⟩;refine U 6 ?_;refine O.v0 (.p rfl) rfl af rfl rfl ((DX hx hy)) ?_;refine O.sT 7 rfl aH ?_;refine U 5 ?_;refine O.v0 (.g rfl rfl) rfl af rfl rfl ((uW ei gM ai)) ?_;refine U 6 ?_;refine O.v0 (.g rfl rfl) rfl af rfl rfl ((uW jt m5 ai)) ?_;refine U 3 ?_;exact S.rt results60 rfl hR ⟨rfl,rfl⟩
theorem Ys {r:Fr} {cs:List Value} {x:gh} (h:eK.rel r cs x) (hb:KE 100000000000 x) :
  aj prog 55 #[.agg cs.toArray] r [] (aF fun v aa=>∃ a3 c3 a4 bR a8 bk a9 bc,v=.agg #[.int .i64 x.1.1,.int .i64 x.1.2.1,.int .i64 x.1.2.2.1,.slice a3 x.1.2.2.2.1.length c3,.slice a4 x.1.2.2.2.2.1.length bR,.int .i64 x.2.1.1,.int .i64 x.2.1.2.1,.int .i64 x.2.1.2.2.1,.slice a8 x.2.1.2.2.2.1.length bk,.slice a9 x.2.1.2.2.2.2.1.length bc]∧aa=[(sN aX).own [.int .i64 x.1.1,.int .i64 x.1.2.1,.int .i64 x.1.2.2.1,.slice a3 x.1.2.2.2.1.length c3,.slice a4 x.1.2.2.2.2.1.length bR,.int .i64 x.2.1.1,.int .i64 x.2.1.2.1,.int .i64 x.2.1.2.2.1,.slice a8 x.2.1.2.2.2.1.length bk,.slice a9 x.2.1.2.2.2.2.1.length bc] x]):=by
 obtain ⟨dM,jz,sF,sG,dN,jA,sH,sI,rfl,k0,k1,k2,aI,fo,cv,bV,pW,iQ,qR⟩:=eK.sh h;obtain ⟨nM,wI,wJ,wK⟩:=hb;refine aj.o func55 fun g hg R hR=>?_;have aI:=aI.mono hg;have fo:=fo.mono hg;have iQ:=iQ.mono hg;have qR:=qR.mono hg;refine S.seq<|S.region rfl<|O.aD (.p rfl) (.box (cs:=[_,_,_,_,_,_,_,_,_,_]) rfl rfl) ?_;rintro _ _ ⟨b1,rfl,rfl⟩;refine O.aD (.p rfl) (.alloc (cs:=[.int .i64 0,.int .i64 0,.int .i64 0,.slice none 0 0,.slice none 0 0,.int .i64 0,.int .i64 0,.int .i64 0,.slice none 0 0,.slice none 0 0]) zeroValue38 rfl) ?_;rintro _ _ ⟨b2,rfl,rfl⟩;refine U 5 ?_;refine O.aN (.p rfl) rfl af rfl rfl ((It (x:=x.1) (bx.mk k0 k1 k2 aI fo) ⟨nM,wI⟩)) ?_;rintro _ _ ⟨a3,c3,a4,bR,rfl,rfl⟩;refine U 7 ?_;refine O.aN (.p rfl) rfl af rfl rfl ((It (x:=x.2.1) (bx.mk cv bV pW iQ qR) ⟨wJ,wK⟩)) ?_;rintro _ _ ⟨a8,bk,a9,bc,rfl,rfl⟩;refine U 7 ?_
 refine O.nil<|S.oS (A:=(sN aX).own [.int .i64 x.1.1,.int .i64 x.1.2.1,.int .i64 x.1.2.2.1,.slice a3 x.1.2.2.2.1.length c3,.slice a4 x.1.2.2.2.2.1.length bR,.int .i64 x.2.1.1,.int .i64 x.2.1.2.1,.int .i64 x.2.1.2.2.1,.slice a8 x.2.1.2.2.2.1.length bk,.slice a9 x.2.1.2.2.2.2.1.length bc] x) (bs:=[(gu aX).own [.int .i64 x.1.1,.int .i64 x.1.2.1,.int .i64 x.1.2.2.1,.slice a3 x.1.2.2.2.1.length c3,.slice a4 x.1.2.2.2.2.1.length bR] x.1,(gu aX).own [.int .i64 x.2.1.1,.int .i64 x.2.1.2.1,.int .i64 x.2.1.2.2.1,.slice a8 x.2.1.2.2.2.1.length bk,.slice a9 x.2.1.2.2.2.2.1.length bc] x.2.1]) ct (fun m y=>aM.ZS (A:=gu aX) (B:=gu aX) (c:=[.int .i64 x.1.1,.int .i64 x.1.2.1,.int .i64 x.1.2.2.1,.slice a3 x.1.2.2.2.1.length c3,.slice a4 x.1.2.2.2.2.1.length bR]) (d:=[.int .i64 x.2.1.1,.int .i64 x.2.1.2.1,.int .i64 x.2.1.2.2.1,.slice a8 x.2.1.2.2.2.1.length bk,.slice a9 x.2.1.2.2.2.2.1.length bc]) y) ?_;refine S.mW results55 isAgg38 af rfl an fun w hw=>ax.end_ hR hw ?_;exact pk ⟨a3,c3,a4,bR,a8,bk,a9,bc,rfl,rfl⟩
theorem XZ {r:Fr} {cs ds:List Value} {x:gh} (h:(sN aX).rd r cs x) (hy:eK.rel r ds x) (hb:KE 100000000000 x) :
  aj prog 64 #[.agg cs.toArray,.agg ds.toArray] r [] (aF fun v aa=>v=.bool true∧aa=[]):=by
 have hx:=(sN aX).rel h;obtain ⟨c1,c2,rfl,r1,r2⟩:=aM.OW (A:=gu aX) (B:=gu aX) h;have p1:=r1;have p2:=r2;obtain ⟨v3,v4,rfl,k0,k1,k2,ei,jt⟩:=gu.lO r1;obtain ⟨ey,eD,rfl,cv,bV,pW,aau,aaw⟩:=gu.lO r2;obtain ⟨oF,Ko,Kp,Kq,oG,Kr,Ks,Kt,rfl,l6,fM,m4,gM,m5,oH,oI,xq,nT,nU⟩:=eK.sh hy;obtain ⟨nM,wI,wJ,wK⟩:=hb;refine aj.o func64 fun g hg R hR=>?_;have hx:=hx.mono hg;have hy:=hy.mono hg;have gM:=gM.mono hg;have m5:=m5.mono hg;have nT:=nT.mono hg;have nU:=nU.mono hg;replace p1:=(gu aX).mono hg p1;replace p2:=(gu aX).mono hg p2;refine S.seq<|S.region rfl<|O.aD (.p rfl) (.box (cs:=[_,_,_,_,_,_,_,_,_,_]) rfl rfl) ?_;rintro _ _ ⟨b2,rfl,rfl⟩;refine O.aD (.p rfl) (.box (cs:=[_,_,_,_,_,_,_,_,_,_]) rfl rfl) ?_;rintro _ _ ⟨b3,rfl,rfl⟩;refine U 6 ?_;refine O.v0 (.p rfl) rfl af rfl rfl ((Py hx hy)) ?_;refine O.sT 7 rfl aH ?_;refine U 5 ?_;refine O.v0 (.g rfl rfl) rfl af rfl rfl ((Ij (x:=x.1) p1 (bx.mk l6 fM m4 gM m5) ⟨nM,wI⟩)) ?_;refine U 6 ?_;refine O.v0 (.g rfl rfl) rfl af rfl rfl ((Ij (x:=x.2.1) p2 (bx.mk oH oI xq nT nU) ⟨wJ,wK⟩)) ?_;refine U 3 ?_;exact S.rt results64 rfl hR ⟨rfl,rfl⟩
theorem Jk {r:Fr} {cs:List Value} {x:dD} (h:bx.rel r cs x):aj prog 216 #[.agg cs.toArray] r [] (aF fun v aa=>v=.bool (r7 x)∧aa=[]):=by
 obtain ⟨dM,jz,dN,jA,rfl,k0,k1,k2,aI,fo⟩:=bx.sh h;refine aj.o func216 fun g hg R hR=>?_;refine S.seq<|S.region rfl<|O.aD (.p rfl) (.box (cs:=[_,_,_,_,_]) rfl rfl) ?_;rintro _ _ ⟨b1,rfl,rfl⟩;refine U 8 ?_
 refine O.cs 6 rfl (fun h6=>?_) fun h6=>?_
 ·refine U 5 ?_
  refine O.cs 11 rfl (fun h11=>?_) fun h11=>?_
  ·refine U 5 ?_
   refine O.cs 16 rfl (fun jk=>?_) fun jk=>?_
   ·refine U 5 ?_
    refine O.cs 21 rfl (fun rP=>?_) fun rP=>?_
    ·refine U 5 ?_
     refine O.cs 26 rfl (fun pM=>?_) fun pM=>?_
     ·refine U 5 ?_
      refine O.cs 31 rfl (fun oU=>?_) fun oU=>?_
      ·refine U 7 ?_
       refine S.ret results216 rfl fun w hw=>ax.end_ hR hw ?_
       first|exact ⟨_,⟨congrArg _ (aA ai).symm,rfl⟩,aC⟩|exact ⟨_,⟨congrArg _ (decide_eq_decide.2 ai),rfl⟩,aC⟩
      ·refine O.q 6 rfl<|O.nil<|S.ret results216 rfl fun w hw=>ax.end_ hR hw ?_
       first|exact ⟨_,⟨congrArg _ (aA ai).symm,rfl⟩,aC⟩|exact ⟨_,⟨congrArg _ (decide_eq_decide.2 ai),rfl⟩,aC⟩
     ·refine O.q 11 rfl<|O.nil<|S.ret results216 rfl fun w hw=>ax.end_ hR hw ?_
      first|exact ⟨_,⟨congrArg _ (aA ai).symm,rfl⟩,aC⟩|exact ⟨_,⟨congrArg _ (decide_eq_decide.2 ai),rfl⟩,aC⟩
    ·refine O.q 16 rfl<|O.nil<|S.ret results216 rfl fun w hw=>ax.end_ hR hw ?_
     first|exact ⟨_,⟨congrArg _ (aA ai).symm,rfl⟩,aC⟩|exact ⟨_,⟨congrArg _ (decide_eq_decide.2 ai),rfl⟩,aC⟩
   ·refine O.q 21 rfl<|O.nil<|S.ret results216 rfl fun w hw=>ax.end_ hR hw ?_
    first|exact ⟨_,⟨congrArg _ (aA ai).symm,rfl⟩,aC⟩|exact ⟨_,⟨congrArg _ (decide_eq_decide.2 ai),rfl⟩,aC⟩
  ·refine O.q 26 rfl<|O.nil<|S.ret results216 rfl fun w hw=>ax.end_ hR hw ?_
   first|exact ⟨_,⟨congrArg _ (aA ai).symm,rfl⟩,aC⟩|exact ⟨_,⟨congrArg _ (decide_eq_decide.2 ai),rfl⟩,aC⟩
 ·refine O.q 31 rfl<|O.nil<|S.ret results216 rfl fun w hw=>ax.end_ hR hw ?_
  first|exact ⟨_,⟨congrArg _ (aA ai).symm,rfl⟩,aC⟩|exact ⟨_,⟨congrArg _ (decide_eq_decide.2 ai),rfl⟩,aC⟩
theorem ju {r:Fr} {cs:List Value} {x:dD} (h:bx.rel r cs x):aj prog 119 #[.agg cs.toArray] r [] (aF fun v aa=>v=.bool (dR x)∧aa=[]):=by
 obtain ⟨dM,jz,dN,jA,rfl,k0,k1,k2,aI,fo⟩:=bx.sh h;refine aj.o func119 fun g hg R hR=>?_;have h:=h.mono hg;refine S.seq<|S.region rfl<|O.aD (.p rfl) (.box (cs:=[_,_,_,_,_]) rfl rfl) ?_;rintro _ _ ⟨b1,rfl,rfl⟩;refine U 3 ?_;refine S.cy an fun g hs hm cK=>?_;replace hg:=bf hg hs;replace hR:=a_ hR hm
 try replace h:=h.mono hs
 clear hs hm
 cases e:r7 x with
 |false =>
  refine S.region rfl<|O.op (.p rfl) (.aJ isAgg27 af rfl cK) ?_;refine O.v0 (.p rfl) rfl af rfl rfl ((Jk h)) ?_;refine O.aB 4 rfl (by exact e)<|U 8 ?_;exact S.rt results119 rfl hR ⟨by simp [dR,e],rfl⟩
 |true =>
  refine S.region rfl<|O.op (.p rfl) (.aJ isAgg27 af rfl cK) ?_;refine O.v0 (.p rfl) rfl af rfl rfl ((Jk h)) ?_;refine O.sT 4 rfl (by exact e)<|U 8 ?_;exact S.rt results119 rfl hR ⟨congrArg _ (by rw [dR,e,Bool.true_and];exact decide_eq_decide.2 ai),rfl⟩
theorem aay {r:Fr} {cs:List Value} {x:dD} (h:bx.rel r cs x) (hs:r7 x=true) :
  aj prog 266 #[.agg cs.toArray] r [] (aF fun v aa=>∃ a c,v=.slice a (iV x).length c∧aa=[ak ag.u8 5 (.slice a (iV x).length c) (iV x)]):=by
 obtain ⟨dM,jz,dN,jA,rfl,k0,k1,k2,aI,fo⟩:=bx.sh h;have hl:=DN hs;have hfl:[[2],be x.1,be x.2.1,be x.2.2.1,x.2.2.2.1].flatten=iV x:=by simp [iV]
 refine aj.o func266 fun g hg R hR=>?_;have h:=h.mono hg;have aI:=aI.mono hg;refine S.seq<|S.region rfl<|O.aD (.p rfl) (.box (cs:=[_,_,_,_,_]) rfl rfl) ?_;rintro _ _ ⟨b1,rfl,rfl⟩;refine U 4 ?_;refine S.cy an fun g hs hm cK=>?_;replace hg:=bf hg hs;replace hR:=a_ hR hm
 try replace h:=h.mono hs
 try replace aI:=aI.mono hs
 clear hs hm;refine S.region rfl<|O.op (.p rfl) (.aJ isAgg27 af rfl cK) ?_;refine O.v0 (.p rfl) rfl af rfl rfl ((Jk h)) ?_;refine O.sT 4 rfl (by exact hs) ?_;refine U 5 ?_;refine S.yJ (L:=[1,2,4,5,7,8,10,11,0,3,6,9,12,13,14]) (fun (s:Option Addr × Nat)=>[(2,.slice s.1 (iV x).length s.2)]) [] (fun (s:Option Addr × Nat)=>[ak ag.u8 5 (.slice s.1 (iV x).length s.2) (iV x)]) (.nil) F.mixed af (fun kk key=>?_) (fun s=>?_)
 ·refine U 8 ?_
  refine ah.kZ 0 3 [3,6,9,12,13,14] [0,6,9,12,13,14] af rfl rfl ?_ ?_
  ·refine e3.bw (T:=ag.u8) (ys:=[2]) (.p rfl) af underlying22 cP aq rfl rfl ⟨rfl,trivial⟩ aq (fun a6 cB=>?_)
   refine ah.aN (.p rfl) af rfl af rfl rfl (fQ _) ?_;rintro _ _ ⟨a9,bc,rfl,rfl⟩;refine ah.aN (.p rfl) af rfl af rfl rfl (fQ _) ?_;rintro _ _ ⟨cR,bD,rfl,rfl⟩;refine ah.aN (.p rfl) af rfl af rfl rfl (fQ _) ?_;rintro _ _ ⟨cT,bF,rfl,rfl⟩;refine ah.bw (T:=ag.val) (ys:=[_,_,_,_,_]) (.p rfl) af underlying28 dH aq rfl rfl ⟨⟨rfl,rfl⟩,⟨rfl,rfl⟩,⟨rfl,rfl⟩,⟨rfl,rfl⟩,⟨rfl,rfl⟩,trivial⟩ aq (fun eE cN=>?_);refine ah.dh (.p rfl) af rfl af rfl rfl (bs:=[ak ag.val 22 (.slice eE 5 cN) [.slice a6 1 cB,.slice a9 8 bc,.slice cR 8 bD,.slice cT 8 bF,.slice dM x.2.2.2.1.length dN],ak ag.u8 5 (.slice a6 1 cB) [2],ak ag.u8 5 (.slice a9 8 bc) (be x.1),ak ag.u8 5 (.slice cR 8 bD) (be x.2.1),ak ag.u8 5 (.slice cT 8 bF) (be x.2.2.1)]) ct (fun m hm hd=>kT (xss:=[[2],be x.1,be x.2.1,be x.2.2.1,x.2.2.2.1]) ((hm.arr.right hd).rows ⟨hm.tail.arr.right hd,hm.tail.tail.arr.right hd,hm.tail.tail.tail.arr.right hd,hm.tail.tail.tail.tail.arr.right hd,aI.left,trivial⟩) (by rw [hfl];omega)) ?_;rintro _ _ ⟨eF,cO,rfl,rfl⟩;rw [hfl];refine ah.q 1 rfl<|bt.nil<|S.pk ?_ (S.weaken (Sub.app aO (.nil)) (key (eF,cO)))
   try dsimp only
   repeat (first|exact gX|exact gZ|(apply gY;focus (repeat (first|exact fA|apply zt)))|apply g5)
  ·refine e3.aN (.p rfl) af rfl af rfl rfl (fQ _) ?_
   rintro _ _ ⟨a9,bc,rfl,rfl⟩;refine ah.kZ 0 6 [6,9,12,13,14] [0,9,12,13,14] af rfl rfl ?_ ?_
   ·refine e3.bw (T:=ag.u8) (ys:=[2]) (.p rfl) af underlying22 cP aq rfl rfl ⟨rfl,trivial⟩ aq (fun a6 cB=>?_)
    refine ah.aN (.p rfl) af rfl af rfl rfl (fQ _) ?_;rintro _ _ ⟨cR,bD,rfl,rfl⟩;refine ah.aN (.p rfl) af rfl af rfl rfl (fQ _) ?_;rintro _ _ ⟨cT,bF,rfl,rfl⟩;refine ah.bw (T:=ag.val) (ys:=[_,_,_,_,_]) (.p rfl) af underlying28 dH aq rfl rfl ⟨⟨rfl,rfl⟩,⟨rfl,rfl⟩,⟨rfl,rfl⟩,⟨rfl,rfl⟩,⟨rfl,rfl⟩,trivial⟩ aq (fun eE cN=>?_);refine ah.dh (.p rfl) af rfl af rfl rfl (bs:=[ak ag.val 22 (.slice eE 5 cN) [.slice a6 1 cB,.slice a9 8 bc,.slice cR 8 bD,.slice cT 8 bF,.slice dM x.2.2.2.1.length dN],ak ag.u8 5 (.slice a6 1 cB) [2],ak ag.u8 5 (.slice a9 8 bc) (be x.1),ak ag.u8 5 (.slice cR 8 bD) (be x.2.1),ak ag.u8 5 (.slice cT 8 bF) (be x.2.2.1)]) ct (fun m hm hd=>kT (xss:=[[2],be x.1,be x.2.1,be x.2.2.1,x.2.2.2.1]) ((hm.arr.right hd).rows ⟨hm.tail.arr.right hd,hm.tail.tail.arr.right hd,hm.tail.tail.tail.arr.right hd,hm.tail.tail.tail.tail.arr.right hd,aI.left,trivial⟩) (by rw [hfl];omega)) ?_;rintro _ _ ⟨eF,cO,rfl,rfl⟩;rw [hfl];refine ah.q 1 rfl<|bt.nil<|S.pk ?_ (S.weaken (Sub.app aO (.nil)) (key (eF,cO)))
    try dsimp only
    repeat (first|exact gX|exact gZ|(apply gY;focus (repeat (first|exact fA|apply zt)))|apply g5)
   ·refine e3.aN (.p rfl) af rfl af rfl rfl (fQ _) ?_
    rintro _ _ ⟨cR,bD,rfl,rfl⟩;refine ah.kZ 0 9 [9,12,13,14] [0,12,13,14] af rfl rfl ?_ ?_
    ·refine e3.bw (T:=ag.u8) (ys:=[2]) (.p rfl) af underlying22 cP aq rfl rfl ⟨rfl,trivial⟩ aq (fun a6 cB=>?_)
     refine ah.aN (.p rfl) af rfl af rfl rfl (fQ _) ?_;rintro _ _ ⟨cT,bF,rfl,rfl⟩;refine ah.bw (T:=ag.val) (ys:=[_,_,_,_,_]) (.p rfl) af underlying28 dH aq rfl rfl ⟨⟨rfl,rfl⟩,⟨rfl,rfl⟩,⟨rfl,rfl⟩,⟨rfl,rfl⟩,⟨rfl,rfl⟩,trivial⟩ aq (fun eE cN=>?_);refine ah.dh (.p rfl) af rfl af rfl rfl (bs:=[ak ag.val 22 (.slice eE 5 cN) [.slice a6 1 cB,.slice a9 8 bc,.slice cR 8 bD,.slice cT 8 bF,.slice dM x.2.2.2.1.length dN],ak ag.u8 5 (.slice a6 1 cB) [2],ak ag.u8 5 (.slice a9 8 bc) (be x.1),ak ag.u8 5 (.slice cR 8 bD) (be x.2.1),ak ag.u8 5 (.slice cT 8 bF) (be x.2.2.1)]) ct (fun m hm hd=>kT (xss:=[[2],be x.1,be x.2.1,be x.2.2.1,x.2.2.2.1]) ((hm.arr.right hd).rows ⟨hm.tail.arr.right hd,hm.tail.tail.arr.right hd,hm.tail.tail.tail.arr.right hd,hm.tail.tail.tail.tail.arr.right hd,aI.left,trivial⟩) (by rw [hfl];omega)) ?_;rintro _ _ ⟨eF,cO,rfl,rfl⟩;rw [hfl];refine ah.q 1 rfl<|bt.nil<|S.pk ?_ (S.weaken (Sub.app aO (.nil)) (key (eF,cO)))
     try dsimp only
     repeat (first|exact gX|exact gZ|(apply gY;focus (repeat (first|exact fA|apply zt)))|apply g5)
    ·refine e3.aN (.p rfl) af rfl af rfl rfl (fQ _) ?_
     rintro _ _ ⟨cT,bF,rfl,rfl⟩;refine ah.bw (T:=ag.u8) (ys:=[2]) (.p rfl) af underlying22 cP aq rfl rfl ⟨rfl,trivial⟩ aq (fun a6 cB=>?_);refine ah.bw (T:=ag.val) (ys:=[_,_,_,_,_]) (.p rfl) af underlying28 dH aq rfl rfl ⟨⟨rfl,rfl⟩,⟨rfl,rfl⟩,⟨rfl,rfl⟩,⟨rfl,rfl⟩,⟨rfl,rfl⟩,trivial⟩ aq (fun eE cN=>?_);refine ah.dh (.p rfl) af rfl af rfl rfl (bs:=[ak ag.val 22 (.slice eE 5 cN) [.slice a6 1 cB,.slice a9 8 bc,.slice cR 8 bD,.slice cT 8 bF,.slice dM x.2.2.2.1.length dN],ak ag.u8 5 (.slice a6 1 cB) [2],ak ag.u8 5 (.slice a9 8 bc) (be x.1),ak ag.u8 5 (.slice cR 8 bD) (be x.2.1),ak ag.u8 5 (.slice cT 8 bF) (be x.2.2.1)]) ct (fun m hm hd=>kT (xss:=[[2],be x.1,be x.2.1,be x.2.2.1,x.2.2.2.1]) ((hm.arr.right hd).rows ⟨hm.tail.arr.right hd,hm.tail.tail.arr.right hd,hm.tail.tail.tail.arr.right hd,hm.tail.tail.tail.tail.arr.right hd,aI.left,trivial⟩) (by rw [hfl];omega)) ?_;rintro _ _ ⟨eF,cO,rfl,rfl⟩;rw [hfl];refine ah.q 1 rfl<|bt.nil<|S.pk ?_ (S.weaken (Sub.app aO (.nil)) (key (eF,cO)))
     try dsimp only
     repeat (first|exact gX|exact gZ|(apply gY;focus (repeat (first|exact fA|apply zt)))|apply g5)
 exact S.rt results266 rfl hR ⟨s.1,s.2,rfl,rfl⟩
theorem Jj {r:Fr} {cs:List Value} {x:dD} (h:bx.rel r cs x) :
  aj prog 223 #[.agg cs.toArray] r [] (aF fun v aa=>∃ a c,v=.tuple #[.slice a (fZ x).length c,.int .i64 (mw x)]∧aa=[ak ag.u8 5 (.slice a (fZ x).length c) (fZ x)]):=by
 obtain ⟨dM,jz,dN,jA,rfl,k0,k1,k2,aI,fo⟩:=bx.sh h;refine aj.o func223 fun g hg R hR=>?_;have h:=h.mono hg;have fo:=fo.mono hg;refine S.seq<|S.region rfl<|O.aD (.p rfl) (.box (cs:=[_,_,_,_,_]) rfl rfl) ?_;rintro _ _ ⟨b1,rfl,rfl⟩;refine U 5 ?_;refine S.cy an fun g hs hm cK=>?_;replace hg:=bf hg hs;replace hR:=a_ hR hm
 try replace h:=h.mono hs
 try replace fo:=fo.mono hs
 clear hs hm
 cases e:dR x with
 |false =>
  have e1:fZ x=[]:=by simp [fZ,e]
  have e2:mw x=4:=by simp [mw,e]
  rw [e1,e2] at hR;refine S.region rfl<|O.op (.p rfl) (.aJ isAgg27 af rfl cK) ?_;refine O.v0 (.p rfl) rfl af rfl rfl ((ju h)) ?_;refine O.aB 5 rfl (by exact e) ?_;refine U 8 ?_;refine S.l_ (T:=ag.u8) (e:=5) ?_;refine S.kA results223 rfl rfl fun w hw=>ax.end_ hR hw ?_;exact pk ⟨none,0,rfl,rfl⟩
 |true =>
  have e1:fZ x=iV x++x.2.2.2.2.1:=by simp [fZ,e,bM]
  have e2:mw x=0:=by simp [mw,e]
  rw [e1,e2,cI] at hR;have hs:=(vc.1 e).1;have hl:=DN hs;have qK:=(vc.1 e).2;refine S.region rfl<|O.op (.p rfl) (.aJ isAgg27 af rfl cK) ?_;refine O.v0 (.p rfl) rfl af rfl rfl ((ju h)) ?_;refine O.sT 5 rfl (by exact e) ?_;refine U 5 ?_;refine S.aY (L:=[0,2,3,1,4,5,6]) F.mixed af<|.quiet (.p rfl) rfl (fun _=>.aJ isAgg27 af rfl cK) ?_;refine U 2 ?_;refine ah.aN (.p rfl) af rfl af rfl rfl ((aay h hs)) ?_;rintro _ _ ⟨a8,bk,rfl,rfl⟩;refine ah.mb (.p rfl) af (T:=ag.u8) ox underlying22 cP aq rfl rfl an bq bl bl (fun cQ bG=>?_);refine ah.q 2 rfl<|bt.nil<|S.kA results223 rfl rfl fun w hw=>ax.end_ hR hw ?_;exact pk ⟨cQ,bG,rfl,rfl⟩
theorem OL {r:Fr} {va gr:Value} {xs ys:List UInt8} (ha:av ag.u8 r va xs) (hb:av ag.u8 r gr ys) (hl:xs.length=ys.length) :
  aj prog 222 #[va,gr] r [] (aF fun v aa=>v=.bool (decide (xs<ys))∧aa=[]):=by
 refine aj.o func222 fun g hg R hR=>?_;have ha:=ha.mono hg;have hb:=hb.mono hg;have hbd:=ha.bound;obtain ⟨a1,c1,rfl⟩:=ha.shape;obtain ⟨a2,c2,rfl⟩:=hb.shape;refine U 10 ?_;refine S.ev (ι:=Nat) (fun i=>i≤xs.length∧xs.take i=ys.take i) (fun i=>[(5,.int .i64 (i:Int))]) [(0,_),(1,_)] (fun i=>[]) (fun i=>xs.length - i) (0) aH aO aO rfl fun i hx ih=>?_;have aW:=bS (g:=g);obtain ⟨hx1,b8⟩:=hx
 by_cases hi:i<xs.length
 ·have hi2:i<ys.length:=by omega
  by_cases e:xs[i]=ys[i]
  ·
   refine U 7 ?_;refine O.sT 9 rfl (by exact zdt ai)<|U 5 ?_;refine O.sT 14 rfl (by exact zdt ai)<|U 7 ?_;refine S.aY (L:=.range 9) F.mixed af ?_;refine U 2 ?_;refine ah.c7 (.p rfl) underlying22 fG rfl rfl rfl bq (h:=fun gS Fw v9 tw=>?_)
   cases tw
   refine U 1 ?_;refine ah.q 2 rfl<|ah.c7 (.p rfl) underlying22 fG rfl rfl rfl bq (h:=fun hY Fx Ap tA=>?_)
   cases tA
   refine U 2 ?_;refine ah.aB 26 rfl (by exact aA (by rw [e];omega))<|U 9 ?_;exact S.cF (ih (i+1) (by exact ⟨by omega,yR hi hi2 b8 e⟩) ai)
  ·have hne:xs[i].toNat≠ys[i].toNat:=fun q=>e (UInt8.toNat_inj.1 q)
   have hlt:=NP hi hi2 b8 e;refine U 7 ?_;refine O.sT 9 rfl (by exact zdt ai) ?_;refine U 5 ?_;refine O.sT 14 rfl (by exact zdt ai) ?_;refine U 7 ?_;refine S.aY (L:=.range 9) F.mixed af ?_;refine U 2 ?_;refine ah.c7 (.p rfl) underlying22 fG rfl rfl rfl bq (h:=fun gS Fw v9 tw=>?_)
   cases tw
   refine U 1 ?_;refine ah.q 2 rfl<|ah.c7 (.p rfl) underlying22 fG rfl rfl rfl bq (h:=fun hY Fx Ap tA=>?_)
   cases tA
   refine U 2 ?_;refine ah.sT 26 rfl (by exact zdt ai) ?_;refine bt.nil<|S.Cg rfl<|S.seq<|S.aY (L:=.range 10) F.mixed af<|ah.q 2 rfl<|ah.c7 (.p rfl) underlying22 fG rfl rfl rfl bq (h:=fun Oz Lv MS At=>?_)
   cases At
   refine U 1 ?_;refine ah.q 2 rfl<|ah.c7 (.p rfl) underlying22 fG rfl rfl rfl bq (h:=fun A1 zI Aq qN=>?_)
   cases qN
   refine U 4 ?_;exact S.rt results222 rfl hR ⟨congrArg _ (decide_eq_decide.2 (by rw [hlt];omega)),rfl⟩
 ·clear ih
  have hi1:i=xs.length:=by omega
  have hi2:i=ys.length:=by omega
  have he:xs=ys:=by rw [← List.take_length (l:=xs),← hi1,b8,hi2,List.take_length]
  refine U 7 ?_;refine O.aB 9 rfl (by exact aA ai)<|U 13 ?_;exact S.rt results222 rfl hR ⟨congrArg _ (aA (by rw [he];exact List.lt_irrefl _)).symm,rfl⟩
theorem Jl {r:Fr} {cs:List Value} {v:gh} (h:eK.rel r cs v):aj prog 126 #[.agg cs.toArray] r [] (aF fun u aa=>u=.bool (k6 v)∧aa=[]):=by
 obtain ⟨dM,jz,sF,sG,dN,jA,sH,sI,rfl,k0,k1,k2,aI,fo,cv,bV,pW,iQ,qR⟩:=eK.sh h;have kp:=xY (e:=v);have r1:bx.rel r _ v.1:=bx.mk k0 k1 k2 aI fo;have r2:bx.rel r _ v.2.1:=bx.mk cv bV pW iQ qR;refine aj.o func126 fun g hg R hR=>?_;have h:=h.mono hg;have r1:=r1.mono hg;have r2:=r2.mono hg;have aI:=aI.mono hg;have iQ:=iQ.mono hg;refine S.seq<|S.region rfl<|O.aD (.p rfl) (.box (cs:=[_,_,_,_,_,_,_,_,_,_]) rfl rfl) ?_;rintro _ _ ⟨b1,rfl,rfl⟩;refine U 3 ?_;refine S.cy an fun g hs hm cK=>?_;replace hg:=bf hg hs;replace hR:=a_ hR hm
 try replace h:=h.mono hs
 try replace r1:=r1.mono hs
 try replace r2:=r2.mono hs
 try replace aI:=aI.mono hs
 try replace iQ:=iQ.mono hs
 clear hs hm;refine S.aY (L:=.range 8) F.mixed af ?_;refine U 1 ?_;refine .quiet (.p rfl) rfl (fun _=>.aJ (cs:=[_,_,_,_,_]) isAgg27 af rfl (cK.take 5)) ?_;refine U 1 ?_;refine .quiet (.p rfl) rfl (fun _=>.aJ (cs:=[_,_,_,_,_]) isAgg27 af rfl ((cK.drop 5).take 5)) ?_;refine .lazy rfl af rfl fun b3=>?_;refine .lazy rfl af rfl fun b4=>?_;refine ah.jM rfl af af rfl rfl rfl rfl an oL ?_;refine ah.jM rfl af af rfl rfl rfl rfl an oL ?_;refine U 2 ?_
 by_cases n0:¬ (dR v.1=true)
 ·
  refine U 2 ?_;refine O.v0 (.p rfl) rfl af rfl rfl ((ju (x:=v.1) r1)) ?_;refine O.aB 10 rfl (by exact (by simpa using n0))<|U 34 ?_;exact S.rt results126 rfl hR ⟨congrArg _ (Bool.eq_false_iff.2 fun q=>n0 (kp.1 q).1).symm,rfl⟩
 have c0:=Classical.not_not.1 n0
 by_cases n1:¬ (dR v.2.1=true)
 ·
  refine U 2 ?_;refine O.v0 (.p rfl) rfl af rfl rfl ((ju (x:=v.1) r1)) ?_;refine O.sT 10 rfl (by exact c0)<|U 2 ?_;refine O.v0 (.g rfl rfl) rfl af rfl rfl ((ju (x:=v.2.1) r2)) ?_;refine O.aB 13 rfl (by exact (by simpa using n1))<|U 31 ?_;exact S.rt results126 rfl hR ⟨congrArg _ (Bool.eq_false_iff.2 fun q=>n1 (kp.1 q).2.1).symm,rfl⟩
 have c1:=Classical.not_not.1 n1;have hl:v.1.2.2.2.1.length=v.2.1.2.2.2.1.length:=by rw [(Ba.1 (vc.1 c0).1).2.2.2.2.2.2,(Ba.1 (vc.1 c1).1).2.2.2.2.2.2]
 by_cases n2:¬ (v.1.1=v.2.1.1)
 ·
  refine U 2 ?_;refine O.v0 (.p rfl) rfl af rfl rfl ((ju (x:=v.1) r1)) ?_;refine O.sT 10 rfl (by exact c0)<|U 2 ?_;refine O.v0 (.g rfl rfl) rfl af rfl rfl ((ju (x:=v.2.1) r2)) ?_;refine O.sT 13 rfl (by exact c1)<|U 7 ?_;refine O.aB 20 rfl (by exact aA n2)<|U 24 ?_;exact S.rt results126 rfl hR ⟨congrArg _ (Bool.eq_false_iff.2 fun q=>n2 (kp.1 q).2.2.1).symm,rfl⟩
 have c2:=Classical.not_not.1 n2
 by_cases eC:¬ (v.1.2.1=v.2.1.2.1)
 ·
  refine U 2 ?_;refine O.v0 (.p rfl) rfl af rfl rfl ((ju (x:=v.1) r1)) ?_;refine O.sT 10 rfl (by exact c0)<|U 2 ?_;refine O.v0 (.g rfl rfl) rfl af rfl rfl ((ju (x:=v.2.1) r2)) ?_;refine O.sT 13 rfl (by exact c1)<|U 7 ?_;refine O.sT 20 rfl (by exact zdt c2)<|U 7 ?_;refine O.aB 27 rfl (by exact aA eC)<|U 17 ?_;exact S.rt results126 rfl hR ⟨congrArg _ (Bool.eq_false_iff.2 fun q=>eC (kp.1 q).2.2.2.1).symm,rfl⟩
 have c3:=Classical.not_not.1 eC
 by_cases fy:¬ (v.1.2.2.1=v.2.1.2.2.1)
 ·
  refine U 2 ?_;refine O.v0 (.p rfl) rfl af rfl rfl ((ju (x:=v.1) r1)) ?_;refine O.sT 10 rfl (by exact c0)<|U 2 ?_;refine O.v0 (.g rfl rfl) rfl af rfl rfl ((ju (x:=v.2.1) r2)) ?_;refine O.sT 13 rfl (by exact c1)<|U 7 ?_;refine O.sT 20 rfl (by exact zdt c2)<|U 7 ?_;refine O.sT 27 rfl (by exact zdt c3)<|U 7 ?_;refine O.aB 34 rfl (by exact aA fy)<|U 10 ?_;exact S.rt results126 rfl hR ⟨congrArg _ (Bool.eq_false_iff.2 fun q=>fy (kp.1 q).2.2.2.2.1).symm,rfl⟩
 have bR:=Classical.not_not.1 fy
 by_cases o9:¬ (v.1.2.2.2.1<v.2.1.2.2.2.1)
 ·
  refine U 2 ?_;refine O.v0 (.p rfl) rfl af rfl rfl ((ju (x:=v.1) r1)) ?_;refine O.sT 10 rfl (by exact c0)<|U 2 ?_;refine O.v0 (.g rfl rfl) rfl af rfl rfl ((ju (x:=v.2.1) r2)) ?_;refine O.sT 13 rfl (by exact c1)<|U 7 ?_;refine O.sT 20 rfl (by exact zdt c2)<|U 7 ?_;refine O.sT 27 rfl (by exact zdt c3)<|U 7 ?_;refine O.sT 34 rfl (by exact zdt bR)<|U 6 ?_;refine O.v0 (.g rfl rfl) rfl af rfl rfl ((OL aI iQ hl)) ?_;refine O.aB 41 rfl (by exact aA o9)<|U 3 ?_;exact S.rt results126 rfl hR ⟨congrArg _ (Bool.eq_false_iff.2 fun q=>o9 (kp.1 q).2.2.2.2.2).symm,rfl⟩
 have cD:=Classical.not_not.1 o9;refine U 2 ?_;refine O.v0 (.p rfl) rfl af rfl rfl ((ju (x:=v.1) r1)) ?_;refine O.sT 10 rfl (by exact c0) ?_;refine U 2 ?_;refine O.v0 (.g rfl rfl) rfl af rfl rfl ((ju (x:=v.2.1) r2)) ?_;refine O.sT 13 rfl (by exact c1) ?_;refine U 7 ?_;refine O.sT 20 rfl (by exact zdt c2) ?_;refine U 7 ?_;refine O.sT 27 rfl (by exact zdt c3) ?_;refine U 7 ?_;refine O.sT 34 rfl (by exact zdt bR) ?_;refine U 6 ?_;refine O.v0 (.g rfl rfl) rfl af rfl rfl ((OL aI iQ hl)) ?_;refine O.sT 41 rfl (by exact zdt cD) ?_;refine U 3 ?_;exact S.rt results126 rfl hR ⟨congrArg _ (kp.2 ⟨c0,c1,c2,c3,bR,cD⟩).symm,rfl⟩
theorem aaz {r:Fr} {cs:List Value} {v:gh} (h:eK.rel r cs v) :
  aj prog 134 #[.agg cs.toArray] r [] (aF fun u aa=>∃ a c,u=.tuple #[.slice a (kK v).length c,.int .i64 (n_ v)]∧aa=[ak ag.u8 5 (.slice a (kK v).length c) (kK v)]):=by
 obtain ⟨dM,jz,sF,sG,dN,jA,sH,sI,rfl,k0,k1,k2,aI,fo,cv,bV,pW,iQ,qR⟩:=eK.sh h;have r1:bx.rel r _ v.1:=bx.mk k0 k1 k2 aI fo;have r2:bx.rel r _ v.2.1:=bx.mk cv bV pW iQ qR;refine aj.o func134 fun g hg R hR=>?_;have h:=h.mono hg;have r1:=r1.mono hg;have r2:=r2.mono hg;refine S.seq<|S.region rfl<|O.aD (.p rfl) (.box (cs:=[_,_,_,_,_,_,_,_,_,_]) rfl rfl) ?_;rintro _ _ ⟨b1,rfl,rfl⟩;refine U 5 ?_;refine S.cy an fun g hs hm cK=>?_;replace hg:=bf hg hs;replace hR:=a_ hR hm
 try replace h:=h.mono hs
 try replace r1:=r1.mono hs
 try replace r2:=r2.mono hs
 clear hs hm
 cases e:k6 v with
 |false =>
  have e1:kK v=[]:=by simp [kK,e]
  have e2:n_ v=4:=by simp [n_,e]
  rw [e1,e2] at hR;refine S.region rfl<|O.op (.p rfl) (.aJ isAgg38 af rfl cK) ?_;refine O.v0 (.p rfl) rfl af rfl rfl ((Jl h)) ?_;refine O.aB 9 rfl (by exact e) ?_;refine U 8 ?_;refine S.l_ (T:=ag.u8) (e:=5) ?_;refine S.kA results134 rfl rfl fun w hw=>ax.end_ hR hw ?_;exact pk ⟨none,0,rfl,rfl⟩
 |true =>
  have kp:=xY.1 e;have o1:fZ v.1=bM v.1:=by simp [fZ,kp.1]
  have o2:fZ v.2.1=bM v.2.1:=by simp [fZ,kp.2.1]
  have l1:=lZ kp.1;have l2:=lZ kp.2.1;have e1:kK v=j0 v:=by simp [kK,e]
  have e2:n_ v=0:=by simp [n_,e]
  have hl:=xX e;have hfl:[bytesOf (bM v.1),bytesOf (bM v.2.1)].flatten=j0 v:=by simp [j0]
  rw [e1,e2] at hR;refine S.region rfl<|O.op (.p rfl) (.aJ isAgg38 af rfl cK) ?_;refine O.v0 (.p rfl) rfl af rfl rfl ((Jl h)) ?_;refine O.sT 9 rfl (by exact e) ?_;refine U 7 ?_;refine O.op (.p rfl) (.aJ (cs:=[_,_,_,_,_]) isAgg27 af rfl (cK.take 5)) ?_;refine O.aN (.p rfl) rfl af rfl rfl ((Jj (x:=v.1) r1)) ?_;rintro _ _ ⟨cS,bE,rfl,rfl⟩;rw [o1];refine U 9 ?_;refine O.op (.p rfl) (.aJ (cs:=[_,_,_,_,_]) isAgg27 af rfl ((cK.drop 5).take 5)) ?_;refine O.aN (.p rfl) rfl af rfl rfl ((Jj (x:=v.2.1) r2)) ?_;rintro _ _ ⟨qo,eM,rfl,rfl⟩;rw [o2];refine U 9 ?_;refine O.dh (.p rfl) rfl af rfl rfl (bs:=[ak ag.u8 5 (.slice cS (bM v.1).length bE) (bM v.1)]) ct (fun m hm hd=>lX (hm.arr.right hd) ai) ?_;rintro _ _ ⟨gO,dw,rfl,rfl⟩;refine O.q 1 rfl<|O.dh (.p rfl) rfl af rfl rfl (bs:=[ak ag.u8 5 (.slice qo (bM v.2.1).length eM) (bM v.2.1)]) ct (fun m hm hd=>lX (hm.arr.right hd) ai) ?_;rintro _ _ ⟨cX,bI,rfl,rfl⟩;refine O.aD (.p rfl) (.bw (T:=ag.val) (ys:=[_,_]) underlying28 dH aq rfl rfl ⟨⟨rfl,rfl⟩,⟨rfl,rfl⟩,trivial⟩ aq) ?_;rintro _ _ ⟨dX,cq,rfl,rfl⟩
  refine O.dh (.p rfl) rfl af rfl rfl (bs:=[ak ag.val 22 (.slice dX 2 cq) [.slice gO (bytesOf (bM v.1)).length dw,.slice cX (bytesOf (bM v.2.1)).length bI],ak ag.u8 5 (.slice gO (bytesOf (bM v.1)).length dw) (bytesOf (bM v.1)),ak ag.u8 5 (.slice cX (bytesOf (bM v.2.1)).length bI) (bytesOf (bM v.2.1))]) ct (fun m hm hd=>kT (xss:=[bytesOf (bM v.1),bytesOf (bM v.2.1)]) ((hm.arr.right hd).rows ⟨hm.tail.arr.right hd,hm.tail.tail.arr.right hd,trivial⟩) (by rw [hfl];omega)) ?_;rintro _ _ ⟨xD,fl,rfl,rfl⟩;rw [hfl];refine O.q 2 rfl<|O.nil<|S.kA results134 rfl rfl fun w hw=>ax.end_ hR hw ?_;exact pk ⟨xD,fl,rfl,rfl⟩
theorem aaG {r:Fr} {cs:List Value} {x:aV} (h:bu.rel r cs x):aj prog 267 #[.agg cs.toArray] r [] (aF fun v aa=>v=.string (str (iU x))∧aa=[]):=by
 obtain ⟨dM,je,iF,dN,jf,iG,rfl,k0,k1,k2,aI,cv,bV⟩:=bu.sh h;refine aj.o func267 fun g hg R hR=>?_;have h:=h.mono hg;refine S.seq<|S.region rfl<|O.aD (.p rfl) (.box (cs:=[_,_,_,_,_,_,_]) rfl rfl) ?_;rintro _ _ ⟨b1,rfl,rfl⟩;refine U 3 ?_;refine S.cy an fun g hs hm cK=>?_;replace hg:=bf hg hs;replace hR:=a_ hR hm
 try replace h:=h.mono hs
 clear hs hm;refine S.region rfl<|O.op (.p rfl) (.aJ isAgg118 af rfl cK) ?_;refine O.aN (.p rfl) rfl af rfl rfl ((OR h)) ?_;rintro _ _ ⟨a7,c9,rfl,rfl⟩;refine U 7 ?_;refine S.gH an fun g hs hm hz=>?_;replace hg:=bf hg hs;replace hR:=a_ hR hm
 try replace h:=h.mono hs
 try replace cK:=cK.mono hs
 clear hs hm;refine U 2 ?_;refine O.op (.p rfl) (.toStr underlying22 underlying5 underlying9 rfl bq) ?_;refine U 2 ?_;exact S.rt results267 rfl hR ⟨rfl,rfl⟩
theorem aaF {r:Fr} {va:Value} {l:List aV} (ha:av bu r va l) (hn:l.length≤1000000) :
  aj prog 225 #[va] r [] (aF fun v aa=>∃ a c,v=.tuple #[.slice a (kU l).length c,.int .i64 (q8 l)]∧aa=[ak ag.u8 5 (.slice a (kU l).length c) (kU l)]):=by
 have har:=ha;refine aj.o func225 fun g hg R hR=>?_;have ha:=ha.mono hg;have hbd:=ha.bound;obtain ⟨a1,c1,rfl⟩:=ha.shape
 by_cases e:¬ ez l
 ·have e1:kU l=[]:=if_neg e
  have e2:q8 l=4:=if_neg e;rw [e1,e2] at hR;refine U 9 ?_;refine O.v0 (.p rfl) rfl af rfl rfl ((r5 ha)) ?_;refine O.aB 7 rfl (by exact aA e) ?_;refine U 8 ?_;refine S.l_ (T:=ag.u8) (e:=5) ?_;refine S.kA results225 rfl rfl fun w hw=>ax.end_ hR hw ?_;exact pk ⟨none,0,rfl,rfl⟩
 replace e:=Classical.not_not.1 e;have e1:kU l=dc l:=if_pos e;have e2:q8 l=0:=if_pos e;have hok:=wM e.1;rw [e1,e2] at hR;refine U 9 ?_;refine O.v0 (.p rfl) rfl af rfl rfl ((r5 ha)) ?_;refine O.sT 7 rfl (by exact zdt e) ?_;refine U 8 ?_;refine O.aN (.p rfl) rfl af rfl rfl (fQ _) ?_;rintro _ _ ⟨cQ,bG,rfl,rfl⟩;refine U 4 ?_;refine S.hU (T:=ag.u8) (e:=5) (v' :=.slice cQ (be l.length++dS (l.take 0)).length bG) (xs' :=be l.length++dS (l.take 0)) an (by simp [dS]) (by simp [dS]) ?_;refine S.slot 4 (v' :=.slice cQ (be l.length++dS (l.take 0)).length bG) rfl (by simp [dS]) ?_;refine U 4 ?_;refine S.i_ (ι:=Nat) (dy:=Option Addr × Nat) (fun i q=>i≤l.length) (fun i q=>[(4,.slice q.1 (be l.length++dS (l.take i)).length q.2),(5,.int .i64 (i:Int))]) [(0,_)] (fun i q=>[ak ag.u8 5 (.slice q.1 (be l.length++dS (l.take i)).length q.2) (be l.length++dS (l.take i))]) (fun i q=>l.length - i) (0) ((cQ,bG)) aH aO aO rfl fun i q hx ih=>?_;have aW:=bS (g:=g);refine U 8 ?_;refine S.cd rfl (fun kN=>?_) fun kN=>?_
 ·have hi:i<l.length:=by omega
  have jm:=hok _ (List.getElem_mem hi);have rU:iU l[i]=cm l[i]:=by simp [iU,jm]
  have pP:=q3 jm;have hle:=DT (l.take i) fun x hx=>hok x (List.mem_of_mem_take hx);have hlt:(l.take i).length≤1000000:=by rw [mA];omega
  have hN:be l.length++dS (l.take i)++bytesOf (cm l[i])=be l.length++dS (l.take (i+1)):=by rw [j9 hi,JQ,kV]
  have GV:(be l.length++dS (l.take i)).length≤2000000000:=by rw [cI,ga];omega
  generalize be l.length++dS (l.take i)=jv at hN GV ⊢;refine U 7 ?_;refine O.ew har hg (h:=fun bT Ck tt HK=>?_);have pS:=ag.rel.mono HK hg;obtain ⟨aaO,aaU,aa0,aa6,aba,abg,rfl,Vu,Vz,VF,Gq,Gu,Gy⟩:=bu.sh pS;refine O.op (.p rfl) (.aJ isAgg118 af rfl tt) ?_;refine O.v0 (.p rfl) rfl af rfl rfl ((aaG pS)) ?_;rw [rU];refine O.aD (.p rfl) (.oD underlying9 underlying22 underlying5 rfl vt) ?_;rintro _ _ ⟨gO,dw,rfl,rfl⟩;refine O.dh (.p rfl) rfl af rfl rfl (bs:=[ak ag.u8 5 (.slice gO (cm l[i]).length dw) (cm l[i])]) ct (fun m hm hd=>lX (hm.arr.right hd) ai) ?_;rintro _ _ ⟨iJ,dG,rfl,rfl⟩;refine O.gH an fun g hs hm age=>?_;replace hg:=bf hg hs;replace hR:=a_ hR hm
  try replace tt:=tt.mono hs
  try replace pS:=pS.mono hs
  try replace Gq:=Gq.mono hs
  try replace Gu:=Gu.mono hs
  try replace Gy:=Gy.mono hs
  replace aW:=eT aW hm;clear hs hm;refine O.aD (.p rfl) (.mb (T:=ag.u8) ox underlying22 cP aq rfl rfl an bq bl bl) ?_;rintro _ _ ⟨cX,bI,rfl,rfl⟩;refine U 8 ?_;rw [hN];rw [← cI,hN];exact S.jo aW (S.pw (ih (i+1) ((cX,bI)) ai ai))
 ·clear ih
  have hi:i=l.length:=by omega
  subst hi;rw [List.take_length];refine U 7 ?_;refine S.kA results225 rfl rfl fun w hw=>ax.end_ hR hw ?_;exact pk ⟨q.1,q.2,rfl,rfl⟩
theorem TT {r:Fr} {b rd:Nat} {y0 y1 rj rm Bx By Bz BA BB BC Bm Bn Bo Kg Bp Bq Br Bs Kh Ki Kj Bt Bu Kk Kl Km Bv Bw Kn:Value} {s:RS}:aj prog 145 #[.pointer (some ⟨b,0,none⟩)] r [obj b 129 [y0,y1,rj,rm,Bx,By,Bz,BA,BB,BC,Bm,Bn,Bo,Kg,Bp,Bq,Br,Bs,Kh,Ki,Kj,Bt,Bu,Kk,Kl,Km,Bv,Bw,Kn,.pointer (some ⟨rd,0,none⟩)],l7 196 rd s]
  (aF fun v aa=>v=.tuple #[]∧aa=[obj b 129 [y0,y1,.int .i64 s.num.1,rm,Bx,By,Bz,BA,BB,BC,Bm,Bn,Bo,Kg,Bp,Bq,Br,Bs,Kh,Ki,Kj,Bt,Bu,Kk,Kl,Km,Bv,Bw,Kn,.pointer (some ⟨rd,0,none⟩)],l7 196 rd s.num.2]):=by
 refine aj.o func145 fun g hg R hR=>?_;refine U 6 ?_;refine O.ug (.p rfl) rfl af rfl rfl an OY<|U 4 ?_;refine O.nil<|S.cH (b:=b) (cs' :=[y0,y1,.int .i64 s.num.1,rm,Bx,By,Bz,BA,BB,BC,Bm,Bn,Bo,Kg,Bp,Bq,Br,Bs,Kh,Ki,Kj,Bt,Bu,Kk,Kl,Km,Bv,Bw,Kn,.pointer (some ⟨rd,0,none⟩)]) an rfl ?_;refine S.gl results145 fun w hw=>ax.end_ hR hw ?_;exact pk ⟨rfl,rfl⟩
end Go.Proofs.YtdjoggpacmpfnaaGreatDoor
