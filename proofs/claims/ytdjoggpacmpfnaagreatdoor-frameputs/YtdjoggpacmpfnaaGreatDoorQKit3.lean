/- Texts of this proof. -/
import Derived.Test.YtdjoggpacmpfnaaGreatDoorQRfrm2
open Go Go.Sp Go.Proofs.Tryz
set_option maxRecDepth 100000
set_option maxHeartbeats 1000000
attribute [local irreducible] obj Own ak
namespace Go.Proofs.YtdjoggpacmpfnaaGreatDoor
theorem Jm {r:Fr} {cs:List Value} {f:aP} (hf:ck.rel r cs f) (hl:kD f) (hk:Sp.kindOk f):aj prog 59 #[.agg cs.toArray] r [] (aF fun v aa=>∃ a c,v=.slice a (cE f).length c∧aa=[ak ag.u8 5 (.slice a (cE f).length c) (cE f)]):=by
 have kr:=hf;obtain ⟨a8,a9,c6,cQ,cR,cS,cT,b_,dV,dW,cY,cX,dX,bk,bc,bB,bG,bD,bE,bF,bn,cx,cn,bJ,bI,cq,rfl,p1,p2,p3,gT,gL,jb,gU,bU,b7,bO,b5,bL,bN,bP,bW,bK,ja,e5,gS,bT,b6,fp,hY,iT,cc,bX,jq⟩:=ck.sh kr;obtain ⟨U3,kO,hE,hS⟩:=hl;obtain ⟨xH,xM,xN,xO,zv,B3,B4,zw,zx,B2,zu,xI,xJ,xK,xL⟩:=U3;unfold c4 at xH xM xN xO zv zw zx xI xJ xK xL;refine aj.o func59 fun g hg R hR=>?_;have hf:=hf.mono hg;have bU:=bU.mono hg;have b7:=b7.mono hg;have bO:=bO.mono hg;have b5:=b5.mono hg;have bL:=bL.mono hg;have bN:=bN.mono hg;have bP:=bP.mono hg;have bW:=bW.mono hg;have bK:=bK.mono hg;have bT:=bT.mono hg;have b6:=b6.mono hg;have cc:=cc.mono hg;have bX:=bX.mono hg;have hroot:bx.rel g.h [.int .i64 f.2.2.2.2.2.1.1,.int .i64 f.2.2.2.2.2.1.2.1,.int .i64 f.2.2.2.2.2.1.2.2.1,.slice a8 f.2.2.2.2.2.1.2.2.2.1.length bk,.slice a9 f.2.2.2.2.2.1.2.2.2.2.1.length bc] f.2.2.2.2.2.1:=bx.mk gL jb gU bU b7;have mj:fB.rel g.h [.slice cQ f.2.2.2.2.2.2.2.1.1.length bG,.slice cR f.2.2.2.2.2.2.2.1.2.1.length bD] f.2.2.2.2.2.2.2.1:=fB.mk b5 bL
 have oq:fj.rel g.h [aT f.2.2.2.2.2.2.2.2.1.1,.slice cS f.2.2.2.2.2.2.2.2.1.2.1.length bE,.slice cT f.2.2.2.2.2.2.2.2.1.2.2.1.length bF,.slice b_ f.2.2.2.2.2.2.2.2.1.2.2.2.1.length bn] f.2.2.2.2.2.2.2.2.1:=fj.mk bN bP bW;have th:eK.rel g.h [.int .i64 f.2.2.2.2.2.2.2.2.2.2.1.1.1,.int .i64 f.2.2.2.2.2.2.2.2.2.2.1.1.2.1,.int .i64 f.2.2.2.2.2.2.2.2.2.2.1.1.2.2.1,.slice dW f.2.2.2.2.2.2.2.2.2.2.1.1.2.2.2.1.length cn,.slice cY f.2.2.2.2.2.2.2.2.2.2.1.1.2.2.2.2.1.length bJ,.int .i64 f.2.2.2.2.2.2.2.2.2.2.1.2.1.1,.int .i64 f.2.2.2.2.2.2.2.2.2.2.1.2.1.2.1,.int .i64 f.2.2.2.2.2.2.2.2.2.2.1.2.1.2.2.1,.slice cX f.2.2.2.2.2.2.2.2.2.2.1.2.1.2.2.2.1.length bI,.slice dX f.2.2.2.2.2.2.2.2.2.2.1.2.1.2.2.2.2.1.length cq] f.2.2.2.2.2.2.2.2.2.2.1:=eK.mk ja e5 gS bT b6 fp hY iT cc bX;refine S.seq<|S.region rfl<|O.aD (.p rfl) (.box (cs:=[_,_,_,_,_,_,_,_,_,_,_,_,_,_,_,_,_,_,_,_,_,_,_,_,_,_,_,_,_]) rfl rfl) ?_;rintro _ _ ⟨b1,rfl,rfl⟩;refine U 4 ?_;refine S.cy an fun g hs hm h1=>?_;replace hg:=bf hg hs;replace hR:=a_ hR hm
 try replace hf:=hf.mono hs
 try replace bU:=bU.mono hs
 try replace b7:=b7.mono hs
 try replace bO:=bO.mono hs
 try replace b5:=b5.mono hs
 try replace bL:=bL.mono hs
 try replace bN:=bN.mono hs
 try replace bP:=bP.mono hs
 try replace bW:=bW.mono hs
 try replace bK:=bK.mono hs
 try replace bT:=bT.mono hs
 try replace b6:=b6.mono hs
 try replace cc:=cc.mono hs
 try replace bX:=bX.mono hs
 try replace hroot:=hroot.mono hs
 try replace mj:=mj.mono hs
 try replace oq:=oq.mono hs
 try replace th:=th.mono hs
 clear hs hm;refine U 3 ?_;refine O.nil (S.block (S.seq ?_))
 rcases AH hk with e|e|e|e|e|e|e|e|e
 ·have hp:=zT e
  have hok:=(yj e).1 hk
  skip
  refine U 2 ?_;refine O.sT 10 rfl (by rw [e];rfl)<|U 7 ?_;refine O.aN (.p rfl) rfl af rfl rfl ((fQ _)) ?_;rintro _ _ ⟨dF,cj,rfl,rfl⟩;refine U 2 ?_;exact S.rt results59 rfl hR ⟨dF,cj,by rw [hp,ga],by rw [hp,ga]⟩
 ·have hp:=FY e
  have hok:=(wA e).1 hk;have hrl:=lZ hok.1;refine U 2 ?_;refine O.aB 10 rfl (by rw [e];rfl) ?_;refine U 6 ?_;refine O.sT 15 rfl (by rw [e];rfl) ?_;refine U 4 ?_;refine S.aY (L:=[0,1,3,4,2,5,6,7]) F.mixed af ?_;refine U 1 ?_;refine .quiet (.p rfl) rfl (fun _=>.aJ (cs:=[_,_,_,_,_]) isAgg27 af rfl ((h1.drop 5).take 5)) ?_;refine U 2 ?_;refine ah.aN (.p rfl) af rfl af rfl rfl ((ON hroot hok.1)) ?_;rintro _ _ ⟨eE,cN,rfl,rfl⟩;refine ah.aN (.p rfl) af rfl af rfl rfl ((lX bO ai)) ?_;rintro _ _ ⟨aap,d21,rfl,rfl⟩;refine ah.fH (T:=ag.u8) (.p rfl) af underlying22 cP aq rfl rfl an an bl bl (fun cY bJ=>?_);refine U 2 ?_;exact S.rt results59 rfl hR ⟨cY,bJ,by rw [hp,cI],by rw [hp,cI]⟩
 ·have hp:=FZ e
  have hok:=(yl e).1 hk
  skip
  refine U 2 ?_;refine O.aB 10 rfl (by rw [e];rfl)<|U 6 ?_;refine O.aB 15 rfl (by rw [e];rfl)<|U 6 ?_;refine O.sT 24 rfl (by rw [e];rfl)<|U 7 ?_;refine O.aN (.p rfl) rfl af rfl rfl ((yF (by have:=hok.1;omega))) ?_;rintro _ _ ⟨OH,d27,rfl,rfl⟩;refine U 2 ?_;exact S.rt results59 rfl hR ⟨OH,d27,by rw [hp],by rw [hp]⟩
 ·have hp:=F0 e
  have hok:=(wB e).1 hk;have Al:(kz f.2.2.2.2.2.2.2.2.1).length≤10000000000000:=by have:=vO hk ⟨⟨xH,xM,xN,xO,zv,B3,B4,zw,zx,B2,zu,xI,xJ,xK,xL⟩,kO,hE,hS⟩;rw [hp,cI] at this;omega
  refine U 2 ?_;refine O.aB 10 rfl (by rw [e];rfl)<|U 6 ?_;refine O.aB 15 rfl (by rw [e];rfl)<|U 6 ?_;refine O.aB 24 rfl (by rw [e];rfl)<|U 6 ?_;refine O.sT 29 rfl (by rw [e];rfl)<|U 4 ?_;refine S.aY (L:=[0,1,3,4,2,5,6,7]) F.mixed af ?_;refine U 3 ?_;refine .quiet (.p rfl) rfl (fun _=>.aJ (cs:=[_,_,_,_]) isAgg35 af rfl ((h1.drop 13).take 4)) ?_;refine ah.aN (.p rfl) af rfl af rfl rfl ((yF (by have:=hok.1.1;omega))) ?_;rintro _ _ ⟨aie,d32,rfl,rfl⟩;refine ah.aN (.p rfl) af rfl af rfl rfl ((aaA oq hok.2 kO.2)) ?_;rintro _ _ ⟨aif,d35,rfl,rfl⟩;refine ah.fH (T:=ag.u8) (.p rfl) af underlying22 cP aq rfl rfl an an (by first|omega|(simp;omega)|(have:=hok.1.1;simp;omega)) (by first|omega|(simp;omega)|(have:=hok.1.1;simp;omega)) (fun nZ n8=>?_);refine U 2 ?_;exact S.rt results59 rfl hR ⟨nZ,n8,by rw [hp,cI],by rw [hp,cI]⟩
 ·have hp:=F1 e
  have hok:=(wC e).1 hk;obtain ⟨x,hx,b8⟩:=hok;have h0:0<f.2.2.2.2.2.2.2.2.2.1.length:=by rw [hx];simp
  have hx0:f.2.2.2.2.2.2.2.2.2.1[0]=x:=by simp only [hx,List.getElem_cons_zero]
  have hro:iU x=cm x:=by unfold iU;rw [if_pos b8]
  have hrl:=q3 b8;refine U 2 ?_;refine O.aB 10 rfl (by rw [e];rfl) ?_;refine U 6 ?_;refine O.aB 15 rfl (by rw [e];rfl) ?_;refine U 6 ?_;refine O.aB 24 rfl (by rw [e];rfl) ?_;refine U 6 ?_;refine O.aB 29 rfl (by rw [e];rfl) ?_;refine U 6 ?_;refine O.sT 38 rfl (by rw [e];rfl) ?_;refine U 7 ?_;refine O.c7 (.p rfl) underlying36 oC rfl rfl (show _=(((0):Nat):Int) by omega) (bK) (h:=fun ZW R3 MU C7=>?_);have hr:=C7;obtain ⟨dM,je,iF,dN,jf,iG,rfl, -⟩:=bu.sh C7;refine O.op (.p rfl) (.aJ isAgg118 af rfl MU) ?_;refine O.aN (.p rfl) rfl af rfl rfl ((OR (x:=x) (hx0 ▸ hr))) ?_;rintro _ _ ⟨aaq,d44,rfl,rfl⟩;rw [hro];refine U 9 ?_;refine O.dh (.p rfl) rfl af rfl rfl (bs:=[ak ag.u8 5 (.slice aaq (cm x).length d44) (cm x)]) ct (fun m hm hd=>lX ((u4 hm).right hd) ai) ?_;rintro _ _ ⟨aar,d48,rfl,rfl⟩;refine U 2 ?_;have lE:cE f=bytesOf (cm x):=by rw [hp,hx];simp
  exact S.rt results59 rfl hR ⟨aar,d48,by rw [lE],by rw [lE]⟩
 ·have hp:=zU e
  have hok:=(ym e).1 hk
  skip
  refine U 2 ?_;refine O.aB 10 rfl (by rw [e];rfl)<|U 6 ?_;refine O.aB 15 rfl (by rw [e];rfl)<|U 6 ?_;refine O.aB 24 rfl (by rw [e];rfl)<|U 6 ?_;refine O.aB 29 rfl (by rw [e];rfl)<|U 6 ?_;refine O.aB 38 rfl (by rw [e];rfl)<|U 6 ?_;refine O.sT 50 rfl (by rw [e];rfl)<|U 7 ?_;refine O.aN (.p rfl) rfl af rfl rfl ((fQ _)) ?_;rintro _ _ ⟨BQ,B9,rfl,rfl⟩;refine U 2 ?_;exact S.rt results59 rfl hR ⟨BQ,B9,by rw [hp,ga],by rw [hp,ga]⟩
 ·have hp:=F2 e
  have hok:=(AG e).1 hk
  skip
  refine U 2 ?_;refine O.aB 10 rfl (by rw [e];rfl)<|U 6 ?_;refine O.aB 15 rfl (by rw [e];rfl)<|U 6 ?_;refine O.aB 24 rfl (by rw [e];rfl)<|U 6 ?_;refine O.aB 29 rfl (by rw [e];rfl)<|U 6 ?_;refine O.aB 38 rfl (by rw [e];rfl)<|U 6 ?_;refine O.aB 50 rfl (by rw [e];rfl)<|U 6 ?_;refine O.sT 55 rfl (by rw [e];rfl)<|U 7 ?_;refine O.aN (.p rfl) rfl af rfl rfl ((yF (by have:=hok.2;omega))) ?_;rintro _ _ ⟨aas,d58,rfl,rfl⟩;refine U 2 ?_;exact S.rt results59 rfl hR ⟨aas,d58,by rw [hp],by rw [hp]⟩
 ·have hp:=F3 e
  have hok:=(qS e).1 hk;obtain ⟨o1,o2,tR,Dn,_⟩:=hok;have hrl:=lZ o2;have hs:=q7 Dn.1;have tE:=vO hk ⟨⟨xH,xM,xN,xO,zv,B3,B4,zw,zx,B2,zu,xI,xJ,xK,xL⟩,kO,hE,hS⟩;rw [hp] at tE;simp only [cI] at tE;refine U 2 ?_;refine O.aB 10 rfl (by rw [e];rfl) ?_;refine U 6 ?_;refine O.aB 15 rfl (by rw [e];rfl) ?_;refine U 6 ?_;refine O.aB 24 rfl (by rw [e];rfl) ?_;refine U 6 ?_;refine O.aB 29 rfl (by rw [e];rfl) ?_;refine U 6 ?_;refine O.aB 38 rfl (by rw [e];rfl) ?_;refine U 6 ?_;refine O.aB 50 rfl (by rw [e];rfl) ?_;refine U 6 ?_;refine O.aB 55 rfl (by rw [e];rfl) ?_;refine U 6 ?_;refine O.sT 60 rfl (by rw [e];rfl) ?_;refine U 4 ?_;refine S.aY (L:=[0,1,3,4,6,7,9,10,2,5,8,11,12,13,14]) F.mixed af ?_;refine U 3 ?_;refine .quiet (.p rfl) rfl (fun _=>.aJ (cs:=[_,_,_,_,_]) isAgg27 af rfl ((h1.drop 5).take 5)) ?_;refine U 1 ?_;refine .quiet (.p rfl) rfl (fun _=>.aJ (cs:=[_,_]) isAgg31 af rfl ((h1.drop 11).take 2)) ?_;refine U 2 ?_;refine ah.aN (.p rfl) af rfl af rfl rfl ((yF (by have:=o1.2;omega))) ?_;rintro _ _ ⟨xF,xS,rfl,rfl⟩;refine ah.aN (.p rfl) af rfl af rfl rfl ((ON hroot o2)) ?_;rintro _ _ ⟨ER,Fj,rfl,rfl⟩;refine ah.aN (.p rfl) af rfl af rfl rfl ((aaB mj tR hE)) ?_;rintro _ _ ⟨BU,Cc,rfl,rfl⟩
  refine ah.aN (.p rfl) af rfl af rfl rfl ((OO bK ai Dn)) ?_;rintro _ _ ⟨ES,Fk,rfl,rfl⟩;refine ah.bw (.p rfl) af (T:=ag.val) (ys:=[.slice xF (bytesOf f.2.2.2.1).length xS,.slice ER (bytesOf (bM f.2.2.2.2.2.1)).length Fj,.slice BU (iB f.2.2.2.2.2.2.2.1).length Cc,.slice ES (bytesOf (dc f.2.2.2.2.2.2.2.2.2.1)).length Fk]) underlying28 dH aq rfl rfl ⟨⟨rfl,rfl⟩,⟨rfl,rfl⟩,⟨rfl,rfl⟩,⟨rfl,rfl⟩,trivial⟩ aq (fun QU Ry=>?_)
  refine ah.dh (.p rfl) af rfl af rfl rfl (bs:=[ak ag.val 22 (.slice QU 4 Ry) [.slice xF (bytesOf f.2.2.2.1).length xS,.slice ER (bytesOf (bM f.2.2.2.2.2.1)).length Fj,.slice BU (iB f.2.2.2.2.2.2.2.1).length Cc,.slice ES (bytesOf (dc f.2.2.2.2.2.2.2.2.2.1)).length Fk],ak ag.u8 5 (.slice xF (bytesOf f.2.2.2.1).length xS) (bytesOf f.2.2.2.1),ak ag.u8 5 (.slice ER (bytesOf (bM f.2.2.2.2.2.1)).length Fj) (bytesOf (bM f.2.2.2.2.2.1)),ak ag.u8 5 (.slice BU (iB f.2.2.2.2.2.2.2.1).length Cc) (iB f.2.2.2.2.2.2.2.1),ak ag.u8 5 (.slice ES (bytesOf (dc f.2.2.2.2.2.2.2.2.2.1)).length Fk) (bytesOf (dc f.2.2.2.2.2.2.2.2.2.1))]) ct (fun m hm hd=>kT (xss:=[bytesOf f.2.2.2.1,bytesOf (bM f.2.2.2.2.2.1),iB f.2.2.2.2.2.2.2.1,bytesOf (dc f.2.2.2.2.2.2.2.2.2.1)]) ((hm.arr.right hd).rows ⟨hm.tail.arr.right hd,hm.tail.tail.arr.right hd,hm.tail.tail.tail.arr.right hd,hm.tail.tail.tail.tail.arr.right hd,trivial⟩) (by simp only [nV,List.flatten_nil,List.append_nil,cI];omega)) ?_;rintro _ _ ⟨KZ,Lj,rfl,rfl⟩;refine U 2 ?_;have lF:[bytesOf f.2.2.2.1,bytesOf (bM f.2.2.2.2.2.1),iB f.2.2.2.2.2.2.2.1,bytesOf (dc f.2.2.2.2.2.2.2.2.2.1)].flatten=cE f:=by rw [hp];simp
  exact S.rt results59 rfl hR ⟨KZ,Lj,by rw [← lF],by rw [← lF]⟩
 ·have hp:=F4 e
  have hok:=(yo e).1 hk;have hro:kK f.2.2.2.2.2.2.2.2.2.2.1=j0 f.2.2.2.2.2.2.2.2.2.2.1:=by unfold kK;rw [if_pos hok]
  have hrl:=xX hok;refine U 2 ?_;refine O.aB 10 rfl (by rw [e];rfl) ?_;refine U 6 ?_;refine O.aB 15 rfl (by rw [e];rfl) ?_;refine U 6 ?_;refine O.aB 24 rfl (by rw [e];rfl) ?_;refine U 6 ?_;refine O.aB 29 rfl (by rw [e];rfl) ?_;refine U 6 ?_;refine O.aB 38 rfl (by rw [e];rfl) ?_;refine U 6 ?_;refine O.aB 50 rfl (by rw [e];rfl) ?_;refine U 6 ?_;refine O.aB 55 rfl (by rw [e];rfl) ?_;refine U 6 ?_;refine O.aB 60 rfl (by rw [e];rfl) ?_;refine U 8 ?_;refine O.op (.p rfl) (.aJ (cs:=[_,_,_,_,_,_,_,_,_,_]) isAgg38 af rfl ((h1.drop 18).take 10)) ?_;refine O.aN (.p rfl) rfl af rfl rfl ((aaz th)) ?_;rintro _ _ ⟨aat,d78,rfl,rfl⟩;rw [hro];refine U 9 ?_;refine O.dh (.p rfl) rfl af rfl rfl (bs:=[ak ag.u8 5 (.slice aat (j0 f.2.2.2.2.2.2.2.2.2.2.1).length d78) (j0 f.2.2.2.2.2.2.2.2.2.2.1)]) ct (fun m hm hd=>lX ((u4 hm).right hd) ai) ?_;rintro _ _ ⟨aav,d82,rfl,rfl⟩;refine U 2 ?_;exact S.rt results59 rfl hR ⟨aav,d82,by rw [hp],by rw [hp]⟩
theorem OM {r:Fr} {cs:List Value} {f:aP} (hf:ck.rel r cs f) (hl:kD f):aj prog 20 #[.agg cs.toArray] r [] (aF fun v aa=>∃ a c,v=.tuple #[.slice a (e9 f).length c,.int .i64 (jj f)]∧aa=[ak ag.u8 5 (.slice a (e9 f).length c) (e9 f)]):=by
 have kr:=hf;obtain ⟨mZ,m0,sr,su,sv,sw,sx,sy,sA,sB,sC,sD,sE,BB,BC,Bm,Bn,Bo,Bp,Bq,Br,Bs,Bt,Bu,Bv,Bw,rfl,p1,p2,p3,gT,gL,jb,gU,bU,b7,bO,b5,bL,bN,bP,bW,bK,ja,e5,gS,bT,b6,fp,hY,iT,cc,bX,jq⟩:=ck.sh kr;refine aj.o func20 fun g hg R hR=>?_;have hf:=hf.mono hg;refine S.seq<|S.region rfl<|O.aD (.p rfl) (.box (cs:=[_,_,_,_,_,_,_,_,_,_,_,_,_,_,_,_,_,_,_,_,_,_,_,_,_,_,_,_,_]) rfl rfl) ?_;rintro _ _ ⟨b1,rfl,rfl⟩;refine U 5 ?_;refine S.cy an fun g hs hm h1=>?_;replace hg:=bf hg hs;replace hR:=a_ hR hm
 try replace hf:=hf.mono hs
 clear hs hm
 by_cases q1:g_ f
 ·have hk:=q1.1.1
  have hle:=FX hk hl;have GU:=vO hk hl;refine S.region rfl<|O.op (.p rfl) (.aJ isAgg41 af rfl h1) ?_;refine O.v0 (.p rfl) rfl af rfl rfl ((OP hf hl)) ?_;refine O.sT 6 rfl (by exact zdt q1) ?_;refine U 5 ?_;refine S.yJ (L:=[0,1,3,4,6,2,5,7,8,9,10]) (fun (x:Option Addr × Nat)=>[(4,.slice x.1 (di f).length x.2)]) [] (fun (x:Option Addr × Nat)=>[ak ag.u8 5 (.slice x.1 (di f).length x.2) (di f)]) (.nil) F.mixed af (fun kk key=>?_) (fun x=>?_)
  ·refine U 4 ?_
   refine .quiet (.p rfl) rfl (fun _=>.aJ isAgg41 af rfl h1) ?_;refine ah.kZ 2 5 [5,7,8,9,10] [2,7,8,9,10] af rfl rfl ?_ ?_
   ·refine e3.bw (T:=ag.u8) (ys:=[_]) (.p rfl) af underlying22 cP aq rfl rfl ⟨rfl,trivial⟩ aq (fun c6 bB=>?_)
    refine ah.aN (.p rfl) af rfl af rfl rfl ((fQ _)) ?_;rintro _ _ ⟨dF,cj,rfl,rfl⟩;refine ah.aN (.p rfl) af rfl af rfl rfl ((Jm hf hl hk)) ?_;rintro _ _ ⟨cT,bF,rfl,rfl⟩;refine ah.bw (.p rfl) af (T:=ag.val) (ys:=[.slice c6 1 bB,.slice dF 8 cj,.slice cT (cE f).length bF]) underlying28 dH aq rfl rfl ⟨⟨rfl,rfl⟩,⟨rfl,rfl⟩,⟨rfl,rfl⟩,trivial⟩ aq (fun b_ bn=>?_);refine ah.dh (.p rfl) af rfl af rfl rfl (bs:=[ak ag.val 22 (.slice b_ 3 bn) [.slice c6 1 bB,.slice dF 8 cj,.slice cT (cE f).length bF],ak ag.u8 5 (.slice c6 1 bB) ([f.1]),ak ag.u8 5 (.slice dF 8 cj) (be f.2.1),ak ag.u8 5 (.slice cT (cE f).length bF) (cE f)]) ct (fun m hm hd=>kT (xss:=[[f.1],be f.2.1,cE f]) ((hm.arr.right hd).rows ⟨hm.tail.arr.right hd,hm.tail.tail.arr.right hd,hm.tail.tail.tail.arr.right hd,trivial⟩) (by simp only [nV,List.flatten_nil,List.append_nil,cI,ga,List.length_singleton];omega)) ?_;rintro _ _ ⟨dV,cx,rfl,rfl⟩;have qz:[[f.1],be f.2.1,cE f].flatten=di f:=by simp [di]
    refine U 2 ?_;rw [qz];refine S.pk ?_ (S.weaken (Sub.app aO (.nil)) (key (dV,cx)))
    try dsimp only
    repeat (first|exact gX|exact gZ|(apply gY;focus (repeat (first|exact fA|apply zt)))|apply g5)
   ·refine e3.aN (.p rfl) af rfl af rfl rfl ((fQ _)) ?_
    rintro _ _ ⟨dF,cj,rfl,rfl⟩;refine ah.kZ 2 7 [7,8,9,10] [2,8,9,10] af rfl rfl ?_ ?_
    ·refine e3.bw (T:=ag.u8) (ys:=[_]) (.p rfl) af underlying22 cP aq rfl rfl ⟨rfl,trivial⟩ aq (fun c6 bB=>?_)
     refine ah.aN (.p rfl) af rfl af rfl rfl ((Jm hf hl hk)) ?_;rintro _ _ ⟨cT,bF,rfl,rfl⟩;refine ah.bw (.p rfl) af (T:=ag.val) (ys:=[.slice c6 1 bB,.slice dF 8 cj,.slice cT (cE f).length bF]) underlying28 dH aq rfl rfl ⟨⟨rfl,rfl⟩,⟨rfl,rfl⟩,⟨rfl,rfl⟩,trivial⟩ aq (fun b_ bn=>?_);refine ah.dh (.p rfl) af rfl af rfl rfl (bs:=[ak ag.val 22 (.slice b_ 3 bn) [.slice c6 1 bB,.slice dF 8 cj,.slice cT (cE f).length bF],ak ag.u8 5 (.slice c6 1 bB) ([f.1]),ak ag.u8 5 (.slice dF 8 cj) (be f.2.1),ak ag.u8 5 (.slice cT (cE f).length bF) (cE f)]) ct (fun m hm hd=>kT (xss:=[[f.1],be f.2.1,cE f]) ((hm.arr.right hd).rows ⟨hm.tail.arr.right hd,hm.tail.tail.arr.right hd,hm.tail.tail.tail.arr.right hd,trivial⟩) (by simp only [nV,List.flatten_nil,List.append_nil,cI,ga,List.length_singleton];omega)) ?_;rintro _ _ ⟨dV,cx,rfl,rfl⟩;have qz:[[f.1],be f.2.1,cE f].flatten=di f:=by simp [di]
     refine U 2 ?_;rw [qz];refine S.pk ?_ (S.weaken (Sub.app aO (.nil)) (key (dV,cx)))
     try dsimp only
     repeat (first|exact gX|exact gZ|(apply gY;focus (repeat (first|exact fA|apply zt)))|apply g5)
    ·refine e3.aN (.p rfl) af rfl af rfl rfl ((Jm hf hl hk)) ?_
     rintro _ _ ⟨cT,bF,rfl,rfl⟩;refine ah.bw (T:=ag.u8) (ys:=[_]) (.p rfl) af underlying22 cP aq rfl rfl ⟨rfl,trivial⟩ aq (fun c6 bB=>?_);refine ah.bw (.p rfl) af (T:=ag.val) (ys:=[.slice c6 1 bB,.slice dF 8 cj,.slice cT (cE f).length bF]) underlying28 dH aq rfl rfl ⟨⟨rfl,rfl⟩,⟨rfl,rfl⟩,⟨rfl,rfl⟩,trivial⟩ aq (fun b_ bn=>?_);refine ah.dh (.p rfl) af rfl af rfl rfl (bs:=[ak ag.val 22 (.slice b_ 3 bn) [.slice c6 1 bB,.slice dF 8 cj,.slice cT (cE f).length bF],ak ag.u8 5 (.slice c6 1 bB) ([f.1]),ak ag.u8 5 (.slice dF 8 cj) (be f.2.1),ak ag.u8 5 (.slice cT (cE f).length bF) (cE f)]) ct (fun m hm hd=>kT (xss:=[[f.1],be f.2.1,cE f]) ((hm.arr.right hd).rows ⟨hm.tail.arr.right hd,hm.tail.tail.arr.right hd,hm.tail.tail.tail.arr.right hd,trivial⟩) (by simp only [nV,List.flatten_nil,List.append_nil,cI,ga,List.length_singleton];omega)) ?_;rintro _ _ ⟨dV,cx,rfl,rfl⟩;have qz:[[f.1],be f.2.1,cE f].flatten=di f:=by simp [di]
     refine U 2 ?_;rw [qz];refine S.pk ?_ (S.weaken (Sub.app aO (.nil)) (key (dV,cx)))
     try dsimp only
     repeat (first|exact gX|exact gZ|(apply gY;focus (repeat (first|exact fA|apply zt)))|apply g5)
  by_cases bg:(di f).length≤262144
  ·have e1:e9 f=di f:=by unfold e9;rw [if_pos ⟨q1,bg⟩]
   have e2:jj f=0:=by unfold jj;rw [if_pos q1,if_pos bg]
   refine U 6 ?_;refine O.aB 20 rfl (by exact aA ai)<|U 9 ?_;refine S.kA results20 rfl rfl fun w hw=>ax.end_ hR hw ?_;exact pk ⟨x.1,x.2,by rw [e1,e2],by rw [e1]⟩
  ·have e1:e9 f=[]:=by unfold e9;rw [if_neg fun w=>bg w.2]
   have e2:jj f=3:=by unfold jj;rw [if_pos q1,if_neg bg]
   refine U 6 ?_;refine O.sT 20 rfl (by exact zdt ai)<|U 7 ?_;refine S.Ox ag.u8 5 ?_;refine S.kA results20 rfl rfl fun w hw=>ax.end_ hR hw ?_;exact pk ⟨none,0,by rw [e1,e2];rfl,by rw [e1]⟩
 ·have e1:e9 f=[]:=by unfold e9;rw [if_neg fun w=>q1 w.1]
  have e2:jj f=4:=by unfold jj;rw [if_neg q1]
  refine S.region rfl<|O.op (.p rfl) (.aJ isAgg41 af rfl h1) ?_;refine O.v0 (.p rfl) rfl af rfl rfl ((OP hf hl)) ?_;refine O.aB 6 rfl (by exact aA q1)<|U 8 ?_;refine S.Ox ag.u8 5 ?_;refine S.kA results20 rfl rfl fun w hw=>ax.end_ hR hw ?_;exact pk ⟨none,0,by rw [e1,e2];rfl,by rw [e1]⟩
theorem aaC {r:Fr} {cs:List Value} {f:aP} (hf:ck.rel r cs f) (hl:kD f):aj prog 22 #[.agg cs.toArray] r [] (aF fun v aa=>v=.bool (decide (jj f=0))∧aa=[]):=by
 have kr:=hf;obtain ⟨mZ,m0,sr,su,sv,sw,sx,sy,sA,sB,sC,sD,sE,BB,BC,Bm,Bn,Bo,Bp,Bq,Br,Bs,Bt,Bu,Bv,Bw,rfl,p1,p2,p3,gT,gL,jb,gU,bU,b7,bO,b5,bL,bN,bP,bW,bK,ja,e5,gS,bT,b6,fp,hY,iT,cc,bX,jq⟩:=ck.sh kr;refine aj.o func22 fun g hg R hR=>?_;have hf:=hf.mono hg;refine S.seq<|S.region rfl<|O.aD (.p rfl) (.box (cs:=[_,_,_,_,_,_,_,_,_,_,_,_,_,_,_,_,_,_,_,_,_,_,_,_,_,_,_,_,_]) rfl rfl) ?_;rintro _ _ ⟨b1,rfl,rfl⟩;refine U 3 ?_;refine S.cy an fun g hs hm cK=>?_;replace hg:=bf hg hs;replace hR:=a_ hR hm
 try replace hf:=hf.mono hs
 clear hs hm;refine S.region rfl<|O.op (.p rfl) (.aJ isAgg41 af rfl cK) ?_;refine O.aN (.p rfl) rfl af rfl rfl ((OM hf hl)) ?_;rintro _ _ ⟨a7,c9,rfl,rfl⟩;refine U 12 ?_;exact S.rt results22 rfl hR ⟨rfl,rfl⟩
theorem abu {r:Fr} {cs:List Value} {x:aV} (h:bu.rel r cs x) (ho:lB c4 x) :
  aj prog 107 #[.agg cs.toArray] r [] (aF fun v aa=>v=.int .i64 (p7 x:Int)∧aa=[]):=by
 obtain ⟨dM,je,iF,dN,jf,iG,rfl,k0,k1,k2,aI,cv,bV⟩:=bu.sh h;obtain ⟨o0,o1,o2,tR⟩:=ho;unfold c4 at o0 o1 o2 tR;have jn:=l5 x.1;refine aj.o func107 fun g hg R hR=>?_;refine S.seq<|S.region rfl<|O.aD (.p rfl) (.box (cs:=[_,_,_,_,_,_,_]) rfl rfl) ?_;rintro _ _ ⟨b1,rfl,rfl⟩;refine U 19 ?_;refine O.op (.p rfl) (.quo rfl rfl ai)<|O.slot 18 (v' :=.int .i64 (((x.1.length+x.2.2.2.2.2.1.length+x.2.2.2.2.2.2.1.length) / 8:Nat):Int)) rfl (by rw [jn,Int.tdiv_eq_ediv_of_nonneg ai,IntWalk.i64_in _ ai];rfl) ?_;refine U 1 ?_;refine O.slot 19 (v' :=.int .i64 (p7 x:Int)) rfl (by unfold p7;exact congrArg _ ai) ?_;refine U 2 ?_;exact S.rt results107 rfl hR ⟨rfl,rfl⟩
theorem JJ {r:Fr} {cs:List Value} {x:dD} (h:bx.rel r cs x) (ho:pz c4 x) :
  aj prog 39 #[.agg cs.toArray] r [] (aF fun v aa=>v=.int .i64 (p8 x:Int)∧aa=[]):=by
 obtain ⟨dM,jz,dN,jA,rfl,k0,k1,k2,aI,fo⟩:=bx.sh h;obtain ⟨o0,o1⟩:=ho;unfold c4 at o0 o1;refine aj.o func39 fun g hg R hR=>?_;refine S.seq<|S.region rfl<|O.aD (.p rfl) (.box (cs:=[_,_,_,_,_]) rfl rfl) ?_;rintro _ _ ⟨b1,rfl,rfl⟩;refine U 11 ?_;refine O.op (.p rfl) (.quo rfl rfl ai)<|O.slot 10 (v' :=.int .i64 (((x.2.2.2.1.length+x.2.2.2.2.1.length) / 8:Nat):Int)) rfl (by rw [Int.tdiv_eq_ediv_of_nonneg ai,IntWalk.i64_in _ ai];rfl) ?_;refine U 1 ?_;refine O.slot 11 (v' :=.int .i64 (p8 x:Int)) rfl (by unfold p8;exact congrArg _ ai) ?_;refine U 2 ?_;exact S.rt results39 rfl hR ⟨rfl,rfl⟩
theorem O5 {r:Fr} {va:Value} {l:List aV} {most:Int} (ha:av bu r va l) (ho:∀ x∈l,lB c4 x) (hl:l.length≤c4) (hm:0≤most∧most≤1000000000) :
  aj prog 42 #[va,.int .i64 most] r [] (aF fun v aa=>∃ n:Nat,v=.int .i64 (n:Int)∧(n:Int)≤1000000000000000∧((n:Int)≤most→xA n l)∧aa=[]):=by
 unfold c4 at hl;obtain ⟨hm0,aW⟩:=hm;have har:=ha;refine aj.o func42 fun g hg R hR=>?_;have ha:=ha.mono hg;have hbd:=ha.bound;obtain ⟨a1,c1,rfl⟩:=ha.shape;refine U 14 ?_;refine S.i_ (ι:=Nat) (dy:=Nat) (fun i n=>i≤l.length∧i≤n∧(n:Int)≤1000000000000000∧∀ x∈l.take i,p7 x≤n) (fun i n=>[(5,.int .i64 (n:Int)),(6,.int .i64 (i:Int))]) [(0,_),(1,_)] (fun i n=>[]) (fun i n=>l.length - i) (0) (0) (by exact ⟨by simp,by simp,by omega,by simp⟩) aO aO rfl fun i n hx ih=>?_;have aW:=bS (g:=g);obtain ⟨hx1,b8,tF,mR⟩:=hx
 by_cases q1:¬ i<l.length
 ·clear ih
  have hi:i=l.length:=by omega
  rw [hi,List.take_length] at mR;refine U 7 ?_;refine O.aB 10 rfl (by exact aA ai) ?_;refine U 13 ?_;exact S.rt results42 rfl hR ⟨n,rfl,tF,fun _=>⟨by omega,mR⟩,rfl⟩
 have hi:i<l.length:=Classical.not_not.1 q1
 by_cases bg:¬ (n:Int)≤most
 ·clear ih
  refine U 7 ?_;refine O.sT 10 rfl (by exact zdt ai)<|U 4 ?_;refine O.aB 14 rfl (by exact aA bg)<|U 9 ?_;exact S.rt results42 rfl hR ⟨n,rfl,tF,fun h=>absurd h bg,rfl⟩
 replace bg:=Classical.not_not.1 bg;have jm:=ho _ (List.getElem_mem hi);have HI:=abp jm;unfold c4 at HI;have mm:1≤p7 l[i]:=by unfold p7;omega
 refine U 7 ?_;refine O.sT 10 rfl (by exact zdt ai)<|U 4 ?_;refine O.sT 14 rfl (by exact zdt bg)<|U 10 ?_;refine O.ew har hg (h:=fun bT Ck tt HK=>?_);have pS:=ag.rel.mono HK hg;obtain ⟨aaO,aaU,aa0,aa6,aba,abg,rfl,Vu,Vz,VF,Gq,Gu,Gy⟩:=bu.sh pS;refine O.op (.p rfl) (.aJ isAgg118 af rfl tt) ?_;refine O.v0 (.p rfl) rfl af rfl rfl (abu (by first|assumption|exact ag.rel.mono ay hg) ay)<|U 1 ?_;refine O.slot 24 (v' :=.int .i64 ((n+p7 l[i]:Nat):Int)) rfl (by rw [Int.natCast_add])<|U 8 ?_;exact S.cF (ih (i+1) (n+p7 l[i]) (by exact ⟨by omega,by omega,by omega,AM hi (fun x hx=>by have:=mR x hx;omega) ai⟩) ai)
theorem Yn {r:Fr} {va:Value} {l:List eL} {most:Int} (ha:av dJ r va l) (ho:∀ x∈l,py c4 x) (hl:l.length≤c4) (hm:0≤most∧most≤1000000000) :
  aj prog 106 #[va,.int .i64 most] r [] (aF fun v aa=>∃ n:Nat,v=.int .i64 (n:Int)∧(n:Int)≤3000000000000000∧((n:Int)≤most→y8 n l)∧aa=[]):=by
 unfold c4 at hl;obtain ⟨hm0,aW⟩:=hm;have har:=ha;refine aj.o func106 fun g hg R hR=>?_;have ha:=ha.mono hg;have hbd:=ha.bound;obtain ⟨a1,c1,rfl⟩:=ha.shape;refine U 14 ?_;refine S.i_ (ι:=Nat) (dy:=Nat) (fun i n=>i≤l.length∧i≤n∧(n:Int)≤3000000000000000∧((n:Int)≤most→yI (l.take i)≤n∧∀ x∈l.take i,y7 n x)) (fun i n=>[(5,.int .i64 (n:Int)),(6,.int .i64 (i:Int))]) [(0,_),(1,_)] (fun i n=>[]) (fun i n=>l.length - i) (0) (0) (by exact ⟨by simp,by simp,by omega,fun _=>⟨by simp [yI],by simp⟩⟩) aO aO rfl fun i n hx ih=>?_;have aW:=bS (g:=g);obtain ⟨hx1,b8,tF,mR⟩:=hx
 by_cases q1:¬ i<l.length
 ·clear ih
  have hi:i=l.length:=by omega
  rw [hi,List.take_length] at mR;refine U 7 ?_;refine O.aB 10 rfl (by exact aA ai) ?_;refine U 13 ?_;exact S.rt results106 rfl hR ⟨n,rfl,tF,fun q=>⟨⟨by omega,(mR q).1⟩,(mR q).2⟩,rfl⟩
 have hi:i<l.length:=Classical.not_not.1 q1
 by_cases bg:¬ (n:Int)≤most
 ·clear ih
  refine U 7 ?_;refine O.sT 10 rfl (by exact zdt ai)<|U 4 ?_;refine O.aB 14 rfl (by exact aA bg)<|U 9 ?_;exact S.rt results106 rfl hR ⟨n,rfl,tF,fun h=>absurd h bg,rfl⟩
 replace bg:=Classical.not_not.1 bg;have jm:=ho _ (List.getElem_mem hi);obtain ⟨rU,o3,VJ⟩:=jm;have jn:=l5 l[i].1;have agT :l[i].1.length≤140737488351232:=rU;refine U 7 ?_;refine O.sT 10 rfl (by exact zdt ai) ?_;refine U 4 ?_;refine O.sT 14 rfl (by exact zdt bg) ?_;refine U 6 ?_;refine S.aY (L:=.range 21) F.mixed af ?_;refine U 4 ?_;refine ah.ew har hg (h:=fun b6 R1 VR WA=>?_);have HA:=ag.rel.mono WA hg;obtain ⟨ahs,ahx,rfl,agQ,agc⟩:=dJ.sh HA;refine U 3 ?_;refine .quiet (.p rfl) rfl (fun _=>.quo rfl rfl ai)<|ah.slot 26 (v' :=.int .i64 ((l[i].1.length / 8:Nat):Int)) rfl (by rw [jn,Int.tdiv_eq_ediv_of_nonneg ai,IntWalk.i64_in _ ai];rfl) ?_;refine U 3 ?_;refine ah.ew har hg (h:=fun tW s4 jI WB=>?_);have j5:=ag.rel.mono WB hg;obtain ⟨aht,ahy,rfl,agR,Uq⟩:=dJ.sh j5;refine U 5 ?_;refine ah.aN (.p rfl) af rfl af rfl rfl ((O5 Uq VJ o3 ⟨by omega,by omega⟩)) ?_;rintro adH _ ⟨m,rfl,hm2,mP,rfl⟩;refine U 1 ?_;refine ah.slot 37 (v' :=.int .i64 ((n+1+l[i].1.length / 8+m:Nat):Int)) rfl (by exact congrArg _ ai) ?_;refine U 8 ?_
 exact S.cF (ih (i+1) (n+1+l[i].1.length / 8+m) (by exact ⟨by omega,by omega,by omega,fun q=>⟨by have h7:=(mR ai).1;have h8:=(mP ai).1;rw [abw hi];omega,AM hi (fun x hx=>((mR ai).2 x hx).mono ai) ⟨by omega,(mP ai).mono ai⟩⟩⟩) ai)
def zh (n:Nat) (l:List (List UInt8)):Prop:=l.length≤n∧∀ x∈l,x.length / 8≤n
theorem abJ {r:Fr} {va:Value} {l:List (List UInt8)} {most:Int} (ha:av (ag.slice ag.u8) r va l) (ho:l.length≤c4∧∀ x∈l,x.length≤c4) (hm:0≤most∧most≤1000000000) :
  aj prog 105 #[va,.int .i64 most] r [] (aF fun v aa=>∃ n:Nat,v=.int .i64 (n:Int)∧(n:Int)≤1000000000000000∧((n:Int)≤most→zh n l)∧aa=[]):=by
 obtain ⟨hl,ho⟩:=ho;unfold c4 at hl;obtain ⟨hm0,aW⟩:=hm;refine aj.o func105 fun g hg R hR=>?_;have ha:=ha.mono hg;have hbd:=ha.bound;obtain ⟨a1,c1,rfl⟩:=ha.shape;refine U 16 ?_;refine S.i_ (ι:=Nat) (dy:=Nat) (fun i n=>i≤l.length∧l.length≤n∧(n:Int)≤1000000000000000∧∀ x∈l.take i,x.length / 8≤n) (fun i n=>[(5,.int .i64 (n:Int)),(6,.int .i64 (i:Int))]) [(0,_),(1,_)] (fun i n=>[]) (fun i n=>l.length - i) (0) (l.length) (by exact ⟨by simp,by simp,by omega,by simp⟩) aO aO rfl fun i n hx ih=>?_;have aW:=bS (g:=g);obtain ⟨hx1,b8,tF,mR⟩:=hx
 by_cases q1:¬ i<l.length
 ·clear ih
  have hi:i=l.length:=by omega
  rw [hi,List.take_length] at mR;refine U 7 ?_;refine O.aB 12 rfl (by exact aA ai) ?_;refine U 13 ?_;exact S.rt results105 rfl hR ⟨n,rfl,tF,fun _=>⟨b8,mR⟩,rfl⟩
 have hi:i<l.length:=Classical.not_not.1 q1
 by_cases bg:¬ (n:Int)≤most
 ·clear ih
  refine U 7 ?_;refine O.sT 12 rfl (by exact zdt ai)<|U 4 ?_;refine O.aB 16 rfl (by exact aA bg)<|U 9 ?_;exact S.rt results105 rfl hR ⟨n,rfl,tF,fun h=>absurd h bg,rfl⟩
 replace bg:=Classical.not_not.1 bg;have jm:=ho _ (List.getElem_mem hi);unfold c4 at jm;refine U 7 ?_;refine O.sT 12 rfl (by exact zdt ai) ?_;refine U 4 ?_;refine O.sT 16 rfl (by exact zdt bg) ?_;refine U 10 ?_;refine O.dI (ha) (h:=fun fp nt jH fK=>?_);obtain ⟨Qc,rfl,pO⟩:=fK;obtain ⟨gk,dm,rfl⟩:=pO.shape;refine U 2 ?_;refine O.op (.p rfl) (.quo rfl rfl ai)<|O.slot 26 (v' :=.int .i64 ((l[i].length / 8:Nat):Int)) rfl (by rw [Int.tdiv_eq_ediv_of_nonneg ai,IntWalk.i64_in _ ai];rfl) ?_;refine U 1 ?_;refine O.slot 27 (v' :=.int .i64 ((n+l[i].length / 8:Nat):Int)) rfl (by exact congrArg _ ai) ?_;refine U 8 ?_;exact S.cF (ih (i+1) (n+l[i].length / 8) (by exact ⟨by omega,by omega,by omega,AM hi (fun x hx=>by have:=mR x hx;omega) ai⟩) ai)
def QH (n:Nat) (p:fT):Prop:=zh n p.1∧p.2.1.length≤n∧∀ x∈p.2.1,(x.1.length+x.2.1.length) / 8≤n
theorem zh.mono {n m:Nat} {l:List (List UInt8)} (h:n≤m) (x:zh n l):zh m l:=⟨Nat.le_trans x.1 h,fun y hy=>Nat.le_trans (x.2 y hy) h⟩
def KM (p:fT):Prop:=(p.1.length≤c4∧∀ x∈p.1,x.length≤c4)∧p.2.1.length≤c4∧∀ x∈p.2.1,x.1.length≤c4∧x.2.1.length≤c4
theorem aab {r:Fr} {cs:List Value} {p:fT} {most:Int} (h:fB.rel r cs p) (ho:KM p) (hm:0≤most∧most≤1000000000) :
  aj prog 40 #[.agg cs.toArray,.int .i64 most] r [] (aF fun v aa=>∃ n:Nat,v=.int .i64 (n:Int)∧(n:Int)≤3000000000000000∧((n:Int)≤most→QH n p)∧aa=[]):=by
 obtain ⟨x1,bC,y1,rj,rfl,k1,k2⟩:=fB.sh h;obtain ⟨o1,hl,o2⟩:=ho;unfold c4 at hl;obtain ⟨hm0,aW⟩:=id hm;refine aj.o func40 fun g hg R hR=>?_;have k1:=k1.mono hg;have k2:=k2.mono hg;have mM:=k2.bound;have XW:=k2;refine S.seq<|S.region rfl<|O.aD (.p rfl) (.box (cs:=[_,_]) rfl rfl) ?_;rintro _ _ ⟨b2,rfl,rfl⟩;refine U 3 ?_;refine S.cy an fun g hs hm h2=>?_;replace hg:=bf hg hs;replace hR:=a_ hR hm
 try replace k1:=k1.mono hs
 try replace k2:=k2.mono hs
 clear hs hm;refine U 3 ?_;refine O.q 1 rfl<|O.aN (.p rfl) rfl af rfl rfl ((abJ k1 o1 hm)) ?_;rintro v10 _ ⟨n1,rfl,G0,Vl,rfl⟩;refine U 1 ?_;refine O.slot 11 (v' :=.int .i64 ((1+n1:Nat):Int)) rfl (by exact congrArg _ ai) ?_;refine U 8 ?_;refine S.i_ (ι:=Nat) (dy:=Nat) (fun i n=>i≤p.2.1.length∧i≤n∧1+n1≤n∧(n:Int)≤3000000000000000∧∀ x∈p.2.1.take i,(x.1.length+x.2.1.length) / 8≤n) (fun i n=>[(5,.int .i64 (n:Int)),(6,.int .i64 (i:Int))]) [(1,_),(2,_)] (fun i n=>[]) (fun i n=>p.2.1.length - i) (0) (1+n1) (by exact ⟨by simp,by simp,by omega,by omega,by simp⟩) aO aO rfl fun i n hx ih=>?_;have aW:=bS (g:=g);obtain ⟨hx1,b8,tF,mR,HW⟩:=hx
 by_cases q1:¬ i<p.2.1.length
 ·clear ih
  have hi:i=p.2.1.length:=by omega
  rw [hi,List.take_length] at HW;refine U 8 ?_;refine O.aB 16 rfl (by exact aA ai) ?_;refine U 13 ?_;exact S.rt results40 rfl hR ⟨n,rfl,mR,fun q=>⟨(Vl ai).mono ai,by omega,HW⟩,rfl⟩
 have hi:i<p.2.1.length:=Classical.not_not.1 q1
 by_cases bg:¬ (n:Int)≤most
 ·clear ih
  refine U 8 ?_;refine O.sT 16 rfl (by exact zdt ai)<|U 4 ?_;refine O.aB 20 rfl (by exact aA bg)<|U 9 ?_;exact S.rt results40 rfl hR ⟨n,rfl,mR,fun h=>absurd h bg,rfl⟩
 replace bg:=Classical.not_not.1 bg;obtain ⟨rU,o3⟩:=o2 _ (List.getElem_mem hi);have jn:=l5 p.2.1[i].1;unfold c4 at rU o3;refine U 8 ?_;refine O.sT 16 rfl (by exact zdt ai) ?_;refine U 4 ?_;refine O.sT 20 rfl (by exact zdt bg) ?_;refine U 6 ?_;refine S.aY (L:=.range 20) F.mixed af ?_;refine U 4 ?_;refine ah.q 1 rfl<|ah.dI (k2) (h:=fun Oz Lv MS At=>?_);obtain ⟨l1,m1,rfl,l2,l3⟩:=dZ.sh At;refine U 5 ?_;refine ah.q 1 rfl<|ah.dI (k2) (h:=fun ahZ afF ag9 Wn=>?_);obtain ⟨ahK,ahL,rfl,eC,fy⟩:=dZ.sh Wn;refine U 4 ?_;refine .quiet (.p rfl) rfl (fun _=>.quo rfl rfl ai)<|ah.slot 41 (v' :=.int .i64 (((p.2.1[i].1.length+p.2.1[i].2.1.length) / 8:Nat):Int)) rfl (by rw [jn,Int.tdiv_eq_ediv_of_nonneg ai,IntWalk.i64_in _ ai];rfl) ?_;refine U 1 ?_;refine ah.slot 42 (v' :=.int .i64 ((n+1+(p.2.1[i].1.length+p.2.1[i].2.1.length) / 8:Nat):Int)) rfl (by exact congrArg _ ai) ?_;refine U 8 ?_;exact S.cF (ih (i+1) (n+1+(p.2.1[i].1.length+p.2.1[i].2.1.length) / 8) (by exact ⟨by omega,by omega,by omega,by omega,AM hi (fun x hx=>by have:=HW x hx;omega) ai⟩) ai)
def QG (n:Nat) (x:eY):Prop:=(x.2.1.length+x.2.2.1.length) / 8≤n∧y8 n x.2.2.2.1
theorem Zc {r:Fr} {cs:List Value} {x:eY} {most:Int} (h:fj.rel r cs x) (ho:x.2.1.length≤c4∧x.2.2.1.length≤c4∧x.2.2.2.1.length≤c4∧∀ y∈x.2.2.2.1,py c4 y) (hm:0≤most∧most≤1000000000) :
  aj prog 41 #[.agg cs.toArray,.int .i64 most] r [] (aF fun v aa=>∃ n:Nat,v=.int .i64 (n:Int)∧(n:Int)≤4000000000000000∧((n:Int)≤most→QG n x)∧aa=[]):=by
 obtain ⟨x1,bC,c8,y1,rj,rm,rfl,k1,k2,aI⟩:=fj.sh h;obtain ⟨o1,o2,tR,Dn⟩:=ho;unfold c4 at o1 o2;refine aj.o func41 fun g hg R hR=>?_;have k1:=k1.mono hg;have k2:=k2.mono hg;have aI:=aI.mono hg;refine S.seq<|S.region rfl<|O.aD (.p rfl) (.box (cs:=[_,_,_,_]) rfl rfl) ?_;rintro _ _ ⟨b2,rfl,rfl⟩;refine U 3 ?_;refine S.cy an fun g hs hm h2=>?_;replace hg:=bf hg hs;replace hR:=a_ hR hm
 try replace k1:=k1.mono hs
 try replace k2:=k2.mono hs
 try replace aI:=aI.mono hs
 clear hs hm;refine S.aY (L:=.range 15) F.mixed af ?_;refine U 7 ?_;refine .quiet (.p rfl) rfl (fun _=>.quo rfl rfl ai)<|ah.slot 12 (v' :=.int .i64 (((x.2.1.length+x.2.2.1.length) / 8:Nat):Int)) rfl (by rw [Int.tdiv_eq_ediv_of_nonneg ai,IntWalk.i64_in _ ai];rfl) ?_;refine U 3 ?_;refine ah.q 1 rfl<|ah.aN (.p rfl) af rfl af rfl rfl ((Yn aI Dn tR hm)) ?_;rintro ie _ ⟨m,rfl,hm2,mP,rfl⟩;refine U 1 ?_;refine ah.slot 18 (v' :=.int .i64 ((1+(x.2.1.length+x.2.2.1.length) / 8+m:Nat):Int)) rfl (by exact congrArg _ ai) ?_;refine U 2 ?_;exact S.rt results41 rfl hR ⟨1+(x.2.1.length+x.2.2.1.length) / 8+m,rfl,by omega,fun q=>⟨by omega,(mP ai).mono ai⟩,rfl⟩
def En (f:aP):Prop:=jD 60000 f∧(f.2.2.2.2.2.2.2.2.1.2.2.2.1.length≤5000∧∀ y∈f.2.2.2.2.2.2.2.2.1.2.2.2.1,y.2.1.length≤5000)∧f.2.2.2.2.2.2.2.2.2.1.length≤5000
theorem JE {n:Nat} {l:List aV} (hn:n≤5000) (h:xA n l):l.length≤5000∧∀ y∈l,lB 60000 y:=⟨Nat.le_trans h.1 hn,fun y hy=>by
 have:=h.2 y hy;unfold p7 at this;exact ⟨by omega,by omega,by omega,by omega⟩⟩
theorem jD.mono' {N M:Nat} {x:aP} (mL:N≤M) (h:jD N x):jD M x:=by
 obtain ⟨h1,h2,h3,h4,h5,h6,h7,h8,h9,h10,h11,h12,mh,eH,kN⟩:=h;exact ⟨by omega,by omega,by omega,by omega,by omega,⟨by omega,fun y hy=>Nat.le_trans (h6.2 y hy) mL⟩,⟨by omega,fun y hy=>(h7.2 y hy).mono mL⟩,by omega,by omega,⟨by omega,fun y hy=>(h10.2 y hy).mono mL⟩,⟨by omega,fun y hy=>(h11.2 y hy).mono mL⟩,by omega,by omega,by omega,by omega⟩
theorem En.sz {f:aP} (h:En f):kD f:=by
 obtain ⟨h1,h2,h3⟩:=h;obtain ⟨_,_,_,_,_,_,TP,af7,af8,_⟩:=id h1;exact ⟨jD.mono' (N:=60000) aq h1,⟨⟨by omega,by omega⟩,by omega,fun y hy=>by have:=h2.2 y hy;omega⟩,by have:=TP.1;omega,by omega⟩
theorem Tr {r:Fr} {cs:List Value} {f:aP} (hf:ck.rel r cs f) (ho:jD c4 f) :
  aj prog 14 #[.agg cs.toArray,.int .i64 5000] r [] (aF fun v aa=>∃ n:Nat,v=.int .i64 (n:Int)∧((n:Int)≤5000→En f)∧aa=[]):=by
 have kr:=hf;obtain ⟨a8,a9,c6,cQ,cR,cS,cT,b_,dV,dW,cY,cX,dX,bk,bc,bB,bG,bD,bE,bF,bn,cx,cn,bJ,bI,cq,rfl,p1,p2,p3,gT,gL,jb,gU,bU,b7,bO,b5,bL,bN,bP,bW,bK,ja,e5,gS,bT,b6,fp,hY,iT,cc,bX,jq⟩:=ck.sh kr;obtain ⟨xH,xM,xN,xO,zv,B3,B4,zw,zx,B2,zu,xI,xJ,xK,xL⟩:=ho;have iH:=l5 f.2.2.2.1;have jV:=l5 f.2.2.2.2.1;have g1:=JI (x:=f.2.2.2.2.2.1) ⟨xN,xO⟩;have g2:=JI (x:=f.2.2.2.2.2.2.2.2.2.2.1.1) ⟨xI,xJ⟩;have g3:=JI (x:=f.2.2.2.2.2.2.2.2.2.2.1.2.1) ⟨xK,xL⟩;unfold c4 at g1 g2 g3;refine aj.o func14 fun g hg R hR=>?_;have hf:=hf.mono hg;have bU:=bU.mono hg;have b7:=b7.mono hg;have bO:=bO.mono hg;have b5:=b5.mono hg;have bL:=bL.mono hg;have bN:=bN.mono hg;have bP:=bP.mono hg;have bW:=bW.mono hg;have bK:=bK.mono hg;have bT:=bT.mono hg;have b6:=b6.mono hg;have cc:=cc.mono hg;have bX:=bX.mono hg;have t1:bx.rel g.h [.int .i64 f.2.2.2.2.2.1.1,.int .i64 f.2.2.2.2.2.1.2.1,.int .i64 f.2.2.2.2.2.1.2.2.1,.slice a8 f.2.2.2.2.2.1.2.2.2.1.length bk,.slice a9 f.2.2.2.2.2.1.2.2.2.2.1.length bc] f.2.2.2.2.2.1:=bx.mk gL jb gU bU b7
 have t2:bx.rel g.h [.int .i64 f.2.2.2.2.2.2.2.2.2.2.1.1.1,.int .i64 f.2.2.2.2.2.2.2.2.2.2.1.1.2.1,.int .i64 f.2.2.2.2.2.2.2.2.2.2.1.1.2.2.1,.slice dW f.2.2.2.2.2.2.2.2.2.2.1.1.2.2.2.1.length cn,.slice cY f.2.2.2.2.2.2.2.2.2.2.1.1.2.2.2.2.1.length bJ] f.2.2.2.2.2.2.2.2.2.2.1.1:=bx.mk ja e5 gS bT b6;have t3:bx.rel g.h [.int .i64 f.2.2.2.2.2.2.2.2.2.2.1.2.1.1,.int .i64 f.2.2.2.2.2.2.2.2.2.2.1.2.1.2.1,.int .i64 f.2.2.2.2.2.2.2.2.2.2.1.2.1.2.2.1,.slice cX f.2.2.2.2.2.2.2.2.2.2.1.2.1.2.2.2.1.length bI,.slice dX f.2.2.2.2.2.2.2.2.2.2.1.2.1.2.2.2.2.1.length cq] f.2.2.2.2.2.2.2.2.2.2.1.2.1:=bx.mk fp hY iT cc bX;have mj:fB.rel g.h [.slice cQ f.2.2.2.2.2.2.2.1.1.length bG,.slice cR f.2.2.2.2.2.2.2.1.2.1.length bD] f.2.2.2.2.2.2.2.1:=fB.mk b5 bL;have oq:fj.rel g.h [aT f.2.2.2.2.2.2.2.2.1.1,.slice cS f.2.2.2.2.2.2.2.2.1.2.1.length bE,.slice cT f.2.2.2.2.2.2.2.2.1.2.2.1.length bF,.slice b_ f.2.2.2.2.2.2.2.2.1.2.2.2.1.length bn] f.2.2.2.2.2.2.2.2.1:=fj.mk bN bP bW;have o1:pz c4 f.2.2.2.2.2.1:=⟨xN,xO⟩;have o2:pz c4 f.2.2.2.2.2.2.2.2.2.2.1.1:=⟨xI,xJ⟩;have tR:pz c4 f.2.2.2.2.2.2.2.2.2.2.1.2.1:=⟨xK,xL⟩;have op:KM f.2.2.2.2.2.2.2.1:=⟨B3,B4⟩;have on:f.2.2.2.2.2.2.2.2.1.2.1.length≤c4∧f.2.2.2.2.2.2.2.2.1.2.2.1.length≤c4∧f.2.2.2.2.2.2.2.2.1.2.2.2.1.length≤c4∧∀ y∈f.2.2.2.2.2.2.2.2.1.2.2.2.1,py c4 y:=⟨zw,zx,B2⟩
 have w1:f.2.2.2.1.length≤140737488351232:=xH;have w2:f.2.2.2.2.1.length≤140737488351232:=xM;have w3:f.2.2.2.2.2.2.1.length≤140737488351232:=zv;refine S.seq<|S.region rfl<|O.aD (.p rfl) (.box (cs:=[_,_,_,_,_,_,_,_,_,_,_,_,_,_,_,_,_,_,_,_,_,_,_,_,_,_,_,_,_]) rfl rfl) ?_;rintro _ _ ⟨b2,rfl,rfl⟩;refine U 3 ?_;refine S.cy an fun g hs hm h2=>?_;replace hg:=bf hg hs;replace hR:=a_ hR hm
 try replace hf:=hf.mono hs
 try replace bU:=bU.mono hs
 try replace b7:=b7.mono hs
 try replace bO:=bO.mono hs
 try replace b5:=b5.mono hs
 try replace bL:=bL.mono hs
 try replace bN:=bN.mono hs
 try replace bP:=bP.mono hs
 try replace bW:=bW.mono hs
 try replace bK:=bK.mono hs
 try replace bT:=bT.mono hs
 try replace b6:=b6.mono hs
 try replace cc:=cc.mono hs
 try replace bX:=bX.mono hs
 try replace t1:=t1.mono hs
 try replace t2:=t2.mono hs
 try replace t3:=t3.mono hs
 try replace mj:=mj.mono hs
 try replace oq:=oq.mono hs
 clear hs hm;refine S.aY (L:=[0,1,2,3,4,5,6,7,8,9,10,11,12,13,14,17,18,19,22,23,24,15,16,20,21,25,26,27]) F.mixed af ?_;refine U 11 ?_;refine .quiet (.p rfl) rfl (fun _=>.quo rfl rfl ai)<|ah.slot 17 (v' :=.int .i64 (((f.2.2.2.1.length+f.2.2.2.2.1.length+f.2.2.2.2.2.2.1.length) / 8:Nat):Int)) rfl (by rw [iH,jV,Int.tdiv_eq_ediv_of_nonneg ai,IntWalk.i64_in _ ai];rfl) ?_;refine U 2 ?_;refine .quiet (.p rfl) rfl (fun _=>.aJ (cs:=[_,_,_,_,_]) isAgg27 af rfl ((h2.drop 5).take 5)) ?_;refine U 2 ?_;refine .quiet (.p rfl) rfl (fun _=>.aJ (cs:=[_,_,_,_,_]) isAgg27 af rfl ((h2.drop 18).take 5)) ?_;refine U 2 ?_;refine .quiet (.p rfl) rfl (fun _=>.aJ (cs:=[_,_,_,_,_]) isAgg27 af rfl ((h2.drop 23).take 5)) ?_;refine ah.v0 (.p rfl) af rfl af rfl rfl ((JJ t1 o1)) ?_;refine U 1 ?_;refine ah.v0 (.p rfl) af rfl af rfl rfl ((JJ t2 o2)) ?_;refine U 1 ?_;refine ah.v0 (.p rfl) af rfl af rfl rfl ((JJ t3 tR)) ?_;refine U 1 ?_;refine ah.slot 32 (v' :=.int .i64 ((1+(f.2.2.2.1.length+f.2.2.2.2.1.length+f.2.2.2.2.2.2.1.length) / 8+p8 f.2.2.2.2.2.1+p8 f.2.2.2.2.2.2.2.2.2.2.1.1+p8 f.2.2.2.2.2.2.2.2.2.2.1.2.1:Nat):Int)) rfl (by exact congrArg _ ai) ?_;refine ah.q 1 rfl<|bt.nil (S.seq (S.seq ?_))
 generalize G0:1+(f.2.2.2.1.length+f.2.2.2.2.1.length+f.2.2.2.2.2.2.1.length) / 8+p8 f.2.2.2.2.2.1+p8 f.2.2.2.2.2.2.2.2.2.2.1.1+p8 f.2.2.2.2.2.2.2.2.2.2.1.2.1=n1;refine U 5 ?_;refine S.cd rfl (fun zY=>?_) fun zY=>?_
 ·refine U 5 ?_
  exact S.rt results14 rfl hR ⟨n1,rfl,fun q=>by omega,rfl⟩
 ·refine U 5 ?_
  refine O.op (.p rfl) (.aJ (cs:=[_,_]) isAgg31 af rfl ((h2.drop 11).take 2)) ?_;refine O.q 2 rfl<|O.op (.p rfl) (.sub rfl rfl (IntWalk.i64_in _ ai))<|O.slot 42 (v' :=.int .i64 (5000 - (n1:Int))) rfl dU ?_;refine O.aN (.p rfl) rfl af rfl rfl ((aab mj op ⟨by omega,by omega⟩)) ?_;rintro aiC _ ⟨n2,rfl,hn2,hm2,rfl⟩;refine U 1 ?_;refine O.slot 44 (v' :=.int .i64 ((n1+n2:Nat):Int)) rfl (by exact congrArg _ ai)<|U 9 ?_;refine S.cd rfl (fun z1=>?_) fun z1=>?_
  ·refine U 5 ?_
   exact S.rt results14 rfl hR ⟨n1+n2,rfl,fun q=>by omega,rfl⟩
  ·refine U 5 ?_
   refine O.op (.p rfl) (.aJ (cs:=[_,_,_,_]) isAgg35 af rfl ((h2.drop 13).take 4)) ?_;refine O.q 2 rfl<|O.op (.p rfl) (.sub rfl rfl (IntWalk.i64_in _ ai))<|O.aN (.p rfl) rfl af rfl rfl ((Zc oq on ⟨by omega,by omega⟩)) ?_;rintro adI _ ⟨eC,rfl,MO,mP,rfl⟩;refine U 1 ?_;refine O.slot 56 (v' :=.int .i64 ((n1+n2+eC:Nat):Int)) rfl (by exact congrArg _ ai)<|U 9 ?_;refine S.cd rfl (fun oV=>?_) fun oV=>?_
   ·refine U 5 ?_
    exact S.rt results14 rfl hR ⟨n1+n2+eC,rfl,fun q=>by omega,rfl⟩
   ·refine U 6 ?_
    refine O.q 2 rfl<|O.op (.p rfl) (.sub rfl rfl (IntWalk.i64_in _ ai))<|O.aN (.p rfl) rfl af rfl rfl ((O5 bK zu.2 zu.1 ⟨by omega,by omega⟩)) ?_;rintro aiD _ ⟨fy,rfl,agP,vZ,rfl⟩;refine U 1 ?_;refine O.slot 68 (v' :=.int .i64 ((n1+n2+eC+fy:Nat):Int)) rfl (by exact congrArg _ ai) ?_;refine O.q 1 rfl<|O.nil<|S.ret results14 rfl fun w hw=>ax.end_ hR hw ?_;refine ⟨_,⟨n1+n2+eC+fy,rfl,fun q=>?_,rfl⟩,aC⟩;obtain ⟨⟨u1,u2⟩,sk,wZ⟩:=hm2 ai;obtain ⟨⟨v1,v1'⟩,v2⟩:=(mP ai).2;have v3:=(mP ai).1;obtain ⟨x1,bC⟩:=JE ai (vZ ai);unfold p8 at G0;refine ⟨⟨by omega,by omega,by omega,by omega,by omega,⟨by omega,fun y hy=>by have:=u2 y hy;omega⟩,⟨by omega,fun y hy=>by have:=wZ y hy;exact ⟨by omega,by omega⟩⟩,by omega,by omega,⟨by omega,fun y hy=>?_⟩,⟨by omega,bC⟩,by omega,by omega,by omega,by omega⟩,⟨by omega,fun y hy=>?_⟩,x1⟩
    ·obtain ⟨w1,w2⟩:=v2 y hy
     have w3:=JE ai w2;exact ⟨by omega,by omega,w3.2⟩
    ·exact (JE ai (v2 y hy).2).1
theorem Sat.w1 {A:az} {B:Fr→Prop} {m:Fr} (hs:∀ {h k:Fr},h.sub k→B h→B k) (hA:∀ h,A h→B h):Sat [A] m→B m:=fun ⟨_,_,_,s,_,x,_⟩=>hs s (hA _ x)
theorem QK {r:Fr} {va gr:Value} {xs ys:List UInt8} (ha:av ag.u8 r va xs) :
  aj prog 17 #[va,gr] r [fun m=>av ag.u8 m gr ys] (aF fun v aa=>v=.bool (decide (xs=ys))∧aa=[]) :=
 aj.NJ (aa:=[]) (bs:=[_]) fun _ hm hd=>oQ ha.left ((Sat.w1 av.mono (fun _ x=>x) hm).right hd)
theorem YD {h:Fr} {vs us:List Value} {xss:List (List UInt8)} (hv:cG (Eo h) vs xss) (i:Nat) (hi:i<xss.length) (hi2:i<(vs++us).length):Eo h (vs++us)[i] xss[i]:=by
 have hl:=hv.length;rw [xu ai];exact hv.get i ai hi
theorem Y3 {h:Fr} {vs us:List Value} {n:Nat} (hv:vs.length=n) (hu:cG (av ag.u8 h) us (q5 12)) (i:Nat) (hi:n≤i) (hi2:i<(vs++us).length):av ag.u8 h (vs++us)[i] (gR 1 ((i:Int) - (n:Int))):=by
 have hl:=hu.length;rw [List.getElem_append_right ai];have:=hu.get (i - vs.length) (by simp at hi2;omega) (by simp at hi2 hl ⊢;omega)
 simpa [q5,hv,Int.natCast_sub hi] using this
theorem QE {r:Fr} {a:Option Addr} {c:Nat} {jO:Value} {vs us:List Value} {xss:List (List UInt8)} (hin:av ag.val r (.slice a (xss.length+12) c) (vs++us)) (hv:cG (Eo r) vs xss) (hu:cG (av ag.u8 r) us (q5 12)) (hl:av (ag.slice ag.u8) r jO xss)
  (hq:∀ x∈xss,x.length≤100000000000000) (hb:xss.length≤1000000000000) :
  aj prog 135 #[.slice a xss.length c,jO] r [] (aF fun v aa=>v=.bool true∧aa=[]):=by
 refine aj.o func135 fun g hg R hR=>?_;have hin:=hin.mono hg;have hl:=hl.mono hg;replace hv:=hv.imp fun _ _ x=>kF.mono hg x;replace hu:=hu.imp fun _ _ x=>av.mono hg x;obtain ⟨hzl,mS⟩:=hin.room;have hvl:=hv.length;have ku:=hu.length;rw [abG] at ku;obtain ⟨a1,c1,rfl⟩:=hl.shape;refine U 13 ?_;refine S.cd rfl (fun h11=>?_) fun h11=>?_
 ·exact absurd rfl ay
 ·refine U 7 ?_
  refine O.qa (q:=xss.length+12) ag.val (.p rfl) underlying28 mX rfl rfl rfl ai<|U 8 ?_;refine S.ev (ι:=Nat) (fun i=>i≤xss.length+12) (fun i=>[(6,.int .i64 (i:Int))]) [(1,_),(5,_)] (fun i=>[]) (fun i=>xss.length+12 - i) (0) aH aO aO rfl fun i hx ih=>?_;have aW:=bS (g:=g);refine U 8 ?_;refine S.cd rfl (fun gI=>?_) fun gI=>?_
  ·have hi:i<xss.length+12:=by omega
   refine U 4 ?_;refine S.aY (L:=.range 35) F.mixed af ?_;refine U 5 ?_
   refine ah.cs 27 rfl (fun hG=>?_) fun hG=>?_
   ·have hi2:i<xss.length:=by omega
    obtain ⟨a',c',hr',he',hA⟩:=YD (us:=us) hv i hi2 cw;have hrow:=hq xss[i] (List.getElem_mem hi2);refine ah.q 2 rfl<|ah.dI (hin) (h:=fun tW s4 jI j5=>?_);obtain ⟨rfl,_⟩:=j5;refine U 1 ?_;refine ah.slot 31 (v' :=.slice a' xss[i].length c') rfl (by exact he') ?_;refine ah.q 2 rfl<|ah.c7 (.g rfl rfl) underlying28 mX rfl rfl rfl bq (h:=fun A2 zJ tu ot=>?_);obtain ⟨aiA,rfl,Uu⟩:=ot;obtain ⟨ni,nq,rfl⟩:=Uu.shape;refine U 1 ?_;refine ah.v0 (.g rfl rfl) af rfl af rfl rfl ((KI hA bq ai)) ?_;refine ah.sT 36 rfl iu ?_;refine U 7 ?_;refine ah.aB 43 rfl cw ?_;refine U 23 ?_;exact S.cF (ih (i+1) ai ai)
   ·have hi2:xss.length≤i:=by omega
    have hA:=Y3 hvl hu i hi2 cw;refine U 16 ?_;refine ah.sT 43 rfl cw ?_;refine ah.q 3 rfl<|ah.dI (hin) (h:=fun wP vI lI nG=>?_);obtain ⟨rfl,_⟩:=nG;refine U 5 ?_;refine ah.aN (.g rfl rfl) af rfl af rfl rfl ((NX _ _)) ?_;rintro _ _ ⟨BQ,B9,rfl,rfl⟩;refine ah.s3 (.g rfl rfl) af rfl af rfl rfl ct (QK hA) ?_;rintro _ _ ⟨rfl,rfl⟩;refine ah.sT 54 rfl iu ?_;refine U 12 ?_;exact S.cF (ih (i+1) ai ai)
  ·refine U 5 ?_
   refine S.ret results135 rfl fun w hw=>hR _ _ w ?_ hw;exact ⟨rfl,rfl⟩
end Go.Proofs.YtdjoggpacmpfnaaGreatDoor
