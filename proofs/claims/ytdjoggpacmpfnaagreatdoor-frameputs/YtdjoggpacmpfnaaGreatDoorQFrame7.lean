/- Texts of this proof. -/
import Derived.Test.YtdjoggpacmpfnaaGreatDoorQRef8b
open Go Go.Sp Go.Proofs.Tryz
set_option maxRecDepth 100000
set_option maxHeartbeats 1000000
attribute [local irreducible] obj Own ak
namespace Go.Proofs.YtdjoggpacmpfnaaGreatDoor
theorem OS {r:Fr} {cs ds:List Value} {x y:aV} (h:bu.rel r cs x) (h' :bu.rel r ds y):aj prog 220 #[.agg cs.toArray,.agg ds.toArray] r [] (aF fun v aa=>v=.bool (decide (ko x y<0))∧aa=[]):=by
 obtain ⟨dM,je,iF,dN,jf,iG,rfl,k0,k1,k2,aI,cv,bV⟩:=bu.sh h;obtain ⟨oF,vo,vp,oG,vq,vr,rfl,H6,j1,j2,Xn,Xo,Xp⟩:=bu.sh h';have hc:=RM (a:=x) (b:=y);refine aj.o func220 fun g hg R hR=>?_;refine S.seq<|S.region rfl<|O.aD (.p rfl) (.box (cs:=[_,_,_,_,_,_,_]) rfl rfl) ?_;rintro _ _ ⟨b2,rfl,rfl⟩;refine O.aD (.p rfl) (.box (cs:=[_,_,_,_,_,_,_]) rfl rfl) ?_;rintro _ _ ⟨b3,rfl,rfl⟩;refine U 10 ?_
 refine O.cs 10 rfl (fun h10=>?_) fun h10=>?_
 ·refine O.q 14 rfl<|O.nil<|S.ret results220 rfl fun w hw=>ax.end_ hR hw ?_
  first|exact ⟨_,⟨congrArg _ (zdt (hc.2 ai)).symm,rfl⟩,aC⟩|exact ⟨_,⟨congrArg _ (aA (fun q=>absurd (hc.1 q) ai)).symm,rfl⟩,aC⟩|exact ⟨_,⟨congrArg _ (decide_eq_decide.2 (by rw [hc];omega)),rfl⟩,aC⟩
 ·refine U 6 ?_
  refine O.cs 16 rfl (fun jk=>?_) fun jk=>?_
  ·refine U 9 ?_
   refine S.ret results220 rfl fun w hw=>ax.end_ hR hw ?_
   first|exact ⟨_,⟨congrArg _ (zdt (hc.2 ai)).symm,rfl⟩,aC⟩|exact ⟨_,⟨congrArg _ (aA (fun q=>absurd (hc.1 q) ai)).symm,rfl⟩,aC⟩|exact ⟨_,⟨congrArg _ (decide_eq_decide.2 (by rw [hc];omega)),rfl⟩,aC⟩
  ·refine O.q 8 rfl<|O.nil<|S.ret results220 rfl fun w hw=>ax.end_ hR hw ?_
   first|exact ⟨_,⟨congrArg _ (zdt (hc.2 ai)).symm,rfl⟩,aC⟩|exact ⟨_,⟨congrArg _ (aA (fun q=>absurd (hc.1 q) ai)).symm,rfl⟩,aC⟩|exact ⟨_,⟨congrArg _ (decide_eq_decide.2 (by rw [hc];omega)),rfl⟩,aC⟩
theorem OT {r:Fr} {va:Value} {l:List aV} (ha:av bu r va l):aj prog 219 #[va] r [] (aF fun v aa=>v=.bool (hO l)∧aa=[]):=by
 have har:=ha;refine aj.o func219 fun g hg R hR=>?_;have ha:=ha.mono hg;have hbd:=ha.bound;obtain ⟨a1,c1,rfl⟩:=ha.shape;refine U 10 ?_;refine S.ev (ι:=Nat) (fun i=>i≤l.length∧hO (l.take i)=true) (fun i=>[(3,.int .i64 (i:Int))]) [(0,_)] (fun i=>[]) (fun i=>l.length - i) (0) sK aO aO rfl fun i hx ih=>?_;have aW:=bS (g:=g);obtain ⟨hx1,b8⟩:=hx;refine U 8 ?_;refine S.cd rfl (fun h7=>?_) fun h7=>?_
 ·have hi:i<l.length:=by omega
  have h0:0<l.length:=by omega
  have hst:=Zr hi b8
  cases e1:fF l[i] with
  |false =>
   have hno:hO l=false:=Ot (i:=i+1) (Bool.eq_false_iff.2 fun q=>by rw [e1] at hst;exact absurd (hst.1 q).1 aH);refine S.skip<|S.seq<|S.block<|S.seq<|S.aY (L:=.range 18) F.mixed af<|ah.q 2 rfl<|ah.ew har hg (h:=fun bL vH eS tC=>?_);have eZ:=ag.rel.mono tC hg;obtain ⟨lQ,lR,lS,lT,lU,lV,rfl,G2,G4,G7,hH,hJ,hM⟩:=bu.sh eZ;refine .quiet (.p rfl) rfl (fun _=>.aJ isAgg118 af rfl eS) ?_;refine ah.v0 (.p rfl) af rfl af rfl rfl ((wS eZ)) ?_;refine ah.aB 14 rfl (by exact e1) ?_;refine U 19 ?_;exact S.rt results219 rfl hR ⟨by rw [hno],rfl⟩
  |true =>
   by_cases e2:l[i].1=l[0].1
   ·
    refine S.skip<|S.seq<|S.block<|S.seq<|S.aY (L:=.range 18) F.mixed af<|ah.q 2 rfl<|ah.ew har hg (h:=fun bL vH eS tC=>?_);have eZ:=ag.rel.mono tC hg;obtain ⟨lQ,lR,lS,lT,lU,lV,rfl,G2,G4,G7,hH,hJ,hM⟩:=bu.sh eZ;refine .quiet (.p rfl) rfl (fun _=>.aJ isAgg118 af rfl eS) ?_;refine ah.v0 (.p rfl) af rfl af rfl rfl ((wS eZ)) ?_;refine ah.sT 14 rfl (by exact e1)<|U 4 ?_;refine ah.ew har hg (h:=fun e5 me gx iZ=>?_);have ee:=ag.rel.mono iZ hg;obtain ⟨DB,DC,DD,DE,DF,DG,rfl,rT,CZ,C0,CM,CO,CQ⟩:=bu.sh ee;refine U 2 ?_;refine ah.q 1 rfl<|ah.ib (.g rfl rfl) underlying36 oC rfl rfl (show _=(((0):Nat):Int) by omega) har hg (h:=fun fp nt jH lf=>?_);have fK:=ag.rel.mono lf hg;obtain ⟨Jq,Js,Ju,Jw,Jy,JA,rfl,v7,G6,G9,Gr,Gv,Gz⟩:=bu.sh fK;refine U 2 ?_;refine .quiet (.g rfl rfl) rfl (fun _=>.AQ rfl rfl)<|ah.aB 26 rfl (by simp [e2]) ?_;refine U 10 ?_;exact S.cF (ih (i+1) (by exact ⟨by omega,hst.2 ⟨e1,e2⟩⟩) ai)
   ·have hno:hO l=false:=Ot (i:=i+1) (Bool.eq_false_iff.2 fun q=>e2 (hst.1 q).2)
    refine S.skip<|S.seq<|S.block<|S.seq<|S.aY (L:=.range 18) F.mixed af<|ah.q 2 rfl<|ah.ew har hg (h:=fun bL vH eS tC=>?_);have eZ:=ag.rel.mono tC hg;obtain ⟨lQ,lR,lS,lT,lU,lV,rfl,G2,G4,G7,hH,hJ,hM⟩:=bu.sh eZ;refine .quiet (.p rfl) rfl (fun _=>.aJ isAgg118 af rfl eS) ?_;refine ah.v0 (.p rfl) af rfl af rfl rfl ((wS eZ)) ?_;refine ah.sT 14 rfl (by exact e1)<|U 4 ?_;refine ah.ew har hg (h:=fun e5 me gx iZ=>?_);have ee:=ag.rel.mono iZ hg;obtain ⟨DB,DC,DD,DE,DF,DG,rfl,rT,CZ,C0,CM,CO,CQ⟩:=bu.sh ee;refine U 2 ?_;refine ah.q 1 rfl<|ah.ib (.g rfl rfl) underlying36 oC rfl rfl (show _=(((0):Nat):Int) by omega) har hg (h:=fun fp nt jH lf=>?_);have fK:=ag.rel.mono lf hg;obtain ⟨Jq,Js,Ju,Jw,Jy,JA,rfl,v7,G6,G9,Gr,Gv,Gz⟩:=bu.sh fK;refine U 2 ?_;refine .quiet (.g rfl rfl) rfl (fun _=>.AQ rfl rfl)<|ah.sT 26 rfl (by simp [e2]) ?_;refine U 7 ?_;exact S.rt results219 rfl hR ⟨by rw [hno],rfl⟩
 ·clear ih
  have hi:i=l.length:=by omega
  subst hi;rw [List.take_length] at b8;refine U 5 ?_;exact S.rt results219 rfl hR ⟨by rw [b8],rfl⟩
theorem r5 {r:Fr} {va:Value} {l:List aV} (ha:av bu r va l):aj prog 125 #[va] r [] (aF fun v aa=>v=.bool (decide (ez l))∧aa=[]):=by
 have har:=ha;have hS:=QI (l:=l);refine aj.o func125 fun g hg R hR=>?_;have ha:=ha.mono hg;have hbd:=ha.bound;obtain ⟨a1,c1,rfl⟩:=ha.shape
 cases e0:hO l with
 |false =>
  refine U 8 ?_;refine O.v0 (.p rfl) rfl af rfl rfl ((OT ha)) ?_;refine O.aB 6 rfl (by exact e0)<|U 7 ?_;exact S.rt results125 rfl hR ⟨congrArg _ (aA fun q=>by rw [e0] at hS;exact absurd (hS.1 q).1 aH).symm,rfl⟩
 |true =>
  refine U 8 ?_;refine O.v0 (.p rfl) rfl af rfl rfl ((OT ha)) ?_;refine O.sT 6 rfl (by exact e0)<|U 10 ?_;refine S.ev (ι:=Nat) (fun i=>i≤l.length∧∀ j (h:j<l.length),j<i→(∀ h0:0<j,ko l[j-1] l[j]<0)∧∀ k (hk:k<l.length),over l[j] l[k]=false) (fun i=>[(3,.int .i64 (i:Int))]) [(0,_)] (fun i=>[]) (fun i=>l.length - i) (0) (by exact ⟨by simp,fun j h q=>absurd q ai⟩) aO aO rfl fun i hx ih=>?_;have aW:=bS (g:=g);obtain ⟨hx1,b8⟩:=hx;refine U 8 ?_;refine S.cd rfl (fun h11=>?_) fun h11=>?_
  ·have hi:i<l.length:=by omega
   by_cases c1:0<i∧∃ hk:i - 1<l.length,¬ ko l[i - 1] l[i]<0
   ·obtain ⟨c2,hk,c3⟩:=c1
    refine U 5 ?_;refine S.aY (L:=.range 15) F.mixed af ?_;refine U 2 ?_;refine ah.sT 15 rfl (by exact zdt ai)<|U 4 ?_;refine ah.ib (.g rfl rfl) underlying36 oC rfl rfl (show _=(((i - 1):Nat):Int) by omega) har hg (h:=fun gS Fw v9 HJ=>?_);have tw:=ag.rel.mono HJ hg;obtain ⟨aaN,aaT,aaZ,aa5,aa',abf,rfl,Vt,Vy,VE,Uw,UE,UJ⟩:=bu.sh tw;refine .quiet (.g rfl rfl) rfl (fun _=>.aJ isAgg118 af rfl v9) ?_;refine ah.q 2 rfl<|ah.ew har hg (h:=fun hY Fx Ap HL=>?_);have tA:=ag.rel.mono HL hg;obtain ⟨aaP,aaV,aa1,aa7,abb,abh,rfl,Vv,VA,VG,Ux,UF,UK⟩:=bu.sh tA;refine .quiet (.g rfl rfl) rfl (fun _=>.aJ isAgg118 af rfl Ap) ?_;refine ah.v0 (.g rfl rfl) af rfl af rfl rfl ((OS tw tA)) ?_;refine ah.aB 26 rfl (by exact aA c3)<|U 8 ?_;exact S.rt results125 rfl hR ⟨congrArg _ (aA fun q=>c3 (((hS.1 q).2 i hi).1 c2)).symm,rfl⟩
   ·have yf:∀ h0:0<i,ko l[i - 1] l[i]<0:=fun h0=>Classical.byContradiction fun q=>c1 ⟨h0,by omega,q⟩
    have hk:i - 1<l.length:=by omega
    refine U 5 ?_;refine S.qq (fun (u:Unit)=>True) (fun (u:Unit)=>[]) [(0,_),(3,_)] (fun (u:Unit)=>[]) aO (fun key=>?_) (fun u hx=>?_)
    ·have hm2:=bS (g:=g)
     by_cases c2:0<i
     ·
      refine S.aY (L:=.range 15) F.mixed af ?_;refine U 2 ?_;refine ah.sT 15 rfl (by exact zdt ai)<|U 4 ?_;refine ah.ib (.g rfl rfl) underlying36 oC rfl rfl (show _=(((i - 1):Nat):Int) by omega) har hg (h:=fun gS Fw v9 HJ=>?_);have tw:=ag.rel.mono HJ hg;obtain ⟨aaN,aaT,aaZ,aa5,aa',abf,rfl,Vt,Vy,VE,Uw,UE,UJ⟩:=bu.sh tw;refine .quiet (.g rfl rfl) rfl (fun _=>.aJ isAgg118 af rfl v9) ?_;refine ah.q 2 rfl<|ah.ew har hg (h:=fun hY Fx Ap HL=>?_);have tA:=ag.rel.mono HL hg;obtain ⟨aaP,aaV,aa1,aa7,abb,abh,rfl,Vv,VA,VG,Ux,UF,UK⟩:=bu.sh tA;refine .quiet (.g rfl rfl) rfl (fun _=>.aJ isAgg118 af rfl Ap) ?_;refine ah.v0 (.g rfl rfl) af rfl af rfl rfl ((OS tw tA)) ?_;refine ah.sT 26 rfl (by exact zdt (yf c2))<|U 5 ?_;refine S.pk ?_ (S.weaken ?_ (key (()) (by trivial)))
      ·exact aC
      repeat (first|exact Sub.nil|refine Sub.cons rfl ?_)
     ·
      refine S.aY (L:=.range 15) F.mixed af ?_;refine U 2 ?_;refine ah.aB 15 rfl (by exact aA ai)<|U 16 ?_;refine S.pk ?_ (S.weaken ?_ (key (()) (by trivial)))
      ·exact aC
      repeat (first|exact Sub.nil|refine Sub.cons rfl ?_)
    ·refine U 5 ?_
     refine S.ev (ι:=Nat) (fun k=>k≤l.length∧∀ j (h:j<l.length),j<k→over l[i] l[j]=false) (fun k=>[(4,.int .i64 (k:Int))]) [(0,_),(3,_)] (fun k=>[]) (fun k=>l.length - k) (0) (by exact ⟨by simp,fun j h q=>absurd q ai⟩) aO aO rfl fun k hx ih=>?_;have hm2:=bS (g:=g);obtain ⟨hy1,AD⟩:=hx;refine U 8 ?_;refine S.cd rfl (fun zX=>?_) fun zX=>?_
     ·have hkk:k<l.length:=by omega
      by_cases d1:i=k
      ·have WG:over l[i] l[k]=false:=by subst d1;exact over_self _
       refine U 4 ?_;refine S.aY (L:=.range 14) F.mixed af ?_;refine U 3 ?_;refine ah.aB 37 rfl (by exact aA ai)<|U 20 ?_;exact S.cF (ih (k+1) (by exact ⟨by omega,IG AD fun _=>WG⟩) ai)
      ·cases d2:over l[i] l[k] with
       |true =>
        refine U 4 ?_;refine S.aY (L:=.range 14) F.mixed af ?_;refine U 3 ?_;refine ah.sT 37 rfl (by exact zdt ai) ?_;refine ah.q 3 rfl<|ah.ew har hg (h:=fun OB Lx C4 Az=>?_);have wi:=ag.rel.mono Az hg;obtain ⟨aaQ,aaW,aa2,aa8,abc,abi,rfl,MQ,VB,VH,Uy,UG,UL⟩:=bu.sh wi;refine .quiet (.g rfl rfl) rfl (fun _=>.aJ isAgg118 af rfl C4) ?_;refine ah.q 2 rfl<|ah.ew har hg (h:=fun ZY R5 Hi HM=>?_);have Aw:=ag.rel.mono HM hg;obtain ⟨aaR,aaX,aa3,aa9,abd,abj,rfl,Vw,VC,VI,Uz,UH,UM⟩:=bu.sh Aw;refine .quiet (.g rfl rfl) rfl (fun _=>.aJ isAgg118 af rfl Hi) ?_;refine ah.v0 (.g rfl rfl) af rfl af rfl rfl ((OQ wi Aw)) ?_;refine ah.sT 47 rfl (by exact d2)<|U 7 ?_;exact S.rt results125 rfl hR ⟨congrArg _ (aA fun q=>by rw [((hS.1 q).2 i hi).2 k hkk] at d2;cases d2).symm,rfl⟩
       |false =>
        refine U 4 ?_;refine S.aY (L:=.range 14) F.mixed af ?_;refine U 3 ?_;refine ah.sT 37 rfl (by exact zdt ai) ?_;refine ah.q 3 rfl<|ah.ew har hg (h:=fun OB Lx C4 Az=>?_);have wi:=ag.rel.mono Az hg;obtain ⟨aaQ,aaW,aa2,aa8,abc,abi,rfl,MQ,VB,VH,Uy,UG,UL⟩:=bu.sh wi;refine .quiet (.g rfl rfl) rfl (fun _=>.aJ isAgg118 af rfl C4) ?_;refine ah.q 2 rfl<|ah.ew har hg (h:=fun ZY R5 Hi HM=>?_);have Aw:=ag.rel.mono HM hg;obtain ⟨aaR,aaX,aa3,aa9,abd,abj,rfl,Vw,VC,VI,Uz,UH,UM⟩:=bu.sh Aw;refine .quiet (.g rfl rfl) rfl (fun _=>.aJ isAgg118 af rfl Hi) ?_;refine ah.v0 (.g rfl rfl) af rfl af rfl rfl ((OQ wi Aw)) ?_;refine ah.aB 47 rfl (by exact d2)<|U 10 ?_;exact S.cF (ih (k+1) (by exact ⟨by omega,IG AD fun _=>d2⟩) ai)
     ·clear ih
      have hkk:k=l.length:=by omega
      refine U 7 ?_;exact S.cF (ih (i+1) (by exact ⟨by omega,IG b8 fun _=>⟨yf,fun k hk=>AD k hk ai⟩⟩) ai)
  ·clear ih
   have hi:i=l.length:=by omega
   subst hi;refine U 5 ?_;exact S.rt results125 rfl hR ⟨congrArg _ (zdt (hS.2 ⟨e0,fun j h=>b8 j h h⟩)).symm,rfl⟩
theorem OU {r:Fr} {s:List UInt8} {va:Value} {xs:List aV} (ha:av bu r va xs) (hl:xs.length≤1000000000):aj prog 262 #[.string (str s),va] r [] (aF fun v aa=>v=.bool (decide (ow s xs))∧aa=[]):=by
 obtain ⟨a1,c1,rfl⟩:=ha.shape;refine aj.o func262 fun g hg R hR=>?_;have ha:=ha.mono hg
 by_cases h1:ez xs
 ·by_cases h2:0<xs.length
  ·by_cases h3:xs[0].1=s
   ·have e:decide (ow s xs)=true:=zdt ⟨h1,fun _=>h3⟩
    refine U 8 ?_;refine O.v0 (.p rfl) rfl af rfl rfl ((r5 ha)) ?_;refine O.sT 6 rfl (by exact zdt h1)<|U 9 ?_;refine O.aB 10 rfl (by exact aA ai) ?_;refine O.q 2 rfl<|O.c7 (.g rfl rfl) underlying36 oC rfl rfl (show _=(((0):Nat):Int) by omega) bq (h:=fun Du Cj C2 tv=>?_);obtain ⟨Jp,Jr,Jt,Jv,Jx,Jz,rfl,G3,G5,G8,Gp,Gt,Gx⟩:=bu.sh tv;refine U 2 ?_;refine O.q 1 rfl<|O.op (.g rfl rfl) (.e4 rfl rfl)<|O.sT 17 rfl (by rw [h3];simp)<|U 3 ?_;exact S.rt results262 rfl hR ⟨congrArg Value.bool e.symm,rfl⟩
   ·have e:decide (ow s xs)=false:=aA fun h=>h3 (h.2 h2)
    refine U 8 ?_;refine O.v0 (.p rfl) rfl af rfl rfl ((r5 ha)) ?_;refine O.sT 6 rfl (by exact zdt h1)<|U 9 ?_;refine O.aB 10 rfl (by exact aA ai) ?_;refine O.q 2 rfl<|O.c7 (.g rfl rfl) underlying36 oC rfl rfl (show _=(((0):Nat):Int) by omega) bq (h:=fun Du Cj C2 tv=>?_);obtain ⟨Jp,Jr,Jt,Jv,Jx,Jz,rfl,G3,G5,G8,Gp,Gt,Gx⟩:=bu.sh tv;refine U 2 ?_;refine O.q 1 rfl<|O.op (.g rfl rfl) (.e4 rfl rfl)<|O.aB 17 rfl (by exact aA (fun q=>h3 (eO q))) ?_;refine U 3 ?_;exact S.rt results262 rfl hR ⟨congrArg Value.bool e.symm,rfl⟩
  ·have e:decide (ow s xs)=true:=zdt ⟨h1,fun h=>absurd h h2⟩
   refine U 8 ?_;refine O.v0 (.p rfl) rfl af rfl rfl ((r5 ha)) ?_;refine O.sT 6 rfl (by exact zdt h1)<|U 9 ?_;refine O.sT 10 rfl (by exact zdt ai)<|U 10 ?_;exact S.rt results262 rfl hR ⟨congrArg Value.bool e.symm,rfl⟩
 ·have e:decide (ow s xs)=false:=aA fun h=>h1 h.1
  refine U 8 ?_;refine O.v0 (.p rfl) rfl af rfl rfl ((r5 ha)) ?_;refine O.aB 6 rfl (by exact aA h1)<|U 7 ?_;exact S.rt results262 rfl hR ⟨congrArg Value.bool e.symm,rfl⟩
noncomputable instance (x:eL):Decidable (lM x):=Classical.propDecidable _
theorem DL {r:Fr} {cs:List Value} {x:eL} (h:dJ.rel r cs x) (hl:x.2.1.length≤1000000000):aj prog 217 #[.agg cs.toArray] r [] (aF fun v aa=>v=.bool (decide (lM x))∧aa=[]):=by
 obtain ⟨l1,m1,rfl,l2,l3⟩:=dJ.sh h;refine aj.o func217 fun g hg R hR=>?_;have l3:=l3.mono hg;refine S.seq<|S.region rfl<|O.aD (.p rfl) (.box (cs:=[_,_]) rfl rfl) ?_;rintro _ _ ⟨b1,rfl,rfl⟩;refine U 3 ?_;refine S.cH (b:=b1) (cs' :=[.string (str x.1),.slice l1 x.2.1.length m1]) an rfl ?_;refine S.cy an fun g hs hm h1=>?_;replace hg:=bf hg hs;replace hR:=a_ hR hm
 try replace l3:=l3.mono hs
 clear hs hm
 by_cases q1:1≤x.1.length
 ·by_cases bg:x.1.length≤64
  ·by_cases ei:0<x.2.1.length
   ·by_cases jt:ow x.1 x.2.1
    ·have e:decide (lM x)=true:=zdt (tM.2 ⟨⟨q1,bg⟩,ei,jt⟩)
     refine U 5 ?_;refine O.sT 6 rfl (by exact zdt cw)<|U 5 ?_;refine O.sT 11 rfl (by exact zdt cw)<|U 6 ?_;refine O.sT 17 rfl (by exact zdt ai)<|U 6 ?_;refine O.v0 (.g rfl rfl) rfl af rfl rfl ((OU l3 hl)) ?_;refine O.sT 24 rfl (by exact zdt jt)<|U 3 ?_;exact S.rt results217 rfl hR ⟨congrArg Value.bool e.symm,rfl⟩
    ·have e:decide (lM x)=false:=aA fun w=>jt (tM.1 w).2.2
     refine U 5 ?_;refine O.sT 6 rfl (by exact zdt cw)<|U 5 ?_;refine O.sT 11 rfl (by exact zdt cw)<|U 6 ?_;refine O.sT 17 rfl (by exact zdt ai)<|U 6 ?_;refine O.v0 (.g rfl rfl) rfl af rfl rfl ((OU l3 hl)) ?_;refine O.aB 24 rfl (by exact aA jt)<|U 3 ?_;exact S.rt results217 rfl hR ⟨congrArg Value.bool e.symm,rfl⟩
   ·have e:decide (lM x)=false:=aA fun w=>ei (tM.1 w).2.1
    refine U 5 ?_;refine O.sT 6 rfl (by exact zdt cw)<|U 5 ?_;refine O.sT 11 rfl (by exact zdt cw)<|U 6 ?_;refine O.aB 17 rfl (by exact aA ai)<|U 10 ?_;exact S.rt results217 rfl hR ⟨congrArg Value.bool e.symm,rfl⟩
  ·have e:decide (lM x)=false:=aA fun w=>bg (tM.1 w).1.2
   refine U 5 ?_;refine O.sT 6 rfl (by exact zdt cw)<|U 5 ?_;refine O.aB 11 rfl (by exact aA cw)<|U 16 ?_;exact S.rt results217 rfl hR ⟨congrArg Value.bool e.symm,rfl⟩
 ·have e:decide (lM x)=false:=aA fun w=>q1 (tM.1 w).1.1
  refine U 5 ?_;refine O.aB 6 rfl (by exact aA cw)<|U 21 ?_;exact S.rt results217 rfl hR ⟨congrArg Value.bool e.symm,rfl⟩
theorem OK {r:Fr} {cs:List Value} {x:eY} (h:fj.rel r cs x) (b8:∀ y∈x.2.2.2.1,y.2.1.length≤1000000000):aj prog 121 #[.agg cs.toArray] r [] (aF fun v aa=>v=.bool (decide (gA x))∧aa=[]):=by
 obtain ⟨a1,a2,a3,c1,c2,c3,rfl,k1,k2,aI⟩:=fj.sh h;refine aj.o func121 fun g hg R hR=>?_;have k1:=k1.mono hg;have k2:=k2.mono hg;have aI:=aI.mono hg;have hb:=aI.bound;have cK:=k1.bound;have mM:=k2.bound;refine S.seq<|S.region rfl<|O.aD (.p rfl) (.box (cs:=[_,_,_,_]) rfl rfl) ?_;rintro _ _ ⟨b1,rfl,rfl⟩;refine U 4 ?_;refine S.cH (b:=b1) (cs' :=[aT x.1,.slice a1 x.2.1.length c1,.slice a2 x.2.2.1.length c2,.slice a3 x.2.2.2.1.length c3]) an rfl ?_;refine S.cy an fun g hs hm h1=>?_;replace hg:=bf hg hs;replace hR:=a_ hR hm
 try replace k1:=k1.mono hs
 try replace k2:=k2.mono hs
 try replace aI:=aI.mono hs
 clear hs hm;refine U 4 ?_;refine S.ev (ι:=Nat) (fun k=>k≤x.2.2.2.1.length∧vv x k) (fun k=>[(3,.int .i64 (k:Int))]) [(1,_)] (fun k=>[]) (fun k=>x.2.2.2.1.length - k) (0) (by exact ⟨by omega,fun i q w=>by omega⟩) aO aO rfl fun k hx ih=>?_;have aW:=bS (g:=g);obtain ⟨hx1,hall⟩:=hx;refine U 9 ?_;refine S.cd rfl (fun h9=>?_) fun h9=>?_
 ·have hk:k<x.2.2.2.1.length:=by omega
  have pU:=b8 _ (List.getElem_mem hk)
  by_cases q1:lM x.2.2.2.1[k]
  ·by_cases jt:0<k
   ·by_cases h_:(x.2.2.2.1[k - 1]'ai).1<x.2.2.2.1[k].1
    ·
     refine U 4 ?_;refine S.aY (L:=.range 27) F.mixed af ?_;refine U 2 ?_;refine ah.q 1 rfl<|ah.dI (aI) (h:=fun bP zH lH ld=>?_);obtain ⟨l1,m1,rfl,l2,l3⟩:=dJ.sh ld;refine .quiet (.p rfl) rfl (fun _=>.aJ isAgg120 af rfl lH) ?_;refine ah.v0 (.p rfl) af rfl af rfl rfl ((DL ld pU)) ?_;refine ah.sT 17 rfl (by exact zdt q1)<|U 4 ?_;refine ah.sT 21 rfl (by exact zdt ai)<|U 5 ?_;refine ah.slot 26 (v' :=.int .i64 ((k - 1:Nat):Int)) rfl (by exact congrArg (Value.int .i64) ai) ?_;refine ah.c7 (.g rfl rfl) underlying33 sg rfl rfl (show _=(((k-1):Nat):Int) by omega) (aI) (h:=fun bX Fy v_ wg=>?_);obtain ⟨u1,w1,rfl, -, -⟩:=dJ.sh wg;refine U 4 ?_;refine ah.q 1 rfl<|ah.c7 (.g rfl rfl) underlying33 sg rfl rfl (show _=(((k):Nat):Int) by omega) (aI) (h:=fun A1 zI Aq qN=>?_);obtain ⟨sk,w3,rfl, -, -⟩:=dJ.sh qN;refine U 2 ?_;refine .quiet (.g rfl rfl) rfl (fun _=>.uL rfl rfl)<|ah.aB 36 rfl (by exact CH h_) ?_;refine U 11 ?_;exact S.cF (ih (k+1) (by exact ⟨by omega,hall.step hk q1 fun _=>h_⟩) ai)
    ·have e:=Ok hk jt h_
     refine U 4 ?_;refine S.aY (L:=.range 27) F.mixed af ?_;refine U 2 ?_;refine ah.q 1 rfl<|ah.dI (aI) (h:=fun bP zH lH ld=>?_);obtain ⟨l1,m1,rfl,l2,l3⟩:=dJ.sh ld;refine .quiet (.p rfl) rfl (fun _=>.aJ isAgg120 af rfl lH) ?_;refine ah.v0 (.p rfl) af rfl af rfl rfl ((DL ld pU)) ?_;refine ah.sT 17 rfl (by exact zdt q1)<|U 4 ?_;refine ah.sT 21 rfl (by exact zdt ai)<|U 5 ?_;refine ah.slot 26 (v' :=.int .i64 ((k - 1:Nat):Int)) rfl (by exact congrArg (Value.int .i64) ai) ?_;refine ah.c7 (.g rfl rfl) underlying33 sg rfl rfl (show _=(((k-1):Nat):Int) by omega) (aI) (h:=fun bX Fy v_ wg=>?_);obtain ⟨u1,w1,rfl, -, -⟩:=dJ.sh wg;refine U 4 ?_;refine ah.q 1 rfl<|ah.c7 (.g rfl rfl) underlying33 sg rfl rfl (show _=(((k):Nat):Int) by omega) (aI) (h:=fun A1 zI Aq qN=>?_);obtain ⟨sk,w3,rfl, -, -⟩:=dJ.sh qN;refine U 2 ?_;refine .quiet (.g rfl rfl) rfl (fun _=>.uL rfl rfl)<|ah.sT 36 rfl (by exact CI h_) ?_;refine U 8 ?_;exact S.rt results121 rfl hR ⟨congrArg Value.bool e.symm,rfl⟩
   ·
    refine U 4 ?_;refine S.aY (L:=.range 27) F.mixed af ?_;refine U 2 ?_;refine ah.q 1 rfl<|ah.dI (aI) (h:=fun bP zH lH ld=>?_);obtain ⟨l1,m1,rfl,l2,l3⟩:=dJ.sh ld;refine .quiet (.p rfl) rfl (fun _=>.aJ isAgg120 af rfl lH) ?_;refine ah.v0 (.p rfl) af rfl af rfl rfl ((DL ld pU)) ?_;refine ah.sT 17 rfl (by exact zdt q1)<|U 4 ?_;refine ah.aB 21 rfl (by exact aA ai)<|U 26 ?_;exact S.cF (ih (k+1) (by exact ⟨by omega,hall.step hk q1 fun w=>absurd w jt⟩) ai)
  ·have e:=Dm hk q1
   refine U 4 ?_;refine S.aY (L:=.range 27) F.mixed af ?_;refine U 2 ?_;refine ah.q 1 rfl<|ah.dI (aI) (h:=fun bP zH lH ld=>?_);obtain ⟨l1,m1,rfl,l2,l3⟩:=dJ.sh ld;refine .quiet (.p rfl) rfl (fun _=>.aJ isAgg120 af rfl lH) ?_;refine ah.v0 (.p rfl) af rfl af rfl rfl ((DL ld pU)) ?_;refine ah.aB 17 rfl (by exact aA q1)<|U 27 ?_;exact S.rt results121 rfl hR ⟨congrArg Value.bool e.symm,rfl⟩
 ·clear ih
  have hk:k=x.2.2.2.1.length:=by omega
  subst hk;have aR:=hall.all
  by_cases e:x.1=1
  ·
   refine U 8 ?_
   refine O.cs 43 rfl (fun qD=>?_) fun qD=>?_
   ·refine U 17 ?_
    refine O.sT 52 rfl (by rw [e];rfl)<|U 7 ?_
    refine O.cs 54 rfl (fun Ga=>?_) fun Ga=>?_
    ·refine U 7 ?_
     refine S.ret results121 rfl fun w hw=>ax.end_ hR hw ?_
     first|exact ⟨_,⟨congrArg _ (aA (fun w=>by have:=(eU aR e).1 w;omega)).symm,rfl⟩,aC⟩|exact ⟨_,⟨congrArg _ (zdt ((eU aR e).2 ai)).symm,rfl⟩,aC⟩|exact ⟨_,⟨congrArg _ (decide_eq_decide.2 ⟨fun h=>(eU aR e).2 ai,fun h=>by have:=(eU aR e).1 h;omega⟩),rfl⟩,aC⟩
    ·refine O.q 6 rfl<|O.nil<|S.ret results121 rfl fun w hw=>ax.end_ hR hw ?_
     first|exact ⟨_,⟨congrArg _ (aA (fun w=>by have:=(eU aR e).1 w;omega)).symm,rfl⟩,aC⟩|exact ⟨_,⟨congrArg _ (zdt ((eU aR e).2 ai)).symm,rfl⟩,aC⟩|exact ⟨_,⟨congrArg _ (decide_eq_decide.2 ⟨fun h=>(eU aR e).2 ai,fun h=>by have:=(eU aR e).1 h;omega⟩),rfl⟩,aC⟩
   ·refine U 17 ?_
    refine O.sT 52 rfl (by rw [e];rfl)<|U 14 ?_;refine S.ret results121 rfl fun w hw=>ax.end_ hR hw ?_
    first|exact ⟨_,⟨congrArg _ (aA (fun w=>by have:=(eU aR e).1 w;omega)).symm,rfl⟩,aC⟩|exact ⟨_,⟨congrArg _ (zdt ((eU aR e).2 ai)).symm,rfl⟩,aC⟩|exact ⟨_,⟨congrArg _ (decide_eq_decide.2 ⟨fun h=>(eU aR e).2 ai,fun h=>by have:=(eU aR e).1 h;omega⟩),rfl⟩,aC⟩
  ·have n1:=e
   by_cases e:x.1=2
   ·
    refine U 8 ?_
    refine O.cs 43 rfl (fun qD=>?_) fun qD=>?_
    ·refine U 17 ?_
     refine O.aB 52 rfl (by exact aA fun w=>n1 (fk (b:=1).1 w)) ?_;refine U 6 ?_;refine O.sT 61 rfl (by rw [e];rfl)<|U 7 ?_
     refine O.cs 63 rfl (fun h63=>?_) fun h63=>?_
     ·refine U 7 ?_
      refine S.ret results121 rfl fun w hw=>ax.end_ hR hw ?_
      first|exact ⟨_,⟨congrArg _ (aA (fun w=>by have:=(eV aR e).1 w;omega)).symm,rfl⟩,aC⟩|exact ⟨_,⟨congrArg _ (zdt ((eV aR e).2 ai)).symm,rfl⟩,aC⟩|exact ⟨_,⟨congrArg _ (decide_eq_decide.2 ⟨fun h=>(eV aR e).2 ai,fun h=>by have:=(eV aR e).1 h;omega⟩),rfl⟩,aC⟩
     ·refine O.q 6 rfl<|O.nil<|S.ret results121 rfl fun w hw=>ax.end_ hR hw ?_
      first|exact ⟨_,⟨congrArg _ (aA (fun w=>by have:=(eV aR e).1 w;omega)).symm,rfl⟩,aC⟩|exact ⟨_,⟨congrArg _ (zdt ((eV aR e).2 ai)).symm,rfl⟩,aC⟩|exact ⟨_,⟨congrArg _ (decide_eq_decide.2 ⟨fun h=>(eV aR e).2 ai,fun h=>by have:=(eV aR e).1 h;omega⟩),rfl⟩,aC⟩
    ·refine U 17 ?_
     refine O.aB 52 rfl (by exact aA fun w=>n1 (fk (b:=1).1 w)) ?_;refine U 6 ?_;refine O.sT 61 rfl (by rw [e];rfl)<|U 14 ?_;refine S.ret results121 rfl fun w hw=>ax.end_ hR hw ?_
     first|exact ⟨_,⟨congrArg _ (aA (fun w=>by have:=(eV aR e).1 w;omega)).symm,rfl⟩,aC⟩|exact ⟨_,⟨congrArg _ (zdt ((eV aR e).2 ai)).symm,rfl⟩,aC⟩|exact ⟨_,⟨congrArg _ (decide_eq_decide.2 ⟨fun h=>(eV aR e).2 ai,fun h=>by have:=(eV aR e).1 h;omega⟩),rfl⟩,aC⟩
   ·have n2:=e
    by_cases e:x.1=3
    ·
     refine U 8 ?_
     refine O.cs 43 rfl (fun qD=>?_) fun qD=>?_
     ·refine U 17 ?_
      refine O.aB 52 rfl (by exact aA fun w=>n1 (fk (b:=1).1 w)) ?_;refine U 6 ?_;refine O.aB 61 rfl (by exact aA fun w=>n2 (fk (b:=2).1 w)) ?_;refine U 6 ?_;refine O.sT 70 rfl (by rw [e];rfl)<|U 10 ?_
      refine O.cs 75 rfl (fun Gd=>?_) fun Gd=>?_
      ·refine U 6 ?_
       refine O.cs 81 rfl (fun Gf=>?_) fun Gf=>?_
       ·refine U 7 ?_
        refine S.ret results121 rfl fun w hw=>ax.end_ hR hw ?_
        first|exact ⟨_,⟨congrArg _ (aA (fun w=>by have:=(fO aR e).1 w;omega)).symm,rfl⟩,aC⟩|exact ⟨_,⟨congrArg _ (zdt ((fO aR e).2 ai)).symm,rfl⟩,aC⟩|exact ⟨_,⟨congrArg _ (decide_eq_decide.2 ⟨fun h=>(fO aR e).2 ai,fun h=>by have:=(fO aR e).1 h;omega⟩),rfl⟩,aC⟩
       ·refine O.q 6 rfl<|O.nil<|S.ret results121 rfl fun w hw=>ax.end_ hR hw ?_
        first|exact ⟨_,⟨congrArg _ (aA (fun w=>by have:=(fO aR e).1 w;omega)).symm,rfl⟩,aC⟩|exact ⟨_,⟨congrArg _ (zdt ((fO aR e).2 ai)).symm,rfl⟩,aC⟩|exact ⟨_,⟨congrArg _ (decide_eq_decide.2 ⟨fun h=>(fO aR e).2 ai,fun h=>by have:=(fO aR e).1 h;omega⟩),rfl⟩,aC⟩
      ·refine O.q 12 rfl<|O.nil<|S.ret results121 rfl fun w hw=>ax.end_ hR hw ?_
       first|exact ⟨_,⟨congrArg _ (aA (fun w=>by have:=(fO aR e).1 w;omega)).symm,rfl⟩,aC⟩|exact ⟨_,⟨congrArg _ (zdt ((fO aR e).2 ai)).symm,rfl⟩,aC⟩|exact ⟨_,⟨congrArg _ (decide_eq_decide.2 ⟨fun h=>(fO aR e).2 ai,fun h=>by have:=(fO aR e).1 h;omega⟩),rfl⟩,aC⟩
     ·refine U 17 ?_
      refine O.aB 52 rfl (by exact aA fun w=>n1 (fk (b:=1).1 w)) ?_;refine U 6 ?_;refine O.aB 61 rfl (by exact aA fun w=>n2 (fk (b:=2).1 w)) ?_;refine U 6 ?_;refine O.sT 70 rfl (by rw [e];rfl)<|U 10 ?_
      refine O.cs 75 rfl (fun Gd=>?_) fun Gd=>?_
      ·refine U 6 ?_
       refine O.cs 81 rfl (fun Gf=>?_) fun Gf=>?_
       ·refine U 7 ?_
        refine S.ret results121 rfl fun w hw=>ax.end_ hR hw ?_
        first|exact ⟨_,⟨congrArg _ (aA (fun w=>by have:=(fO aR e).1 w;omega)).symm,rfl⟩,aC⟩|exact ⟨_,⟨congrArg _ (zdt ((fO aR e).2 ai)).symm,rfl⟩,aC⟩|exact ⟨_,⟨congrArg _ (decide_eq_decide.2 ⟨fun h=>(fO aR e).2 ai,fun h=>by have:=(fO aR e).1 h;omega⟩),rfl⟩,aC⟩
       ·refine O.q 6 rfl<|O.nil<|S.ret results121 rfl fun w hw=>ax.end_ hR hw ?_
        first|exact ⟨_,⟨congrArg _ (aA (fun w=>by have:=(fO aR e).1 w;omega)).symm,rfl⟩,aC⟩|exact ⟨_,⟨congrArg _ (zdt ((fO aR e).2 ai)).symm,rfl⟩,aC⟩|exact ⟨_,⟨congrArg _ (decide_eq_decide.2 ⟨fun h=>(fO aR e).2 ai,fun h=>by have:=(fO aR e).1 h;omega⟩),rfl⟩,aC⟩
      ·refine O.q 12 rfl<|O.nil<|S.ret results121 rfl fun w hw=>ax.end_ hR hw ?_
       first|exact ⟨_,⟨congrArg _ (aA (fun w=>by have:=(fO aR e).1 w;omega)).symm,rfl⟩,aC⟩|exact ⟨_,⟨congrArg _ (zdt ((fO aR e).2 ai)).symm,rfl⟩,aC⟩|exact ⟨_,⟨congrArg _ (decide_eq_decide.2 ⟨fun h=>(fO aR e).2 ai,fun h=>by have:=(fO aR e).1 h;omega⟩),rfl⟩,aC⟩
    ·have eC:=e
     by_cases e:x.1=4
     ·
      refine U 8 ?_
      refine O.cs 43 rfl (fun qD=>?_) fun qD=>?_
      ·refine U 17 ?_
       refine O.aB 52 rfl (by exact aA fun w=>n1 (fk (b:=1).1 w)) ?_;refine U 6 ?_;refine O.aB 61 rfl (by exact aA fun w=>n2 (fk (b:=2).1 w)) ?_;refine U 6 ?_;refine O.aB 70 rfl (by exact aA fun w=>eC (fk (b:=3).1 w)) ?_;refine U 6 ?_;refine O.sT 88 rfl (by rw [e];rfl)<|U 7 ?_
       refine O.cs 90 rfl (fun Ue=>?_) fun Ue=>?_
       ·refine U 7 ?_
        refine S.ret results121 rfl fun w hw=>ax.end_ hR hw ?_
        first|exact ⟨_,⟨congrArg _ (aA (fun w=>by have:=(eW aR e).1 w;omega)).symm,rfl⟩,aC⟩|exact ⟨_,⟨congrArg _ (zdt ((eW aR e).2 ai)).symm,rfl⟩,aC⟩|exact ⟨_,⟨congrArg _ (decide_eq_decide.2 ⟨fun h=>(eW aR e).2 ai,fun h=>by have:=(eW aR e).1 h;omega⟩),rfl⟩,aC⟩
       ·refine O.q 6 rfl<|O.nil<|S.ret results121 rfl fun w hw=>ax.end_ hR hw ?_
        first|exact ⟨_,⟨congrArg _ (aA (fun w=>by have:=(eW aR e).1 w;omega)).symm,rfl⟩,aC⟩|exact ⟨_,⟨congrArg _ (zdt ((eW aR e).2 ai)).symm,rfl⟩,aC⟩|exact ⟨_,⟨congrArg _ (decide_eq_decide.2 ⟨fun h=>(eW aR e).2 ai,fun h=>by have:=(eW aR e).1 h;omega⟩),rfl⟩,aC⟩
      ·refine U 17 ?_
       refine O.aB 52 rfl (by exact aA fun w=>n1 (fk (b:=1).1 w)) ?_;refine U 6 ?_;refine O.aB 61 rfl (by exact aA fun w=>n2 (fk (b:=2).1 w)) ?_;refine U 6 ?_;refine O.aB 70 rfl (by exact aA fun w=>eC (fk (b:=3).1 w)) ?_;refine U 6 ?_;refine O.sT 88 rfl (by rw [e];rfl)<|U 14 ?_;refine S.ret results121 rfl fun w hw=>ax.end_ hR hw ?_
       first|exact ⟨_,⟨congrArg _ (aA (fun w=>by have:=(eW aR e).1 w;omega)).symm,rfl⟩,aC⟩|exact ⟨_,⟨congrArg _ (zdt ((eW aR e).2 ai)).symm,rfl⟩,aC⟩|exact ⟨_,⟨congrArg _ (decide_eq_decide.2 ⟨fun h=>(eW aR e).2 ai,fun h=>by have:=(eW aR e).1 h;omega⟩),rfl⟩,aC⟩
     ·have fy:=e
      have e:=Oe n1 n2 eC fy;refine U 8 ?_
      refine O.cs 43 rfl (fun qD=>?_) fun qD=>?_
      ·refine U 17 ?_
       refine O.aB 52 rfl (by exact aA fun w=>n1 (fk (b:=1).1 w)) ?_;refine U 6 ?_;refine O.aB 61 rfl (by exact aA fun w=>n2 (fk (b:=2).1 w)) ?_;refine U 6 ?_;refine O.aB 70 rfl (by exact aA fun w=>eC (fk (b:=3).1 w)) ?_;refine U 6 ?_;refine O.aB 88 rfl (by exact aA fun w=>fy (fk (b:=4).1 w)) ?_;refine U 9 ?_;refine S.ret results121 rfl fun w hw=>ax.end_ hR hw ?_
       first|exact ⟨_,⟨congrArg _ (aA e).symm,rfl⟩,aC⟩
      ·refine U 17 ?_
       refine O.aB 52 rfl (by exact aA fun w=>n1 (fk (b:=1).1 w)) ?_;refine U 6 ?_;refine O.aB 61 rfl (by exact aA fun w=>n2 (fk (b:=2).1 w)) ?_;refine U 6 ?_;refine O.aB 70 rfl (by exact aA fun w=>eC (fk (b:=3).1 w)) ?_;refine U 6 ?_;refine O.aB 88 rfl (by exact aA fun w=>fy (fk (b:=4).1 w)) ?_;refine U 9 ?_;refine S.ret results121 rfl fun w hw=>ax.end_ hR hw ?_
       first|exact ⟨_,⟨congrArg _ (aA e).symm,rfl⟩,aC⟩
def BL (x:fT) (i:Nat):Prop:=∀ j (q:j<x.1.length),j<i→x.1[j].length=64
theorem BL.step {x:fT} {i:Nat} (hi:i<x.1.length) (h:BL x i) (q:x.1[i].length=64):BL x (i+1):=fun j q' w=>by
 rcases Nat.lt_or_ge j i with w' |w'
 ·exact h j q' w'
 ·have:j=i:=by omega
  subst this;exact q
theorem acD {n:fT} {i:Nat} (h:i<n.1.length) (q:n.1[i].length≠64):decide (js n)=false:=aA fun w=>q (w.2.1 _ (List.getElem_mem h))
theorem A7 {r:Fr} {cs:List Value} {x:fT} (h:fB.rel r cs x):aj prog 124 #[.agg cs.toArray] r [] (aF fun v aa=>v=.bool (decide (js x))∧aa=[]):=by
 obtain ⟨a0,a1,c0,c1,rfl,k0,k1⟩:=fB.sh h;refine aj.o func124 fun g hg R hR=>?_;have k0:=k0.mono hg;have k1:=k1.mono hg;have hb:=k0.bound;have cK:=k1.bound;refine S.seq<|S.region rfl<|O.aD (.p rfl) (.box (cs:=[_,_]) rfl rfl) ?_;rintro _ _ ⟨b1,rfl,rfl⟩;refine U 4 ?_;refine S.cH (b:=b1) (cs' :=[.slice a0 x.1.length c0,.slice a1 x.2.1.length c1]) an rfl ?_;refine S.cy an fun g hs hm h1=>?_;replace hg:=bf hg hs;replace hR:=a_ hR hm
 try replace k0:=k0.mono hs
 try replace k1:=k1.mono hs
 clear hs hm
 by_cases f:x.1.length≤510∧(1<x.2.1.length→x.1.length=510)
 ·
  refine S.qq (fun (u:Unit)=>True) (fun (u:Unit)=>[]) [(1,_)] (fun (u:Unit)=>[]) aO (fun key=>?_) (fun u hx=>?_)
  ·have aW:=bS (g:=g)
   by_cases f2:x.2.1.length>1
   ·have f3:=f.2 f2
    refine U 5 ?_;refine O.aB 9 rfl (by exact aA ai)<|U 5 ?_;refine O.sT 14 rfl (by exact zdt ai)<|U 5 ?_;refine O.aB 19 rfl (by exact aA ai)<|U 5 ?_;refine S.pk ?_ (S.weaken ?_ (key (()) (by trivial)))
    ·exact aC
    repeat (first|exact Sub.nil|refine Sub.cons rfl ?_)
   ·
    refine U 5 ?_;refine O.aB 9 rfl (by exact aA ai)<|U 5 ?_;refine O.aB 14 rfl (by exact aA ai)<|U 10 ?_;refine S.pk ?_ (S.weaken ?_ (key (()) (by trivial)))
    ·exact aC
    repeat (first|exact Sub.nil|refine Sub.cons rfl ?_)
  ·
   refine U 6 ?_;refine S.ev (ι:=Nat) (fun i=>i≤x.1.length∧BL x i) (fun i=>[(3,.int .i64 (i:Int))]) [(1,_)] (fun i=>[]) (fun i=>x.1.length - i) (0) (by exact ⟨by omega,fun j q w=>by omega⟩) aO aO rfl fun i hx ih=>?_;have aW:=bS (g:=g);obtain ⟨hi1,M1⟩:=hx;refine U 9 ?_;refine S.cd rfl (fun pM=>?_) fun pM=>?_
   ·have hi:i<x.1.length:=by omega
    by_cases q:x.1[i].length=64
    ·
     refine U 7 ?_;refine O.q 1 rfl<|O.dI (k0) (h:=fun OA Lw MT Au=>?_);obtain ⟨adG,rfl,Hx⟩:=Au;obtain ⟨ke,kj,rfl⟩:=Hx.shape;refine U 3 ?_;refine O.aB 35 rfl (by exact aA ai)<|U 9 ?_;exact S.cF (ih (i+1) (by exact ⟨by omega,M1.step hi q⟩) ai)
    ·have e:=acD hi q
     refine U 7 ?_;refine O.q 1 rfl<|O.dI (k0) (h:=fun OA Lw MT Au=>?_);obtain ⟨adG,rfl,Hx⟩:=Au;obtain ⟨ke,kj,rfl⟩:=Hx.shape;refine U 3 ?_;refine O.sT 35 rfl (by exact zdt ai)<|U 6 ?_;exact S.rt results124 rfl hR ⟨congrArg Value.bool e.symm,rfl⟩
   ·clear ih
    have hi:i=x.1.length:=by omega
    subst hi;have hS:∀ y∈x.1,y.length=64:=fun y hy=>by obtain ⟨j,q,rfl⟩:=List.mem_iff_getElem.1 hy;exact M1 j q q
    refine U 7 ?_;refine S.ev (ι:=Nat) (fun k=>k≤x.2.1.length∧vC x k) (fun k=>[(4,.int .i64 (k:Int))]) [(1,_)] (fun k=>[]) (fun k=>x.2.1.length - k) (0) (by exact ⟨by omega,fun i q w=>by omega⟩) aO aO rfl fun k hx ih=>?_;have hm2:=bS (g:=g);obtain ⟨hx1,hall⟩:=hx;refine U 9 ?_;refine S.cd rfl (fun T7=>?_) fun T7=>?_
    ·have hk:k<x.2.1.length:=by omega
     refine U 7 ?_;refine O.q 1 rfl<|O.dI (k1) (h:=fun ah1 afI ag_ Wp=>?_);obtain ⟨l1,m1,rfl,l2,l3⟩:=dZ.sh Wp;refine U 5 ?_
     by_cases q0:1≤x.2.1[k].1.length
     ·by_cases q1:x.2.1[k].1.length≤64
      ·by_cases bg:x.2.1[k].2.1.length=64
       ·have hlf:wX x.2.1[k]:=⟨⟨q0,q1⟩,bg⟩
        by_cases jt:0<k
        ·by_cases h_:(x.2.1[k - 1]'ai).1<x.2.1[k].1
         ·
          refine U 4 ?_;refine O.aB 51 rfl (by exact aA cw)<|U 4 ?_;refine O.aB 55 rfl (by exact aA cw)<|U 4 ?_;refine O.q 1 rfl<|O.dI (k1) (h:=fun Dv Cl ya tB=>?_);obtain ⟨n1,o1,rfl, -, -⟩:=dZ.sh tB;refine U 4 ?_;refine O.aB 65 rfl (by exact aA ai)<|U 4 ?_;refine O.sT 69 rfl (by exact zdt ai)<|U 3 ?_;refine O.q 1 rfl<|O.op (.g rfl rfl) (.sub rfl rfl (IntWalk.i64_in _ ai))<|O.slot 74 (v' :=.int .i64 ((k - 1:Nat):Int)) rfl (by exact congrArg (Value.int .i64) ai) ?_;refine O.c7 (.g rfl rfl) underlying29 wW rfl rfl (show _=(((k-1):Nat):Int) by omega) (k1) (h:=fun Z0 R7 VW HF=>?_);obtain ⟨u1,w1,rfl, -, -⟩:=dZ.sh HF;refine U 2 ?_;refine O.q 1 rfl<|O.op (.g rfl rfl) (.uL rfl rfl)<|O.aB 79 rfl (by exact CH h_)<|U 11 ?_;exact S.cF (ih (k+1) (by exact ⟨by omega,hall.step hk hlf fun _=>h_⟩) ai)
         ·have e:=Ol hk jt h_
          refine U 4 ?_;refine O.aB 51 rfl (by exact aA cw)<|U 4 ?_;refine O.aB 55 rfl (by exact aA cw)<|U 4 ?_;refine O.q 1 rfl<|O.dI (k1) (h:=fun Dv Cl ya tB=>?_);obtain ⟨n1,o1,rfl, -, -⟩:=dZ.sh tB;refine U 4 ?_;refine O.aB 65 rfl (by exact aA ai)<|U 4 ?_;refine O.sT 69 rfl (by exact zdt ai)<|U 3 ?_;refine O.q 1 rfl<|O.op (.g rfl rfl) (.sub rfl rfl (IntWalk.i64_in _ ai))<|O.slot 74 (v' :=.int .i64 ((k - 1:Nat):Int)) rfl (by exact congrArg (Value.int .i64) ai) ?_;refine O.c7 (.g rfl rfl) underlying29 wW rfl rfl (show _=(((k-1):Nat):Int) by omega) (k1) (h:=fun Z0 R7 VW HF=>?_);obtain ⟨u1,w1,rfl, -, -⟩:=dZ.sh HF;refine U 2 ?_;refine O.q 1 rfl<|O.op (.g rfl rfl) (.uL rfl rfl)<|O.sT 79 rfl (by exact CI h_)<|U 8 ?_;exact S.rt results124 rfl hR ⟨congrArg Value.bool e.symm,rfl⟩
        ·
         refine U 4 ?_;refine O.aB 51 rfl (by exact aA cw)<|U 4 ?_;refine O.aB 55 rfl (by exact aA cw)<|U 4 ?_;refine O.q 1 rfl<|O.dI (k1) (h:=fun Dv Cl ya tB=>?_);obtain ⟨n1,o1,rfl, -, -⟩:=dZ.sh tB;refine U 4 ?_;refine O.aB 65 rfl (by exact aA ai)<|U 4 ?_;refine O.aB 69 rfl (by exact aA ai)<|U 21 ?_;exact S.cF (ih (k+1) (by exact ⟨by omega,hall.step hk hlf fun w=>absurd w jt⟩) ai)
       ·have e:=AW hk fun w=>bg w.2
        refine U 4 ?_;refine O.aB 51 rfl (by exact aA cw)<|U 4 ?_;refine O.aB 55 rfl (by exact aA cw)<|U 4 ?_;refine O.q 1 rfl<|O.dI (k1) (h:=fun Dv Cl ya tB=>?_);obtain ⟨n1,o1,rfl, -, -⟩:=dZ.sh tB;refine U 4 ?_;refine O.sT 65 rfl (by exact zdt ai)<|U 22 ?_;exact S.rt results124 rfl hR ⟨congrArg Value.bool e.symm,rfl⟩
      ·have e:=AW hk fun w=>q1 w.1.2
       refine U 4 ?_;refine O.aB 51 rfl (by exact aA cw)<|U 4 ?_;refine O.sT 55 rfl (by exact zdt cw)<|U 32 ?_;exact S.rt results124 rfl hR ⟨congrArg Value.bool e.symm,rfl⟩
     ·have e:=AW hk fun w=>q0 w.1.1
      refine U 4 ?_;refine O.sT 51 rfl (by exact zdt cw)<|U 36 ?_;exact S.rt results124 rfl hR ⟨congrArg Value.bool e.symm,rfl⟩
    ·clear ih
     have hk:k=x.2.1.length:=by omega
     subst hk;have aR:=hall.all;have e:decide (js x)=true:=zdt ⟨f,hS,aR⟩;refine U 5 ?_;exact S.rt results124 rfl hR ⟨congrArg Value.bool e.symm,rfl⟩
 ·have e:decide (js x)=false:=aA fun w=>f w.1
  by_cases f1:x.1.length>510
  ·
   refine U 5 ?_;refine O.sT 9 rfl (by exact zdt ai)<|U 18 ?_;exact S.rt results124 rfl hR ⟨congrArg Value.bool e.symm,rfl⟩
  ·have f2:x.2.1.length>1∧x.1.length≠510:=by
    refine ⟨Nat.lt_of_not_le fun w=>f ⟨by omega,fun q=>by omega⟩,fun w=>f ⟨by omega,fun _=>w⟩⟩
   refine U 5 ?_;refine O.aB 9 rfl (by exact aA ai)<|U 5 ?_;refine O.sT 14 rfl (by exact zdt ai)<|U 5 ?_;refine O.sT 19 rfl (by exact zdt ai)<|U 8 ?_;exact S.rt results124 rfl hR ⟨congrArg Value.bool e.symm,rfl⟩
theorem zS {r:Fr} (b:Bool) (z:Int):aj prog 31 #[.bool b,.int .i64 z] r [] (dg (fun v aa=>b=true∧v=.tuple #[]∧aa=[]) (fun ch aa=>b=false∧ch=fJ 39 z∧aa=[])):=by
 refine aj.o func31 fun g hg R hR=>?_;refine U 3 ?_;refine O.op (.p rfl) ((by first|exact .pY rfl|exact .not rfl))<|U 1 ?_;refine S.cd rfl (fun h5=>?_) fun h5=>?_
 ·refine U 2 ?_
  refine O.op (.p rfl) (.Di underlying39 rfl)<|O.panic rfl rfl (fun w hw=>?_);exact hR _ [] w ⟨by simpa using h5,rfl,rfl⟩ hw
 ·refine S.skip<|S.gl results31 fun w hw=>hR _ _ w ?_ hw
  exact ⟨by simpa using h5,rfl,rfl⟩
theorem fD {r:Fr} (b:Bool):aj prog 33 #[.bool b] r [] (dg (fun v aa=>b=true∧v=.tuple #[]∧aa=[]) (fun ch aa=>b=false∧ch=fJ 39 4∧aa=[])):=by
 refine aj.o func33 fun g hg R hR=>?_;refine U 2 ?_;refine O.cV (.p rfl) rfl af rfl rfl (zS _ _) (fun ch au w hX hW=>by (obtain ⟨hb,rfl,rfl⟩:=hX;exact hR _ _ w ⟨hb,rfl,rfl⟩ hW)) ?_;rintro _ _ ⟨ep,rfl,rfl⟩;refine O.nil<|S.gl results33 fun w hw=>hR _ _ w ?_ hw;exact ⟨ep,rfl,rfl⟩
theorem CG {r:Fr} {s:List UInt8} (hl:s.length≤1000000000000):aj prog 239 #[.string (str s)] r [] (aF fun v aa=>∃ a c,v=.slice a (bytesOf s).length c∧aa=[ak ag.u8 5 (.slice a (bytesOf s).length c) (bytesOf s)]):=by
 refine aj.o func239 fun g hg R hR=>?_;refine U 7 ?_;refine O.aD (.p rfl) (.oD underlying9 underlying22 underlying5 rfl vt) ?_;rintro _ _ ⟨a4,bR,rfl,rfl⟩;refine O.dh (.p rfl) rfl af rfl rfl (bs:=[ak ag.u8 5 (.slice a4 s.length bR) s]) ct (fun m hm hd=>nS ((u4 hm).right hd) ai) ?_;rintro _ _ ⟨a5,cD,rfl,rfl⟩;refine U 2 ?_;exact S.rt results239 rfl hR ⟨a5,cD,rfl,rfl⟩
theorem TO {r:Fr} {va:Value} {b:List UInt8} {z:Int} (ha:av ag.u8 r va b) (hl:b.length≤1000000000000):aj prog 232 #[va,.int .i64 z] r [] (dg (fun v aa=>z=0∧∃ a c,v=.slice a (bytesOf b).length c∧aa=[ak ag.u8 5 (.slice a (bytesOf b).length c) (bytesOf b)]) (fun ch aa=>z≠0∧ch=fJ 39 4∧aa=[])):=by
 obtain ⟨a1,c1,rfl⟩:=ha.shape;refine aj.o func232 fun g hg R hR=>?_;have ha:=ha.mono hg;refine U 8 ?_;refine O.cV (.p rfl) rfl af rfl rfl (fD _) (fun ch au w hX hW=>by (obtain ⟨hb,rfl,rfl⟩:=hX;exact hR _ _ w ⟨of_decide_eq_false hb,rfl,rfl⟩ hW)) ?_;rintro _ _ ⟨tf,rfl,rfl⟩;refine U 4 ?_;refine O.aN (.p rfl) rfl af rfl rfl ((nS ha ai)) ?_;rintro _ _ ⟨a9,bc,rfl,rfl⟩;refine U 2 ?_;exact S.rt results232 rfl hR ⟨of_decide_eq_true tf,a9,bc,rfl,rfl⟩
theorem CB {r:Fr} {s:List UInt8} (hl:s.length≤9223372036854775807):aj prog 245 #[.string (str s)] r [] (dg (fun v aa=>fL s∧∃ a c,v=.slice a (bytesOf s).length c∧aa=[ak ag.u8 5 (.slice a (bytesOf s).length c) (bytesOf s)]) (fun ch aa=>¬ fL s∧ch=fJ 39 4∧aa=[])):=by
 refine aj.o func245 fun g hg R hR=>?_
 by_cases h1:s=[]
 ·have hn:¬ fL s:=fun w=>by rw [h1] at w;exact absurd w.1 aq
  refine U 7 ?_;refine O.op (.p rfl) (.AQ rfl rfl)<|O.aB 4 rfl (by rw [h1];simp) ?_;refine O.q 5 rfl<|O.cV (.p rfl) rfl af rfl rfl (fD _) (fun ch au w hX hW=>by (obtain ⟨hb,rfl,rfl⟩:=hX;exact hR _ _ w ⟨hn,rfl,rfl⟩ hW)) ?_;rintro _ _ ⟨uO,rfl,rfl⟩;exact absurd uO aH
 ·have hp:1≤s.length:=by cases s with|nil=>exact absurd rfl h1|cons _ _=>simp
  by_cases h2:s.length≤64
  ·
   refine U 7 ?_;refine O.op (.p rfl) (.AQ rfl rfl)<|O.sT 4 rfl (by exact zdt (fun w=>h1 (eO w))) ?_;refine U 4 ?_;refine O.sT 8 rfl (by exact zdt cw) ?_;refine O.q 1 rfl<|O.cV (.p rfl) rfl af rfl rfl (fD _) (fun ch au w hX hW=>by (exact absurd hX.1 aH)) ?_;rintro _ _ ⟨uO,rfl,rfl⟩;refine U 4 ?_;refine O.aN (.p rfl) rfl af rfl rfl ((CG ai)) ?_;rintro _ _ ⟨cR,bD,rfl,rfl⟩;refine U 2 ?_;exact S.rt results245 rfl hR ⟨⟨hp,h2⟩,cR,bD,rfl,rfl⟩
  ·have hn:¬ fL s:=fun w=>h2 w.2
   refine U 7 ?_;refine O.op (.p rfl) (.AQ rfl rfl)<|O.sT 4 rfl (by exact zdt (fun w=>h1 (eO w))) ?_;refine U 4 ?_;refine O.aB 8 rfl (by exact aA cw) ?_;refine O.q 1 rfl<|O.cV (.p rfl) rfl af rfl rfl (fD _) (fun ch au w hX hW=>by (obtain ⟨hb,rfl,rfl⟩:=hX;exact hR _ _ w ⟨hn,rfl,rfl⟩ hW)) ?_;rintro _ _ ⟨uO,rfl,rfl⟩;exact absurd uO aH
def jF (c:UInt8):Bool:=c.toNat ==48 ||c.toNat ==49
def nk:List Value:=(List.range 256).map fun i=>.bool (i ==48 ||i ==49)
theorem Rm (c:UInt8):nk[c.toNat]?=some (.bool (jF c)):=by
 have:=c.toNat_lt;simp only [nk,jF,List.getElem?_map];rw [List.getElem?_range ai];rfl
theorem Ld {c:UInt8}:jF c=true↔c=48∨c=49:=by
 unfold jF;rw [Bool.or_eq_true,beq_iff_eq,beq_iff_eq]
 constructor
 ·rintro (h|h)
  ·exact .inl (UInt8.toNat_inj.1 h)
  ·exact .inr (UInt8.toNat_inj.1 h)
 ·rintro (rfl|rfl)
  ·exact .inl rfl
  ·exact .inr rfl
theorem CT {r:Fr} {b:Nat} {c:UInt8} (h:cg r ⟨b,0,none⟩ nk):aj prog 331 #[.pointer (some ⟨b,0,none⟩),aT c] r [] (aF fun v aa=>v=.bool (jF c)∧aa=[]):=by
 have hc:=c.toNat_lt;refine aj.o func331 fun g hg R hR=>?_;have h:=h.mono hg;refine U 9 ?_;refine O.op (.p rfl) (.mq (j:=c.toNat) underlying329 JW rfl rfl rfl ai)<|O.op (.p rfl) (.load LV rfl (h.at (Rm c))) ?_;refine U 2 ?_;exact S.rt results331 rfl hR ⟨rfl,rfl⟩
theorem D2 (l:List UInt8):(str l).size=l.length:=by simp
theorem ac3 {s:List UInt8} {i:Nat} (hi:i<s.length) (h:∀ j (q:j<s.length),s.length - i≤j→jF s[j]=true) (e:jF (s[s.length - i - 1]'ai)=true):∀ j (q:j<s.length),s.length - (i+1)≤j→jF s[j]=true:=fun j q w=>by
 rcases Nat.lt_or_ge j (s.length - i) with w' |w'
 ·have:j=s.length - i - 1:=by omega
  subst this;exact e
 ·exact h j q w'
theorem adw {r:Fr} {b:Nat} {s:List UInt8} (h:cg r ⟨b,0,none⟩ nk) (hl:s.length≤1000000000000):aj prog 309 #[.string (str s),.pointer (some ⟨b,0,none⟩)] r [] (aF fun v aa=>∃ k,k≤s.length∧v=.string (str (s.take k))∧(∀ j (q:j<s.length),k≤j→jF s[j]=true)∧(∀ q:k - 1<s.length,0<k→jF s[k - 1]=false)∧aa=[]):=by
 have h0:=h;refine aj.o func309 fun g hg R hR=>?_;have h:=h.mono hg;refine U 6 ?_;refine S.slot 0 (v' :=.string (str (s.take (s.length - 0)))) rfl (by rw [Nat.sub_zero,List.take_length]) ?_;refine S.ev (ι:=Nat) (fun i=>i≤s.length∧∀ j (q:j<s.length),s.length - i≤j→jF s[j]=true) (fun i=>[(0,.string (str (s.take (s.length - i))))]) [(1,_)] (fun i=>[]) (fun i=>s.length - i) (0) (by exact ⟨by omega,fun j q w=>by omega⟩) aO aO rfl fun i hx ih=>?_;have aW:=bS (g:=g);obtain ⟨hx1,hall⟩:=hx;have tE:(s.take (s.length - i)).length=s.length - i:=by rw [mA];omega
 have AA:∀ q:s.length - i - 1<(s.take (s.length - i)).length,(s.take (s.length - i))[s.length - i - 1]=s[s.length - i - 1]'ai:=fun q=>List.getElem_take
 by_cases hi:i<s.length
 ·have hj:s.length - i - 1<(s.take (s.length - i)).length:=by omega
  have hsz:(str (s.take (s.length - i))).size=s.length - i:=by rw [D2,tE]
  cases e:jF (s[s.length - i - 1]'ai) with
  |true =>
   refine U 6 ?_;refine O.sT 7 rfl (by exact zdt (by rw [hsz];omega))<|U 11 ?_;refine O.op (.p rfl) (.sub rfl rfl (IntWalk.i64_in _ ai))<|O.slot 12 (v' :=.int .i64 ((s.length - i - 1:Nat):Int)) rfl (by exact congrArg (Value.int .i64) (by rw [hsz];omega)) ?_;refine O.op (.p rfl) (.qQ (j:=s.length - i - 1) underlying9 rfl rfl rz bl) ?_;refine O.slot 13 (v' :=aT (s[s.length - i - 1]'ai)) rfl (by exact congrArg aT (AA hj)) ?_;refine O.v0 (.p rfl) rfl af rfl rfl ((CT (h0.mono hg))) ?_;refine O.sT 14 rfl (by exact e)<|U 8 ?_;refine O.op (.p rfl) (.sub rfl rfl (IntWalk.i64_in _ ai))<|O.slot 19 (v' :=.int .i64 ((s.length - i - 1:Nat):Int)) rfl (by exact congrArg (Value.int .i64) (by rw [hsz];omega)) ?_;refine O.acN (b:=s.length - i - 1) (.p rfl) underlying9 rfl rfl (show _=(((s.length - i - 1):Nat):Int) by omega) bl<|U 3 ?_;refine S.slot 0 (v' :=.string (str (s.take (s.length - (i+1))))) rfl (by rw [List.take_take,show min (s.length - i - 1) (s.length - i)=s.length - (i+1) from by omega]) ?_;exact S.cF (ih (i+1) (by exact ⟨by omega,ac3 hi hall e⟩) ai)
  |false =>
   refine U 6 ?_;refine O.sT 7 rfl (by exact zdt (by rw [hsz];omega))<|U 11 ?_;refine O.op (.p rfl) (.sub rfl rfl (IntWalk.i64_in _ ai))<|O.slot 12 (v' :=.int .i64 ((s.length - i - 1:Nat):Int)) rfl (by exact congrArg (Value.int .i64) (by rw [hsz];omega)) ?_;refine O.op (.p rfl) (.qQ (j:=s.length - i - 1) underlying9 rfl rfl rz bl) ?_;refine O.slot 13 (v' :=aT (s[s.length - i - 1]'ai)) rfl (by exact congrArg aT (AA hj)) ?_;refine O.v0 (.p rfl) rfl af rfl rfl ((CT (h0.mono hg))) ?_;refine O.aB 14 rfl (by exact e)<|U 9 ?_;exact S.rt results309 rfl hR ⟨s.length - i,by omega,rfl,hall,fun _ _=>e,rfl⟩
 ·have MH:i=s.length:=by omega
  have hsz:(str (s.take (s.length - i))).size=0:=by rw [MH];simp
  refine U 6 ?_;refine O.aB 7 rfl (by exact aA (by rw [hsz];omega))<|U 8 ?_;exact S.rt results309 rfl hR ⟨s.length - i,by omega,rfl,hall,fun _ w=>by omega,rfl⟩
theorem U9 {s:List UInt8} {i:Nat} (hi:i<s.length) (h:∀ j (q:j<s.length),j<i→jF s[j]=true) (e:jF s[i]=true):∀ j (q:j<s.length),j<i+1→jF s[j]=true:=fun j q w=>by
 rcases Nat.lt_or_ge j i with w' |w'
 ·exact h j q w'
 ·have:j=i:=by omega
  subst this;exact e
theorem adv {r:Fr} {b:Nat} {s:List UInt8} (h:cg r ⟨b,0,none⟩ nk) (hl:s.length≤1000000000000):aj prog 308 #[.string (str s),.pointer (some ⟨b,0,none⟩)] r [] (aF fun v aa=>∃ k,k≤s.length∧v=.string (str (s.drop k))∧(∀ j (q:j<s.length),j<k→jF s[j]=true)∧(∀ q:k<s.length,jF s[k]=false)∧aa=[]):=by
 have h0:=h;refine aj.o func308 fun g hg R hR=>?_;have h:=h.mono hg;refine U 6 ?_;refine S.slot 0 (v' :=.string (str (s.drop 0))) rfl rfl ?_;refine S.ev (ι:=Nat) (fun i=>i≤s.length∧∀ j (q:j<s.length),j<i→jF s[j]=true) (fun i=>[(0,.string (str (s.drop i)))]) [(1,_)] (fun i=>[]) (fun i=>s.length - i) (0) (by exact ⟨by omega,fun j q w=>by omega⟩) aO aO rfl fun i hx ih=>?_;have aW:=bS (g:=g);obtain ⟨hx1,hall⟩:=hx;have hsz:(str (s.drop i)).size=s.length - i:=by rw [D2,List.length_drop]
 have tg:(s.drop i).length=s.length - i:=List.length_drop
 by_cases hi:i<s.length
 ·have AA:(s.drop i)[0]'ai=s[i]:=by rw [List.getElem_drop];simp
  cases e:jF s[i] with
  |true =>
   refine U 6 ?_;refine O.sT 7 rfl (by exact zdt (by rw [hsz];omega))<|U 9 ?_;refine O.op (.p rfl) (.qQ (j:=0) underlying9 rfl rfl rz bl) ?_;refine O.slot 10 (v' :=aT s[i]) rfl (by exact congrArg aT AA) ?_;refine O.v0 (.p rfl) rfl af rfl rfl ((CT (h0.mono hg))) ?_;refine O.sT 11 rfl (by exact e)<|U 6 ?_;refine O.acM (a:=1) (.p rfl) underlying9 rfl rfl (show _=(((1):Nat):Int) by omega) bl<|U 3 ?_;refine S.slot 0 (v' :=.string (str (s.drop (i+1)))) rfl (by rw [List.drop_drop]) ?_;exact S.cF (ih (i+1) (by exact ⟨by omega,U9 hi hall e⟩) ai)
  |false =>
   refine U 6 ?_;refine O.sT 7 rfl (by exact zdt (by rw [hsz];omega))<|U 9 ?_;refine O.op (.p rfl) (.qQ (j:=0) underlying9 rfl rfl rz bl) ?_;refine O.slot 10 (v' :=aT s[i]) rfl (by exact congrArg aT AA) ?_;refine O.v0 (.p rfl) rfl af rfl rfl ((CT (h0.mono hg))) ?_;refine O.aB 11 rfl (by exact e)<|U 9 ?_;exact S.rt results308 rfl hR ⟨i,by omega,rfl,hall,fun _=>e,rfl⟩
 ·have MH:i=s.length:=by omega
  refine U 6 ?_;refine O.aB 7 rfl (by exact aA (by rw [hsz];omega))<|U 8 ?_;exact S.rt results308 rfl hR ⟨i,by omega,rfl,hall,fun w=>by omega,rfl⟩
theorem uA:nk.length=256:=by simp [nk]
theorem Le:∀ v∈nk,v.oneCell' =true:=fun v hv=>by
 obtain ⟨i,_,rfl⟩:=List.mem_map.1 hv;rfl
theorem Y6 {r:Fr}:aj prog 307 #[.string (str [48,49])] r [] (aF fun v aa=>v=.tuple #[.agg nk.toArray,.bool true]∧aa=[]):=by
 refine aj.o func307 fun g hg R hR=>?_
 refine S.seq<|S.region rfl<|O.aD (.p rfl) (.alloc (cs:=[.bool false,.bool false,.bool false,.bool false,.bool false,.bool false,.bool false,.bool false,.bool false,.bool false,.bool false,.bool false,.bool false,.bool false,.bool false,.bool false,.bool false,.bool false,.bool false,.bool false,.bool false,.bool false,.bool false,.bool false,.bool false,.bool false,.bool false,.bool false,.bool false,.bool false,.bool false,.bool false,.bool false,.bool false,.bool false,.bool false,.bool false,.bool false,.bool false,.bool false,.bool false,.bool false,.bool false,.bool false,.bool false,.bool false,.bool false,.bool false,.bool false,.bool false,.bool false,.bool false,.bool false,.bool false,.bool false,.bool false,.bool false,.bool false,.bool false,.bool false,.bool false,.bool false,.bool false,.bool false,.bool false,.bool false,.bool false,.bool false,.bool false,.bool false,.bool false,.bool false,.bool false,.bool false,.bool false,.bool false,.bool false,.bool false,.bool false,.bool false,.bool false,.bool false,.bool false,.bool false,.bool false,.bool false,.bool false,.bool false,.bool false,.bool false,.bool false,.bool false,.bool false,.bool false,.bool false,.bool false,.bool false,.bool false,.bool false,.bool false,.bool false,.bool false,.bool false,.bool false,.bool false,.bool false,.bool false,.bool false,.bool false,.bool false,.bool false,.bool false,.bool false,.bool false,.bool false,.bool false,.bool false,.bool false,.bool false,.bool false,.bool false,.bool false,.bool false,.bool false,.bool false,.bool false,.bool false,.bool false,.bool false,.bool false,.bool false,.bool false,.bool false,.bool false,.bool false,.bool false,.bool false,.bool false,.bool false,.bool false,.bool false,.bool false,.bool false,.bool false,.bool false,.bool false,.bool false,.bool false,.bool false,.bool false,.bool false,.bool false,.bool false,.bool false,.bool false,.bool false,.bool false,.bool false,.bool false,.bool false,.bool false,.bool false,.bool false,.bool false,.bool false,.bool false,.bool false,.bool false,.bool false,.bool false,.bool false,.bool false,.bool false,.bool false,.bool false,.bool false,.bool false,.bool false,.bool false,.bool false,.bool false,.bool false,.bool false,.bool false,.bool false,.bool false,.bool false,.bool false,.bool false,.bool false,.bool false,.bool false,.bool false,.bool false,.bool false,.bool false,.bool false,.bool false,.bool false,.bool false,.bool false,.bool false,.bool false,.bool false,.bool false,.bool false,.bool false,.bool false,.bool false,.bool false,.bool false,.bool false,.bool false,.bool false,.bool false,.bool false,.bool false,.bool false,.bool false,.bool false,.bool false,.bool false,.bool false,.bool false,.bool false,.bool false,.bool false,.bool false,.bool false,.bool false,.bool false,.bool false,.bool false,.bool false,.bool false,.bool false,.bool false,.bool false,.bool false,.bool false,.bool false,.bool false,.bool false,.bool false,.bool false,.bool false,.bool false,.bool false,.bool false,.bool false,.bool false,.bool false,.bool false,.bool false,.bool false,.bool false]) zeroValue329 rfl) ?_
 rintro _ _ ⟨b2,rfl,rfl⟩;refine U 8 ?_;refine S.cH (b:=b2) (cs' :=List.replicate 256 (.bool false)) an rfl ?_;refine U 8 ?_;refine O.sT 9 rfl dU ?_;refine U 9 ?_;refine O.op (.p rfl) (.qQ (j:=0) underlying9 rfl rfl rz bl) ?_;refine O.slot 14 (v' :=.int .u8 48) rfl dU ?_;refine U 7 ?_;refine O.aB 16 rfl dU ?_;refine U 5 ?_;refine O.op (.p rfl) (.tH (j:=48) underlying329 JW rfl rfl (show _=(((48):Nat):Int) by omega) ai) ?_;refine U 8 ?_;refine S.cH (b:=b2) (cs' :=(List.replicate 256 (.bool false)).set 48 (.bool true)) an rfl ?_;refine U 8 ?_;refine O.sT 9 rfl dU ?_;refine U 9 ?_;refine O.op (.p rfl) (.qQ (j:=1) underlying9 rfl rfl rz bl) ?_;refine O.slot 14 (v' :=.int .u8 49) rfl dU ?_;refine U 7 ?_;refine O.aB 16 rfl dU ?_;refine U 5 ?_;refine O.op (.p rfl) (.tH (j:=49) underlying329 JW rfl rfl (show _=(((49):Nat):Int) by omega) ai) ?_;refine U 8 ?_;refine S.cH (b:=b2) (cs' :=nk) an rfl ?_;refine U 8 ?_;refine O.aB 9 rfl dU ?_;refine U 5 ?_;refine O.op (.p rfl) (.AL (news:=nk) isAgg329 (by rw [uA];kernel_rfl) rfl an (by rw [List.drop_zero,List.take_length])) ?_;refine O.eg rfl (.jM (news:=nk) (by rw [uA];kernel_rfl) rfl rfl yY (List.all_eq_true.2 Le) an (by rw [uA];decide)) ?_
 refine O.q 1 rfl<|O.nil<|S.cH (b:=b2) (cs' :=nk) an (by rw [List.take_zero,List.nil_append,List.drop_eq_nil_of_le (by rw [uA];decide),List.append_nil]) ?_;refine S.JF results307 rfl rfl an (gi.agg isAgg329 (by rw [uA];kernel_rfl)) fun w hw=>ax.end_ hR hw ?_;exact pk ⟨rfl,rfl⟩
theorem adx {s:List UInt8} {k m:Nat} (hk:k≤s.length) (h1:∀ j (q:j<s.length),k≤j→jF s[j]=true) (h2:∀ q:k - 1<s.length,0<k→jF s[k - 1]=false)
  (hm:m≤(s.take k).length) (h3:∀ j (q:j<(s.take k).length),j<m→jF (s.take k)[j]=true) (h4:∀ q:m<(s.take k).length,jF (s.take k)[m]=false):(s.take k).drop m=[]↔∀ c∈s,c=48∨c=49:=by
 have hl:(s.take k).length=k:=by rw [mA];omega
 constructor
 ·intro e c hc
  have hmk:m=k:=by have:=congrArg List.length e;rw [List.length_drop,hl] at this;simp at this;omega
  obtain ⟨j,q,rfl⟩:=List.mem_iff_getElem.1 hc;rw [← Ld]
  rcases Nat.lt_or_ge j k with w|w
  ·have:=h3 j ai ai
   rw [List.getElem_take] at this;exact this
  ·exact h1 j q w
 ·intro w
  have h0:k=0:=Nat.eq_zero_of_not_pos fun hp=>by
   have q:k - 1<s.length:=by omega
   have:=h2 q hp;rw [Ld.2 (w _ (List.getElem_mem q))] at this;cases this
  subst h0;simp
theorem P7 {r:Fr} {s:List UInt8} (hl:s.length≤1000000000000):aj prog 276 #[.string (str s),.string (str [48,49])] r [] (aF fun v aa=>∃ t,v=.string (str t)∧(t=[]↔∀ c∈s,c=48∨c=49)∧aa=[]):=by
 refine aj.o func276 fun g hg R hR=>?_
 by_cases h0:s=[]
 ·
  refine U 8 ?_;refine O.op (.p rfl) (.e4 rfl rfl)<|O.sT 8 rfl (by simp [h0])<|U 11 ?_;exact S.rt results276 rfl hR ⟨s,rfl,⟨fun _=>by rw [h0];exact fun _ h=>(by cases h),fun _=>h0⟩,rfl⟩
 ·
  refine U 8 ?_;refine O.op (.p rfl) (.e4 rfl rfl)<|O.aB 8 rfl (by exact aA (fun q=>h0 (eO q))) ?_;refine O.q 2 rfl<|O.op (.g rfl rfl) (.e4 rfl rfl)<|O.aB 11 rfl aH<|U 10 ?_;refine O.aB 16 rfl dU<|U 12 ?_;refine O.v0 (.p rfl) rfl af rfl rfl (Y6) ?_
  refine O.q 3 rfl<|O.aD (.p rfl) (.alloc (cs:=[.bool false,.bool false,.bool false,.bool false,.bool false,.bool false,.bool false,.bool false,.bool false,.bool false,.bool false,.bool false,.bool false,.bool false,.bool false,.bool false,.bool false,.bool false,.bool false,.bool false,.bool false,.bool false,.bool false,.bool false,.bool false,.bool false,.bool false,.bool false,.bool false,.bool false,.bool false,.bool false,.bool false,.bool false,.bool false,.bool false,.bool false,.bool false,.bool false,.bool false,.bool false,.bool false,.bool false,.bool false,.bool false,.bool false,.bool false,.bool false,.bool false,.bool false,.bool false,.bool false,.bool false,.bool false,.bool false,.bool false,.bool false,.bool false,.bool false,.bool false,.bool false,.bool false,.bool false,.bool false,.bool false,.bool false,.bool false,.bool false,.bool false,.bool false,.bool false,.bool false,.bool false,.bool false,.bool false,.bool false,.bool false,.bool false,.bool false,.bool false,.bool false,.bool false,.bool false,.bool false,.bool false,.bool false,.bool false,.bool false,.bool false,.bool false,.bool false,.bool false,.bool false,.bool false,.bool false,.bool false,.bool false,.bool false,.bool false,.bool false,.bool false,.bool false,.bool false,.bool false,.bool false,.bool false,.bool false,.bool false,.bool false,.bool false,.bool false,.bool false,.bool false,.bool false,.bool false,.bool false,.bool false,.bool false,.bool false,.bool false,.bool false,.bool false,.bool false,.bool false,.bool false,.bool false,.bool false,.bool false,.bool false,.bool false,.bool false,.bool false,.bool false,.bool false,.bool false,.bool false,.bool false,.bool false,.bool false,.bool false,.bool false,.bool false,.bool false,.bool false,.bool false,.bool false,.bool false,.bool false,.bool false,.bool false,.bool false,.bool false,.bool false,.bool false,.bool false,.bool false,.bool false,.bool false,.bool false,.bool false,.bool false,.bool false,.bool false,.bool false,.bool false,.bool false,.bool false,.bool false,.bool false,.bool false,.bool false,.bool false,.bool false,.bool false,.bool false,.bool false,.bool false,.bool false,.bool false,.bool false,.bool false,.bool false,.bool false,.bool false,.bool false,.bool false,.bool false,.bool false,.bool false,.bool false,.bool false,.bool false,.bool false,.bool false,.bool false,.bool false,.bool false,.bool false,.bool false,.bool false,.bool false,.bool false,.bool false,.bool false,.bool false,.bool false,.bool false,.bool false,.bool false,.bool false,.bool false,.bool false,.bool false,.bool false,.bool false,.bool false,.bool false,.bool false,.bool false,.bool false,.bool false,.bool false,.bool false,.bool false,.bool false,.bool false,.bool false,.bool false,.bool false,.bool false,.bool false,.bool false,.bool false,.bool false,.bool false,.bool false,.bool false,.bool false,.bool false,.bool false,.bool false,.bool false,.bool false,.bool false,.bool false,.bool false,.bool false,.bool false,.bool false,.bool false,.bool false,.bool false,.bool false,.bool false,.bool false,.bool false]) zeroValue329 rfl) ?_
  rintro _ _ ⟨iL,rfl,rfl⟩;refine O.eg rfl (.jM (news:=nk) (by rw [uA];kernel_rfl) rfl rfl yY (List.all_eq_true.2 Le) an (by rw [uA];decide)) ?_;refine U 3 ?_;refine S.cH (b:=iL) (cs' :=nk) an (by rw [List.take_zero,List.nil_append,List.drop_eq_nil_of_le (by rw [uA];decide),List.append_nil]) ?_;refine S.cy an fun g hs hm h5=>?_;replace hg:=bf hg hs;replace hR:=a_ hR hm;clear hs hm;refine U 2 ?_;refine O.sT 34 rfl dU ?_;refine U 5 ?_;refine O.aN (.p rfl) rfl af rfl rfl ((adw h5 hl)) ?_;rintro adH _ ⟨k,hk,rfl,h1,h2,rfl⟩;refine O.aN (.p rfl) rfl af rfl rfl ((adv h5 (by rw [mA];omega))) ?_;rintro aiB _ ⟨m,hm,rfl,h3,h4,rfl⟩;refine U 2 ?_;exact S.rt results276 rfl hR ⟨(s.take k).drop m,rfl,adx hk h1 h2 hm h3 h4,rfl⟩
theorem FW {r:Fr} {s:List UInt8} (hl:s.length≤9223372036854775807):aj prog 237 #[.string (str s)] r [] (dg (fun v aa=>lu s∧∃ a c,v=.slice a (bytesOf s).length c∧aa=[ak ag.u8 5 (.slice a (bytesOf s).length c) (bytesOf s)]) (fun ch aa=>¬ lu s∧ch=fJ 39 4∧aa=[])):=by
 refine aj.o func237 fun g hg R hR=>?_
 by_cases h1:s.length≤510
 ·by_cases h2:∀ c∈s,c=48∨c=49
  ·
   refine U 9 ?_;refine O.sT 5 rfl (by exact zdt cw) ?_;refine O.q 2 rfl<|O.aN (.g rfl rfl) rfl af rfl rfl ((P7 ai)) ?_;rintro ey _ ⟨t,rfl,ht,rfl⟩;refine O.op (.g rfl rfl) (.e4 rfl rfl)<|O.sT 9 rfl (by rw [ht.2 h2];simp) ?_;refine O.q 1 rfl<|O.cV (.p rfl) rfl af rfl rfl (fD _) (fun ch au w hX hW=>by (exact absurd hX.1 aH)) ?_;rintro _ _ ⟨rR,rfl,rfl⟩;refine U 4 ?_;refine O.aN (.p rfl) rfl af rfl rfl ((CG ai)) ?_;rintro _ _ ⟨dF,cj,rfl,rfl⟩;refine U 2 ?_;exact S.rt results237 rfl hR ⟨⟨h1,h2⟩,dF,cj,rfl,rfl⟩
  ·have hn:¬ lu s:=fun w=>h2 w.2
   refine U 9 ?_;refine O.sT 5 rfl (by exact zdt cw) ?_;refine O.q 2 rfl<|O.aN (.g rfl rfl) rfl af rfl rfl ((P7 ai)) ?_;rintro ey _ ⟨t,rfl,ht,rfl⟩;refine O.op (.g rfl rfl) (.e4 rfl rfl)<|O.aB 9 rfl (by exact aA (fun q=>h2 (ht.1 (eO q)))) ?_;refine O.q 1 rfl<|O.cV (.p rfl) rfl af rfl rfl (fD _) (fun ch au w hX hW=>by (obtain ⟨hb,rfl,rfl⟩:=hX;exact hR _ _ w ⟨hn,rfl,rfl⟩ hW)) ?_;rintro _ _ ⟨rR,rfl,rfl⟩;exact absurd rR aH
 ·have hn:¬ lu s:=fun w=>h1 w.1
  refine U 9 ?_;refine O.aB 5 rfl (by exact aA cw) ?_;refine O.q 5 rfl<|O.cV (.p rfl) rfl af rfl rfl (fD _) (fun ch au w hX hW=>by (obtain ⟨hb,rfl,rfl⟩:=hX;exact hR _ _ w ⟨hn,rfl,rfl⟩ hW)) ?_;rintro _ _ ⟨rR,rfl,rfl⟩;exact absurd rR aH
theorem aan {r:Fr} {b:Nat} {cs:List Value} {y:Value} {f:aP} (hf:ck.rel r cs f) (h:cg r ⟨b,0,none⟩ (cs++[y])) (hl:jD c4 f):aj prog 144 #[.pointer (some ⟨b,0,none⟩)] r []
  (dg (fun v aa=>(0≤f.2.2.1∧f.2.2.1<4)∧∃ a c,v=.slice a (be f.2.2.1).length c∧aa=[ak ag.u8 5 (.slice a (be f.2.2.1).length c) (be f.2.2.1)]) (fun ch aa=>¬ (0≤f.2.2.1∧f.2.2.1<4)∧ch=fJ 39 4∧aa=[])):=by
 obtain ⟨b1,b2,b3,b4,iL,kG,gF,kf,nj,rF,pH,n5,ux,uy,uz⟩:=hl;obtain ⟨a8,a9,c6,cQ,cR,cS,cT,b_,dV,dW,cY,cX,dX,bk,bc,bB,bG,bD,bE,bF,bn,cx,cn,bJ,bI,cq,rfl,p1,p2,p3,gT,gL,jb,gU,bU,b7,bO,b5,bL,bN,bP,bW,bK,ja,e5,gS,bT,b6,fp,hY,iT,cc,bX,jq⟩:=ck.sh hf;refine aj.o func144 fun g hg R hR=>?_;have h:=h.mono hg;have hf:=hf.mono hg;have bU:=bU.mono hg;have b7:=b7.mono hg;have bO:=bO.mono hg;have b5:=b5.mono hg;have bL:=bL.mono hg;have bN:=bN.mono hg;have bP:=bP.mono hg;have bW:=bW.mono hg;have bK:=bK.mono hg;have bT:=bT.mono hg;have b6:=b6.mono hg;have cc:=cc.mono hg;have bX:=bX.mono hg
 by_cases q1:0≤f.2.2.1
 ·by_cases bg:f.2.2.1<4
  ·
   refine U 12 ?_;refine O.sT 8 rfl (by exact zdt ai)<|U 7 ?_;refine O.sT 15 rfl (by exact zdt ai) ?_;refine O.q 1 rfl<|O.cV (.p rfl) rfl af rfl rfl (fD _) (fun ch au w hX hW=>by (exact absurd hX.1 aH)) ?_;rintro _ _ ⟨fw,rfl,rfl⟩;refine U 8 ?_;refine O.aN (.p rfl) rfl af rfl rfl ((ir _)) ?_;rintro _ _ ⟨gk,dm,rfl,rfl⟩;refine U 2 ?_;exact S.rt results144 rfl hR ⟨⟨q1,bg⟩,gk,dm,rfl,rfl⟩
  ·have hn:¬ (0≤f.2.2.1∧f.2.2.1<4):=fun w=>bg w.2
   refine U 12 ?_;refine O.sT 8 rfl (by exact zdt ai)<|U 7 ?_;refine O.aB 15 rfl (by exact aA ai) ?_;refine O.q 1 rfl<|O.cV (.p rfl) rfl af rfl rfl (fD _) (fun ch au w hX hW=>by (obtain ⟨hb,rfl,rfl⟩:=hX;exact hR _ _ w ⟨hn,rfl,rfl⟩ hW)) ?_;rintro _ _ ⟨fw,rfl,rfl⟩;exact absurd fw aH
 ·have hn:¬ (0≤f.2.2.1∧f.2.2.1<4):=fun w=>q1 w.1
  refine U 12 ?_;refine O.aB 8 rfl (by exact aA ai) ?_;refine O.q 8 rfl<|O.cV (.p rfl) rfl af rfl rfl (fD _) (fun ch au w hX hW=>by (obtain ⟨hb,rfl,rfl⟩:=hX;exact hR _ _ w ⟨hn,rfl,rfl⟩ hW)) ?_;rintro _ _ ⟨fw,rfl,rfl⟩;exact absurd fw aH
theorem aaf {r:Fr} {b:Nat} {cs:List Value} {y:Value} {f:aP} (hf:ck.rel r cs f) (h:cg r ⟨b,0,none⟩ (cs++[y])) (hl:jD c4 f):aj prog 159 #[.pointer (some ⟨b,0,none⟩)] r []
  (dg (fun v aa=>(0≤f.2.2.2.2.2.2.2.2.2.2.2.1∧f.2.2.2.2.2.2.2.2.2.2.2.1≤255)∧∃ a c,v=.slice a (be f.2.2.2.2.2.2.2.2.2.2.2.1).length c∧aa=[ak ag.u8 5 (.slice a (be f.2.2.2.2.2.2.2.2.2.2.2.1).length c) (be f.2.2.2.2.2.2.2.2.2.2.2.1)]) (fun ch aa=>¬ (0≤f.2.2.2.2.2.2.2.2.2.2.2.1∧f.2.2.2.2.2.2.2.2.2.2.2.1≤255)∧ch=fJ 39 4∧aa=[])):=by
 obtain ⟨b1,b2,b3,b4,iL,kG,gF,kf,nj,rF,pH,n5,ux,uy,uz⟩:=hl;obtain ⟨a8,a9,c6,cQ,cR,cS,cT,b_,dV,dW,cY,cX,dX,bk,bc,bB,bG,bD,bE,bF,bn,cx,cn,bJ,bI,cq,rfl,p1,p2,p3,gT,gL,jb,gU,bU,b7,bO,b5,bL,bN,bP,bW,bK,ja,e5,gS,bT,b6,fp,hY,iT,cc,bX,jq⟩:=ck.sh hf;refine aj.o func159 fun g hg R hR=>?_;have h:=h.mono hg;have hf:=hf.mono hg;have bU:=bU.mono hg;have b7:=b7.mono hg;have bO:=bO.mono hg;have b5:=b5.mono hg;have bL:=bL.mono hg;have bN:=bN.mono hg;have bP:=bP.mono hg;have bW:=bW.mono hg;have bK:=bK.mono hg;have bT:=bT.mono hg;have b6:=b6.mono hg;have cc:=cc.mono hg;have bX:=bX.mono hg
 by_cases q1:0≤f.2.2.2.2.2.2.2.2.2.2.2.1
 ·by_cases bg:f.2.2.2.2.2.2.2.2.2.2.2.1≤255
  ·
   refine U 12 ?_;refine O.sT 8 rfl (by exact zdt ai)<|U 7 ?_;refine O.sT 15 rfl (by exact zdt ai) ?_;refine O.q 1 rfl<|O.cV (.p rfl) rfl af rfl rfl (fD _) (fun ch au w hX hW=>by (exact absurd hX.1 aH)) ?_;rintro _ _ ⟨fw,rfl,rfl⟩;refine U 8 ?_;refine O.aN (.p rfl) rfl af rfl rfl ((ir _)) ?_;rintro _ _ ⟨gk,dm,rfl,rfl⟩;refine U 2 ?_;exact S.rt results159 rfl hR ⟨⟨q1,bg⟩,gk,dm,rfl,rfl⟩
  ·have hn:¬ (0≤f.2.2.2.2.2.2.2.2.2.2.2.1∧f.2.2.2.2.2.2.2.2.2.2.2.1≤255):=fun w=>bg w.2
   refine U 12 ?_;refine O.sT 8 rfl (by exact zdt ai)<|U 7 ?_;refine O.aB 15 rfl (by exact aA ai) ?_;refine O.q 1 rfl<|O.cV (.p rfl) rfl af rfl rfl (fD _) (fun ch au w hX hW=>by (obtain ⟨hb,rfl,rfl⟩:=hX;exact hR _ _ w ⟨hn,rfl,rfl⟩ hW)) ?_;rintro _ _ ⟨fw,rfl,rfl⟩;exact absurd fw aH
 ·have hn:¬ (0≤f.2.2.2.2.2.2.2.2.2.2.2.1∧f.2.2.2.2.2.2.2.2.2.2.2.1≤255):=fun w=>q1 w.1
  refine U 12 ?_;refine O.aB 8 rfl (by exact aA ai) ?_;refine O.q 8 rfl<|O.cV (.p rfl) rfl af rfl rfl (fD _) (fun ch au w hX hW=>by (obtain ⟨hb,rfl,rfl⟩:=hX;exact hR _ _ w ⟨hn,rfl,rfl⟩ hW)) ?_;rintro _ _ ⟨fw,rfl,rfl⟩;exact absurd fw aH
theorem aag {r:Fr} {b:Nat} {cs:List Value} {y:Value} {f:aP} (hf:ck.rel r cs f) (h:cg r ⟨b,0,none⟩ (cs++[y])) (hl:jD c4 f):aj prog 150 #[.pointer (some ⟨b,0,none⟩)] r []
  (dg (fun v aa=>lu f.2.2.2.2.1∧∃ a c,v=.slice a (bytesOf f.2.2.2.2.1).length c∧aa=[ak ag.u8 5 (.slice a (bytesOf f.2.2.2.2.1).length c) (bytesOf f.2.2.2.2.1)]) (fun ch aa=>¬ lu f.2.2.2.2.1∧ch=fJ 39 4∧aa=[])):=by
 obtain ⟨b1,b2,b3,b4,iL,kG,gF,kf,nj,rF,pH,n5,ux,uy,uz⟩:=hl;obtain ⟨a8,a9,c6,cQ,cR,cS,cT,b_,dV,dW,cY,cX,dX,bk,bc,bB,bG,bD,bE,bF,bn,cx,cn,bJ,bI,cq,rfl,p1,p2,p3,gT,gL,jb,gU,bU,b7,bO,b5,bL,bN,bP,bW,bK,ja,e5,gS,bT,b6,fp,hY,iT,cc,bX,jq⟩:=ck.sh hf;refine aj.o func150 fun g hg R hR=>?_;have h:=h.mono hg;have hf:=hf.mono hg;have bU:=bU.mono hg;have b7:=b7.mono hg;have bO:=bO.mono hg;have b5:=b5.mono hg;have bL:=bL.mono hg;have bN:=bN.mono hg;have bP:=bP.mono hg;have bW:=bW.mono hg;have bK:=bK.mono hg;have bT:=bT.mono hg;have b6:=b6.mono hg;have cc:=cc.mono hg;have bX:=bX.mono hg;refine U 11 ?_;refine O.cV (.p rfl) rfl af rfl rfl ((FW (by unfold c4 at *;omega))) (fun ch au w hX hW=>by (obtain ⟨hb,rfl,rfl⟩:=hX;exact hR _ _ w ⟨hb,rfl,rfl⟩ hW)) ?_;rintro _ _ ⟨GH,a8,bk,rfl,rfl⟩;refine U 2 ?_;exact S.rt results150 rfl hR ⟨GH,a8,bk,rfl,rfl⟩
theorem aaj {r:Fr} {b:Nat} {cs:List Value} {y:Value} {f:aP} (hf:ck.rel r cs f) (h:cg r ⟨b,0,none⟩ (cs++[y])) (hl:jD c4 f):aj prog 162 #[.pointer (some ⟨b,0,none⟩)] r []
  (dg (fun v aa=>fL f.2.2.2.1∧∃ a c,v=.slice a (bytesOf f.2.2.2.1).length c∧aa=[ak ag.u8 5 (.slice a (bytesOf f.2.2.2.1).length c) (bytesOf f.2.2.2.1)]) (fun ch aa=>¬ fL f.2.2.2.1∧ch=fJ 39 4∧aa=[])):=by
 obtain ⟨b1,b2,b3,b4,iL,kG,gF,kf,nj,rF,pH,n5,ux,uy,uz⟩:=hl;obtain ⟨a8,a9,c6,cQ,cR,cS,cT,b_,dV,dW,cY,cX,dX,bk,bc,bB,bG,bD,bE,bF,bn,cx,cn,bJ,bI,cq,rfl,p1,p2,p3,gT,gL,jb,gU,bU,b7,bO,b5,bL,bN,bP,bW,bK,ja,e5,gS,bT,b6,fp,hY,iT,cc,bX,jq⟩:=ck.sh hf;refine aj.o func162 fun g hg R hR=>?_;have h:=h.mono hg;have hf:=hf.mono hg;have bU:=bU.mono hg;have b7:=b7.mono hg;have bO:=bO.mono hg;have b5:=b5.mono hg;have bL:=bL.mono hg;have bN:=bN.mono hg;have bP:=bP.mono hg;have bW:=bW.mono hg;have bK:=bK.mono hg;have bT:=bT.mono hg;have b6:=b6.mono hg;have cc:=cc.mono hg;have bX:=bX.mono hg;refine U 11 ?_;refine O.cV (.p rfl) rfl af rfl rfl ((CB (by unfold c4 at *;omega))) (fun ch au w hX hW=>by (obtain ⟨hb,rfl,rfl⟩:=hX;exact hR _ _ w ⟨hb,rfl,rfl⟩ hW)) ?_;rintro _ _ ⟨GH,a8,bk,rfl,rfl⟩;refine U 2 ?_;exact S.rt results162 rfl hR ⟨GH,a8,bk,rfl,rfl⟩
theorem qB {r:Fr} {va:Value} {b:List UInt8} {z:Int} (hl:b.length≤1000000000000):aj prog 232 #[va,.int .i64 z] r [ak ag.u8 5 va b] (dg (fun v aa=>z=0∧∃ a c,v=.slice a (bytesOf b).length c∧aa=[ak ag.u8 5 (.slice a (bytesOf b).length c) (bytesOf b),ak ag.u8 5 va b]) (fun ch aa=>z≠0∧ch=fJ 39 4∧aa=[ak ag.u8 5 va b])) :=
 (aj.Is (bs:=[ak ag.u8 5 va b]) fun m hm hd=>TO ((u4 hm).right hd) hl).mono fun e au ⟨eX,a,q⟩=>by
  subst q
  cases e with
  |returned v=>obtain ⟨h1,a1,c1,rfl,rfl⟩:=a;exact ⟨h1,a1,c1,rfl,rfl⟩
  |panicked ch=>obtain ⟨h1,h2,rfl⟩:=a;exact ⟨h1,h2,rfl⟩
  |outgrown=>exact a.elim
theorem aao {r:Fr} {b:Nat} {cs:List Value} {y:Value} {f:aP} (hf:ck.rel r cs f) (h:cg r ⟨b,0,none⟩ (cs++[y])) (hl:jD c4 f):aj prog 156 #[.pointer (some ⟨b,0,none⟩)] r []
  (dg (fun v aa=>(∃ x,f.2.2.2.2.2.2.2.2.2.1=[x]∧fF x=true)∧∃ a c,v=.slice a (bytesOf (f.2.2.2.2.2.2.2.2.2.1.map cm).flatten).length c∧aa=[ak ag.u8 5 (.slice a (bytesOf (f.2.2.2.2.2.2.2.2.2.1.map cm).flatten).length c) (bytesOf (f.2.2.2.2.2.2.2.2.2.1.map cm).flatten)]) (fun ch aa=>¬ (∃ x,f.2.2.2.2.2.2.2.2.2.1=[x]∧fF x=true)∧ch=fJ 39 4∧aa=[])):=by
 obtain ⟨b1,b2,b3,b4,iL,kG,gF,kf,nj,rF,pH,n5,ux,uy,uz⟩:=hl;obtain ⟨a8,a9,c6,cQ,cR,cS,cT,b_,dV,dW,cY,cX,dX,bk,bc,bB,bG,bD,bE,bF,bn,cx,cn,bJ,bI,cq,rfl,p1,p2,p3,gT,gL,jb,gU,bU,b7,bO,b5,bL,bN,bP,bW,bK,ja,e5,gS,bT,b6,fp,hY,iT,cc,bX,jq⟩:=ck.sh hf;refine aj.o func156 fun g hg R hR=>?_;have h:=h.mono hg;have hf:=hf.mono hg;have bU:=bU.mono hg;have b7:=b7.mono hg;have bO:=bO.mono hg;have b5:=b5.mono hg;have bL:=bL.mono hg;have bN:=bN.mono hg;have bP:=bP.mono hg;have bW:=bW.mono hg;have bK:=bK.mono hg;have bT:=bT.mono hg;have b6:=b6.mono hg;have cc:=cc.mono hg;have bX:=bX.mono hg
 by_cases q1:f.2.2.2.2.2.2.2.2.2.1.length=1
 ·obtain ⟨x,hx⟩:=List.length_eq_one_iff.1 q1
  have h0:0<f.2.2.2.2.2.2.2.2.2.1.length:=by omega
  have hx0:f.2.2.2.2.2.2.2.2.2.1[0]=x:=by simp only [hx,List.getElem_cons_zero]
  have hrl:=abq x
  by_cases bg:fF x=true
  ·have hro:iU x=cm x∧lW x=0:=⟨by unfold iU;rw [if_pos bg],by unfold lW;rw [if_pos bg]⟩
   refine U 13 ?_;refine O.sT 9 rfl (by exact zdt ai) ?_;refine O.cV (.p rfl) rfl af rfl rfl (fD _) (fun ch au w hX hW=>by (exact absurd hX.1 aH)) ?_;rintro _ _ ⟨fw,rfl,rfl⟩;refine U 8 ?_;refine O.c7 (.p rfl) underlying36 oC rfl rfl (show _=(((0):Nat):Int) by omega) (bK) (h:=fun bW Lu C3 we=>?_);have hr:=we;obtain ⟨aaM,aaS,aaY,aa4,aa_,abe,rfl, -⟩:=bu.sh we;refine O.op (.p rfl) (.aJ isAgg118 af rfl C3) ?_;refine O.aN (.p rfl) rfl af rfl rfl ((Jo (x:=x) (hx0 ▸ hr))) ?_;rintro _ _ ⟨eE,cN,rfl,rfl⟩;refine O.q 2 rfl<|O.nr (.p rfl) rfl af rfl rfl an (qB ai) (fun ch au w hX hW=>by (exact absurd hro.2 hX.1)) ?_;rintro _ _ ⟨Mw,dW,cn,rfl,rfl⟩;refine U 2 ?_;have e1:bytesOf (f.2.2.2.2.2.2.2.2.2.1.map cm).flatten=bytesOf (iU x):=by rw [hx,hro.1];simp
   exact S.rt results156 rfl hR ⟨⟨x,hx,bg⟩,dW,cn,by rw [e1],by rw [e1]⟩
  ·have hro:lW x=4:=by unfold lW;rw [if_neg bg]
   have hn:¬ (∃ x,f.2.2.2.2.2.2.2.2.2.1=[x]∧fF x=true):=fun ⟨z,w,w2⟩=>bg (by rw [hx] at w;injection w with w;rw [w];exact w2);refine U 13 ?_;refine O.sT 9 rfl (by exact zdt ai) ?_;refine O.cV (.p rfl) rfl af rfl rfl (fD _) (fun ch au w hX hW=>by (exact absurd hX.1 aH)) ?_;rintro _ _ ⟨fw,rfl,rfl⟩;refine U 8 ?_;refine O.c7 (.p rfl) underlying36 oC rfl rfl (show _=(((0):Nat):Int) by omega) (bK) (h:=fun bW Lu C3 we=>?_);have hr:=we;obtain ⟨aaM,aaS,aaY,aa4,aa_,abe,rfl, -⟩:=bu.sh we;refine O.op (.p rfl) (.aJ isAgg118 af rfl C3) ?_;refine O.aN (.p rfl) rfl af rfl rfl ((Jo (x:=x) (hx0 ▸ hr))) ?_;rintro _ _ ⟨eE,cN,rfl,rfl⟩;refine O.q 2 rfl<|O.nr (.p rfl) rfl af rfl rfl an (qB ai) (fun ch au w hX hW=>by (obtain ⟨hb,rfl,rfl⟩:=hX;exact hR _ _ w ⟨hn,rfl,rfl⟩ hW.fU)) ?_;rintro _ _ ⟨Mw,dW,cn,rfl,rfl⟩;exact absurd Mw (by rw [hro];decide)
 ·have hn:¬ (∃ x,f.2.2.2.2.2.2.2.2.2.1=[x]∧fF x=true):=fun ⟨x,w,_⟩=>q1 (by rw [w];rfl)
  refine U 13 ?_;refine O.aB 9 rfl (by exact aA ai) ?_;refine O.cV (.p rfl) rfl af rfl rfl (fD _) (fun ch au w hX hW=>by (obtain ⟨hb,rfl,rfl⟩:=hX;exact hR _ _ w ⟨hn,rfl,rfl⟩ hW)) ?_;rintro _ _ ⟨fw,rfl,rfl⟩;exact absurd fw aH
theorem aam {r:Fr} {b:Nat} {cs:List Value} {y:Value} {f:aP} (hf:ck.rel r cs f) (h:cg r ⟨b,0,none⟩ (cs++[y])) (hl:jD c4 f):aj prog 147 #[.pointer (some ⟨b,0,none⟩)] r []
  (dg (fun v aa=>(dR f.2.2.2.2.2.1=true∧f.2.2.2.2.2.2.1.length=64)∧∃ a c,v=.slice a (bytesOf (bM f.2.2.2.2.2.1)++bytesOf f.2.2.2.2.2.2.1).length c∧aa=[ak ag.u8 5 (.slice a (bytesOf (bM f.2.2.2.2.2.1)++bytesOf f.2.2.2.2.2.2.1).length c) (bytesOf (bM f.2.2.2.2.2.1)++bytesOf f.2.2.2.2.2.2.1)]) (fun ch aa=>¬ (dR f.2.2.2.2.2.1=true∧f.2.2.2.2.2.2.1.length=64)∧ch=fJ 39 4∧aa=[])):=by
 obtain ⟨b1,b2,b3,b4,iL,kG,gF,kf,nj,rF,pH,n5,ux,uy,uz⟩:=hl;obtain ⟨a8,a9,c6,cQ,cR,cS,cT,b_,dV,dW,cY,cX,dX,bk,bc,bB,bG,bD,bE,bF,bn,cx,cn,bJ,bI,cq,rfl,p1,p2,p3,gT,gL,jb,gU,bU,b7,bO,b5,bL,bN,bP,bW,bK,ja,e5,gS,bT,b6,fp,hY,iT,cc,bX,jq⟩:=ck.sh hf;refine aj.o func147 fun g hg R hR=>?_;have h:=h.mono hg;have hf:=hf.mono hg;have bU:=bU.mono hg;have b7:=b7.mono hg;have bO:=bO.mono hg;have b5:=b5.mono hg;have bL:=bL.mono hg;have bN:=bN.mono hg;have bP:=bP.mono hg;have bW:=bW.mono hg;have bK:=bK.mono hg;have bT:=bT.mono hg;have b6:=b6.mono hg;have cc:=cc.mono hg;have bX:=bX.mono hg;have iA:bx.rel g.h [.int .i64 f.2.2.2.2.2.1.1,.int .i64 f.2.2.2.2.2.1.2.1,.int .i64 f.2.2.2.2.2.1.2.2.1,.slice a8 f.2.2.2.2.2.1.2.2.2.1.length bk,.slice a9 f.2.2.2.2.2.1.2.2.2.2.1.length bc] f.2.2.2.2.2.1:=bx.mk gL jb gU bU b7
 by_cases bg:f.2.2.2.2.2.2.1.length=64
 ·by_cases q1:dR f.2.2.2.2.2.1=true
  ·have hro:fZ f.2.2.2.2.2.1=bM f.2.2.2.2.2.1∧mw f.2.2.2.2.2.1=0:=⟨by unfold fZ;rw [if_pos q1],by unfold mw;rw [if_pos q1]⟩
   have hrl:=lZ q1;refine U 13 ?_;refine O.sT 9 rfl (by exact zdt ai) ?_;refine O.cV (.p rfl) rfl af rfl rfl (fD _) (fun ch au w hX hW=>by (exact absurd hX.1 aH)) ?_;rintro _ _ ⟨fw,rfl,rfl⟩;refine U 2 ?_;refine S.aY (L:=[0,1,2,3,4,9,10,11,12,13,5,6,7,8,14,15,16,17]) F.mixed af ?_;refine U 4 ?_;refine .quiet (.p rfl) rfl (fun _=>.aJ (cs:=[_,_,_,_,_]) isAgg27 af rfl ((h.drop 5).take 5)) ?_;refine U 5 ?_;refine ah.aN (.p rfl) af rfl af rfl rfl ((yQ iA)) ?_;rintro _ _ ⟨b_,bn,rfl,rfl⟩;rw [hro.1,hro.2];refine ah.q 2 rfl<|ah.nr (.p rfl) af rfl af rfl rfl an (qB ai) (fun ch au w hX hW=>by (exact absurd rfl hX.1)) ?_;rintro _ _ ⟨Mv,eF,cO,rfl,rfl⟩;refine ah.aN (.p rfl) af rfl af rfl rfl ((nS bO ai)) ?_;rintro _ _ ⟨iJ,dG,rfl,rfl⟩;refine ah.bw (.p rfl) af (T:=ag.val) (ys:=[.slice eF (bytesOf (bM f.2.2.2.2.2.1)).length cO,.slice iJ (bytesOf f.2.2.2.2.2.2.1).length dG]) underlying28 dH aq rfl rfl ⟨⟨rfl,rfl⟩,⟨rfl,rfl⟩,trivial⟩ aq (fun cX bI=>?_)
   refine ah.dh (.p rfl) af rfl af rfl rfl (bs:=[ak ag.val 22 (.slice cX 2 bI) [.slice eF (bytesOf (bM f.2.2.2.2.2.1)).length cO,.slice iJ (bytesOf f.2.2.2.2.2.2.1).length dG],ak ag.u8 5 (.slice eF (bytesOf (bM f.2.2.2.2.2.1)).length cO) (bytesOf (bM f.2.2.2.2.2.1)),ak ag.u8 5 (.slice iJ (bytesOf f.2.2.2.2.2.2.1).length dG) (bytesOf f.2.2.2.2.2.2.1)]) ct (fun m hm hd=>mz (xss:=[bytesOf (bM f.2.2.2.2.2.1),bytesOf f.2.2.2.2.2.2.1]) ((hm.arr.right hd).rows ⟨hm.tail.arr.right hd,hm.tail.tail.arr.right hd,trivial⟩) (by simp only [nV,List.flatten_nil,List.append_nil,cI,fI];omega)) ?_;rintro _ _ ⟨dX,cq,rfl,rfl⟩;refine U 2 ?_;have e1:[bytesOf (bM f.2.2.2.2.2.1),bytesOf f.2.2.2.2.2.2.1].flatten=bytesOf (bM f.2.2.2.2.2.1)++bytesOf f.2.2.2.2.2.2.1:=by simp
   exact S.rt results147 rfl hR ⟨⟨q1,bg⟩,dX,cq,by rw [← e1],by rw [← e1]⟩
  ·have hro:mw f.2.2.2.2.2.1=4:=by unfold mw;rw [if_neg q1]
   have k_:(fZ f.2.2.2.2.2.1).length=0:=by unfold fZ;rw [if_neg q1];rfl
   have hn:¬ (dR f.2.2.2.2.2.1=true∧f.2.2.2.2.2.2.1.length=64):=fun w=>q1 w.1;refine U 13 ?_;refine O.sT 9 rfl (by exact zdt ai) ?_;refine O.cV (.p rfl) rfl af rfl rfl (fD _) (fun ch au w hX hW=>by (exact absurd hX.1 aH)) ?_;rintro _ _ ⟨fw,rfl,rfl⟩;refine U 2 ?_;refine S.aY (L:=[0,1,2,3,4,9,10,11,12,13,5,6,7,8,14,15,16,17]) F.mixed af ?_;refine U 4 ?_;refine .quiet (.p rfl) rfl (fun _=>.aJ (cs:=[_,_,_,_,_]) isAgg27 af rfl ((h.drop 5).take 5)) ?_;refine U 5 ?_;refine ah.aN (.p rfl) af rfl af rfl rfl ((yQ iA)) ?_;rintro _ _ ⟨b_,bn,rfl,rfl⟩;rw [hro];refine ah.q 2 rfl<|ah.nr (.p rfl) af rfl af rfl rfl an (qB ai) (fun ch au w hX hW=>by (obtain ⟨hb,rfl,rfl⟩:=hX;exact hR _ _ w ⟨hn,rfl,rfl⟩ hW.fU)) ?_;rintro _ _ ⟨Mv,eF,cO,rfl,rfl⟩;exact absurd Mv aq
 ·have hn:¬ (dR f.2.2.2.2.2.1=true∧f.2.2.2.2.2.2.1.length=64):=fun w=>bg w.2
  refine U 13 ?_;refine O.aB 9 rfl (by exact aA ai) ?_;refine O.cV (.p rfl) rfl af rfl rfl (fD _) (fun ch au w hX hW=>by (obtain ⟨hb,rfl,rfl⟩:=hX;exact hR _ _ w ⟨hn,rfl,rfl⟩ hW)) ?_;rintro _ _ ⟨fw,rfl,rfl⟩;exact absurd fw aH
theorem aai {r:Fr} {b:Nat} {cs:List Value} {y:Value} {f:aP} (hf:ck.rel r cs f) (h:cg r ⟨b,0,none⟩ (cs++[y])) (hl:jD c4 f):aj prog 168 #[.pointer (some ⟨b,0,none⟩)] r []
  (dg (fun v aa=>k6 f.2.2.2.2.2.2.2.2.2.2.1=true∧∃ a c,v=.slice a (bytesOf (j0 f.2.2.2.2.2.2.2.2.2.2.1)).length c∧aa=[ak ag.u8 5 (.slice a (bytesOf (j0 f.2.2.2.2.2.2.2.2.2.2.1)).length c) (bytesOf (j0 f.2.2.2.2.2.2.2.2.2.2.1))]) (fun ch aa=>¬ k6 f.2.2.2.2.2.2.2.2.2.2.1=true∧ch=fJ 39 4∧aa=[])):=by
 obtain ⟨b1,b2,b3,b4,iL,kG,gF,kf,nj,rF,pH,n5,ux,uy,uz⟩:=hl;obtain ⟨a8,a9,c6,cQ,cR,cS,cT,b_,dV,dW,cY,cX,dX,bk,bc,bB,bG,bD,bE,bF,bn,cx,cn,bJ,bI,cq,rfl,p1,p2,p3,gT,gL,jb,gU,bU,b7,bO,b5,bL,bN,bP,bW,bK,ja,e5,gS,bT,b6,fp,hY,iT,cc,bX,jq⟩:=ck.sh hf;refine aj.o func168 fun g hg R hR=>?_;have h:=h.mono hg;have hf:=hf.mono hg;have bU:=bU.mono hg;have b7:=b7.mono hg;have bO:=bO.mono hg;have b5:=b5.mono hg;have bL:=bL.mono hg;have bN:=bN.mono hg;have bP:=bP.mono hg;have bW:=bW.mono hg;have bK:=bK.mono hg;have bT:=bT.mono hg;have b6:=b6.mono hg;have cc:=cc.mono hg;have bX:=bX.mono hg;have iA:eK.rel g.h [.int .i64 f.2.2.2.2.2.2.2.2.2.2.1.1.1,.int .i64 f.2.2.2.2.2.2.2.2.2.2.1.1.2.1,.int .i64 f.2.2.2.2.2.2.2.2.2.2.1.1.2.2.1,.slice dW f.2.2.2.2.2.2.2.2.2.2.1.1.2.2.2.1.length cn,.slice cY f.2.2.2.2.2.2.2.2.2.2.1.1.2.2.2.2.1.length bJ,.int .i64 f.2.2.2.2.2.2.2.2.2.2.1.2.1.1,.int .i64 f.2.2.2.2.2.2.2.2.2.2.1.2.1.2.1,.int .i64 f.2.2.2.2.2.2.2.2.2.2.1.2.1.2.2.1,.slice cX f.2.2.2.2.2.2.2.2.2.2.1.2.1.2.2.2.1.length bI,.slice dX f.2.2.2.2.2.2.2.2.2.2.1.2.1.2.2.2.2.1.length cq] f.2.2.2.2.2.2.2.2.2.2.1:=eK.mk ja e5 gS bT b6 fp hY iT cc bX
 by_cases q1:k6 f.2.2.2.2.2.2.2.2.2.2.1=true
 ·have hro:kK f.2.2.2.2.2.2.2.2.2.2.1=j0 f.2.2.2.2.2.2.2.2.2.2.1∧n_ f.2.2.2.2.2.2.2.2.2.2.1=0:=⟨by unfold kK;rw [if_pos q1],by unfold n_;rw [if_pos q1]⟩
  have hrl:=xX q1;refine U 10 ?_;refine O.op (.p rfl) (.aJ (cs:=[_,_,_,_,_,_,_,_,_,_]) isAgg38 af rfl ((h.drop 18).take 10)) ?_;refine O.aN (.p rfl) rfl af rfl rfl ((LA iA)) ?_;rintro ey _ ⟨QV,Rz,rfl,rfl⟩;rw [hro.1,hro.2];refine O.q 2 rfl<|O.nr (.p rfl) rfl af rfl rfl an (qB ai) (fun ch au w hX hW=>by (exact absurd rfl hX.1)) ?_;rintro v11 _ ⟨rR,KX,Lh,rfl,rfl⟩;refine U 2 ?_;exact S.rt results168 rfl hR ⟨q1,KX,Lh,rfl,rfl⟩
 ·have hro:n_ f.2.2.2.2.2.2.2.2.2.2.1=4:=by unfold n_;rw [if_neg q1]
  have k_:(kK f.2.2.2.2.2.2.2.2.2.2.1).length=0:=by unfold kK;rw [if_neg q1];rfl
  have hn:=q1;refine U 10 ?_;refine O.op (.p rfl) (.aJ (cs:=[_,_,_,_,_,_,_,_,_,_]) isAgg38 af rfl ((h.drop 18).take 10)) ?_;refine O.aN (.p rfl) rfl af rfl rfl ((LA iA)) ?_;rintro ey _ ⟨QV,Rz,rfl,rfl⟩;rw [hro];refine O.q 2 rfl<|O.nr (.p rfl) rfl af rfl rfl an (qB ai) (fun ch au w hX hW=>by (obtain ⟨hb,rfl,rfl⟩:=hX;exact hR _ _ w ⟨hn,rfl,rfl⟩ hW.fU)) ?_;rintro v11 _ ⟨rR,KX,Lh,rfl,rfl⟩;exact absurd rR aq
theorem Qj (k:UInt8):IntKind.i64.wrap (k.toNat:Int)=(k.toNat:Int):=by
 have:=k.toNat_lt;rw [Qk _ ai,p9,if_pos ai]
theorem yO {α:Type} {b:α→List UInt8} {l:List α} {k:Nat} (h:k<l.length):bh b (l.take k)++b l[k]=bh b (l.take (k+1)):=by
 rw [j9 h];unfold bh;rw [List.map_append,List.flatten_append];simp
theorem aal {r:Fr} {b:Nat} {cs:List Value} {y:Value} {f:aP} (hf:ck.rel r cs f) (h:cg r ⟨b,0,none⟩ (cs++[y])) (hl:jD c4 f) (kO:(f.2.2.2.2.2.2.2.2.1.2.1.length≤1000000000000∧f.2.2.2.2.2.2.2.2.1.2.2.1.length≤1000000000000)∧(f.2.2.2.2.2.2.2.2.1.2.2.2.1.length≤20000∧∀ y∈f.2.2.2.2.2.2.2.2.1.2.2.2.1,y.2.1.length≤10000)) (aU:cg r ⟨0,0,none⟩ (cz fq)) (hK:cg r ⟨1,0,none⟩ (cz gW)):aj prog 153 #[.pointer (some ⟨b,0,none⟩)] r []
  (dg (fun v aa=>(lu f.2.2.2.2.1∧gA f.2.2.2.2.2.2.2.2.1)∧∃ a c,v=.slice a (bytesOf f.2.2.2.2.1++kz f.2.2.2.2.2.2.2.2.1).length c∧aa=[ak ag.u8 5 (.slice a (bytesOf f.2.2.2.2.1++kz f.2.2.2.2.2.2.2.2.1).length c) (bytesOf f.2.2.2.2.1++kz f.2.2.2.2.2.2.2.2.1)]) (fun ch aa=>¬ (lu f.2.2.2.2.1∧gA f.2.2.2.2.2.2.2.2.1)∧ch=fJ 39 4∧aa=[])):=by
 obtain ⟨b1,b2,b3,b4,iL,kG,gF,kf,nj,rF,pH,n5,ux,uy,uz⟩:=hl;obtain ⟨a8,a9,c6,cQ,cR,cS,cT,b_,dV,dW,cY,cX,dX,bk,bc,bB,bG,bD,bE,bF,bn,cx,cn,bJ,bI,cq,rfl,p1,p2,p3,gT,gL,jb,gU,bU,b7,bO,b5,bL,bN,bP,bW,bK,ja,e5,gS,bT,b6,fp,hY,iT,cc,bX,jq⟩:=ck.sh hf;refine aj.o func153 fun g hg R hR=>?_;have aU:=aU.mono hg;have hK:=hK.mono hg;have h:=h.mono hg;have hf:=hf.mono hg;have bU:=bU.mono hg;have b7:=b7.mono hg;have bO:=bO.mono hg;have b5:=b5.mono hg;have bL:=bL.mono hg;have bN:=bN.mono hg;have bP:=bP.mono hg;have bW:=bW.mono hg;have bK:=bK.mono hg;have bT:=bT.mono hg;have b6:=b6.mono hg;have cc:=cc.mono hg;have bX:=bX.mono hg;have gK:fj.rel g.h [aT f.2.2.2.2.2.2.2.2.1.1,.slice cS f.2.2.2.2.2.2.2.2.1.2.1.length bE,.slice cT f.2.2.2.2.2.2.2.2.1.2.2.1.length bF,.slice b_ f.2.2.2.2.2.2.2.2.1.2.2.2.1.length bn] f.2.2.2.2.2.2.2.2.1:=fj.mk bN bP bW;refine U 10 ?_;refine O.op (.p rfl) (.aJ (cs:=[_,_,_,_]) isAgg35 af rfl ((h.drop 13).take 4)) ?_;refine O.aD (.p rfl) (.alloc (cs:=[.int .u8 0,.slice none 0 0,.slice none 0 0,.slice none 0 0]) zeroValue35 rfl) ?_;rintro _ _ ⟨b3,rfl,rfl⟩;refine U 1 ?_
 refine O.nil<|S.seq<|S.cH (b:=b3) (cs' :=[aT f.2.2.2.2.2.2.2.2.1.1,.slice cS f.2.2.2.2.2.2.2.2.1.2.1.length bE,.slice cT f.2.2.2.2.2.2.2.2.1.2.2.1.length bF,.slice b_ f.2.2.2.2.2.2.2.2.1.2.2.2.1.length bn]) an rfl ?_;refine S.cy an fun g hs hm h3=>?_;replace hg:=bf hg hs;replace hR:=a_ hR hm
 try replace aU:=aU.mono hs
 try replace hK:=hK.mono hs
 try replace h:=h.mono hs
 try replace hf:=hf.mono hs
 try replace bU:=bU.mono hs
 try replace b7:=b7.mono hs
 try replace bO:=bO.mono hs
 try replace b5:=b5.mono hs
 try replace bL:=bL.mono hs
 try replace bN:=bN.mono hs
 try replace bP:=bP.mono hs
 try replace bW:=bW.mono hs
 try replace bK:=bK.mono hs
 try replace bT:=bT.mono hs
 try replace b6:=b6.mono hs
 try replace cc:=cc.mono hs
 try replace bX:=bX.mono hs
 try replace gK:=gK.mono hs
 clear hs hm
 by_cases q1:gA f.2.2.2.2.2.2.2.2.1
 ·have hs:=(Og f.2.2.2.2.2.2.2.2.1).2 q1
  refine S.region rfl<|O.op (.p rfl) (.aJ isAgg35 af rfl h3) ?_;refine O.aN (.p rfl) rfl af rfl rfl ((Oh gK kO.1 ⟨by have:=kO.2.1;omega,fun y hy=>by have:=kO.2.2 y hy;omega⟩ aU hK)) ?_;rintro _ _ ⟨dF,cj,rfl,rfl⟩;rw [hs];refine U 2 ?_;refine O.sT 15 rfl dU ?_;refine O.cV (.p rfl) rfl af rfl rfl (fD _) (fun ch au w hX hW=>by (exact absurd hX.1 aH)) ?_;rintro _ _ ⟨fw,rfl,rfl⟩;refine O.nil<|S.seq<|S.gH an fun g hs hm hsum=>?_;replace hg:=bf hg hs;replace hR:=a_ hR hm
  try replace aU:=aU.mono hs
  try replace hK:=hK.mono hs
  try replace h:=h.mono hs
  try replace hf:=hf.mono hs
  try replace bU:=bU.mono hs
  try replace b7:=b7.mono hs
  try replace bO:=bO.mono hs
  try replace b5:=b5.mono hs
  try replace bL:=bL.mono hs
  try replace bN:=bN.mono hs
  try replace bP:=bP.mono hs
  try replace bW:=bW.mono hs
  try replace bK:=bK.mono hs
  try replace bT:=bT.mono hs
  try replace b6:=b6.mono hs
  try replace cc:=cc.mono hs
  try replace bX:=bX.mono hs
  try replace gK:=gK.mono hs
  try replace h3:=h3.mono hs
  clear hs hm
  by_cases bg:lu f.2.2.2.2.1
  ·
   refine S.aY (L:=[0,1,2,3,4,6,7,8,10,11,13,14,16,17,18,5,9,12,15,19,20,21,22]) F.mixed af ?_;refine U 7 ?_;refine .quiet (.p rfl) rfl (fun _=>.iY underlying32 underlying3 rfl)<|ah.slot 25 (v' :=.int .i64 (f.2.2.2.2.2.2.2.2.1.1.toNat:Int)) rfl (by exact congrArg (Value.int .i64) (Qj f.2.2.2.2.2.2.2.2.1.1)) ?_;refine U 7 ?_;refine ah.cV (.p rfl) af rfl af rfl rfl ((FW gT)) (fun ch au w hX hW=>by (exact absurd bg hX.1)) ?_;rintro _ _ ⟨CU,cY,bJ,rfl,rfl⟩;refine ah.aN (.p rfl) af rfl af rfl rfl ((ir _)) ?_;rintro ij _ ⟨zk,zz,rfl,rfl⟩;refine ah.aN (.p rfl) af rfl af rfl rfl ((nS bN ai)) ?_;rintro _ _ ⟨uv,rH,rfl,rfl⟩;refine ah.aN (.p rfl) af rfl af rfl rfl ((nS bP ai)) ?_;rintro _ _ ⟨ke,kj,rfl,rfl⟩;refine ah.aN (.p rfl) af rfl af rfl rfl ((ir _)) ?_;rintro _ _ ⟨nZ,n8,rfl,rfl⟩;refine ah.bw (.p rfl) af (T:=ag.val) (ys:=[.slice cY (bytesOf f.2.2.2.2.1).length bJ,.slice zk 8 zz,.slice uv (bytesOf f.2.2.2.2.2.2.2.2.1.2.1).length rH,.slice ke (bytesOf f.2.2.2.2.2.2.2.2.1.2.2.1).length kj,.slice nZ 8 n8]) underlying28 dH aq rfl rfl ⟨⟨rfl,rfl⟩,⟨rfl,rfl⟩,⟨rfl,rfl⟩,⟨rfl,rfl⟩,⟨rfl,rfl⟩,trivial⟩ aq (fun l9 mc=>?_)
   refine ah.dh (.p rfl) af rfl af rfl rfl (bs:=[ak ag.val 22 (.slice l9 5 mc) [.slice cY (bytesOf f.2.2.2.2.1).length bJ,.slice zk 8 zz,.slice uv (bytesOf f.2.2.2.2.2.2.2.2.1.2.1).length rH,.slice ke (bytesOf f.2.2.2.2.2.2.2.2.1.2.2.1).length kj,.slice nZ 8 n8],ak ag.u8 5 (.slice cY (bytesOf f.2.2.2.2.1).length bJ) (bytesOf f.2.2.2.2.1),ak ag.u8 5 (.slice zk 8 zz) (be ↑(f.2.2.2.2.2.2.2.2.1.1.toNat)),ak ag.u8 5 (.slice uv (bytesOf f.2.2.2.2.2.2.2.2.1.2.1).length rH) (bytesOf f.2.2.2.2.2.2.2.2.1.2.1),ak ag.u8 5 (.slice ke (bytesOf f.2.2.2.2.2.2.2.2.1.2.2.1).length kj) (bytesOf f.2.2.2.2.2.2.2.2.1.2.2.1),ak ag.u8 5 (.slice nZ 8 n8) (be ↑(f.2.2.2.2.2.2.2.2.1.2.2.2.1.length))]) ct (fun m hm hd=>mz (xss:=[bytesOf f.2.2.2.2.1,be ↑(f.2.2.2.2.2.2.2.2.1.1.toNat),bytesOf f.2.2.2.2.2.2.2.2.1.2.1,bytesOf f.2.2.2.2.2.2.2.2.1.2.2.1,be ↑(f.2.2.2.2.2.2.2.2.1.2.2.2.1.length)]) ((hm.arr.right hd).rows ⟨hm.tail.arr.right hd,hm.tail.tail.arr.right hd,hm.tail.tail.tail.arr.right hd,hm.tail.tail.tail.tail.arr.right hd,hm.tail.tail.tail.tail.tail.arr.right hd,trivial⟩) (by have:=CU.1;simp only [nV,List.flatten_nil,List.append_nil,cI,fI,ga];omega)) ?_;rintro _ _ ⟨sS,sY,rfl,rfl⟩;refine ah.q 1 rfl<|bt.nil (S.seq (S.seq ?_))
   have e1:[bytesOf f.2.2.2.2.1,be ↑(f.2.2.2.2.2.2.2.2.1.1.toNat),bytesOf f.2.2.2.2.2.2.2.2.1.2.1,bytesOf f.2.2.2.2.2.2.2.2.1.2.2.1,be ↑(f.2.2.2.2.2.2.2.2.1.2.2.2.1.length)].flatten=bytesOf f.2.2.2.2.1++(be ↑(f.2.2.2.2.2.2.2.2.1.1.toNat)++(bytesOf f.2.2.2.2.2.2.2.2.1.2.1++(bytesOf f.2.2.2.2.2.2.2.2.1.2.2.1++be ↑(f.2.2.2.2.2.2.2.2.1.2.2.2.1.length)))):=by simp
   rw [e1];have x8:(bytesOf f.2.2.2.2.1++(be ↑(f.2.2.2.2.2.2.2.2.1.1.toNat)++(bytesOf f.2.2.2.2.2.2.2.2.1.2.1++(bytesOf f.2.2.2.2.2.2.2.2.1.2.2.1++be ↑(f.2.2.2.2.2.2.2.2.1.2.2.2.1.length))))).length≤100000000000000:=by have:=CU.1;simp only [cI,fI,ga];omega
   generalize (bytesOf f.2.2.2.2.1++(be ↑(f.2.2.2.2.2.2.2.2.1.1.toNat)++(bytesOf f.2.2.2.2.2.2.2.2.1.2.1++(bytesOf f.2.2.2.2.2.2.2.2.1.2.2.1++be ↑(f.2.2.2.2.2.2.2.2.1.2.2.2.1.length)))))=H at e1 x8 ⊢;refine S.fW (A:=ak ag.val 22 (.slice l9 5 mc) [.slice cY (bytesOf f.2.2.2.2.1).length bJ,.slice zk 8 zz,.slice uv (bytesOf f.2.2.2.2.2.2.2.2.1.2.1).length rH,.slice ke (bytesOf f.2.2.2.2.2.2.2.2.1.2.2.1).length kj,.slice nZ 8 n8]) an fun g hs hm ⟨_,x',s'⟩=>?_;have y1:=(fun s x=>av.mono s (ak.arr x)) s' x';clear x' s';replace hg:=bf hg hs;replace hR:=a_ hR hm
   try replace aU:=aU.mono hs
   try replace hK:=hK.mono hs
   try replace h:=h.mono hs
   try replace hf:=hf.mono hs
   try replace bU:=bU.mono hs
   try replace b7:=b7.mono hs
   try replace bO:=bO.mono hs
   try replace b5:=b5.mono hs
   try replace bL:=bL.mono hs
   try replace bN:=bN.mono hs
   try replace bP:=bP.mono hs
   try replace bW:=bW.mono hs
   try replace bK:=bK.mono hs
   try replace bT:=bT.mono hs
   try replace b6:=b6.mono hs
   try replace cc:=cc.mono hs
   try replace bX:=bX.mono hs
   try replace gK:=gK.mono hs
   try replace h3:=h3.mono hs
   try replace hsum:=hsum.mono hs
   clear hs hm;refine S.fW (A:=ak ag.u8 5 (.slice cY (bytesOf f.2.2.2.2.1).length bJ) (bytesOf f.2.2.2.2.1)) an fun g hs hm ⟨_,x',s'⟩=>?_;have eu:=(fun s x=>av.mono s (ak.arr x)) s' x';clear x' s';replace hg:=bf hg hs;replace hR:=a_ hR hm
   try replace aU:=aU.mono hs
   try replace hK:=hK.mono hs
   try replace h:=h.mono hs
   try replace hf:=hf.mono hs
   try replace bU:=bU.mono hs
   try replace b7:=b7.mono hs
   try replace bO:=bO.mono hs
   try replace b5:=b5.mono hs
   try replace bL:=bL.mono hs
   try replace bN:=bN.mono hs
   try replace bP:=bP.mono hs
   try replace bW:=bW.mono hs
   try replace bK:=bK.mono hs
   try replace bT:=bT.mono hs
   try replace b6:=b6.mono hs
   try replace cc:=cc.mono hs
   try replace bX:=bX.mono hs
   try replace gK:=gK.mono hs
   try replace h3:=h3.mono hs
   try replace hsum:=hsum.mono hs
   try replace y1:=y1.mono hs
   clear hs hm;refine S.fW (A:=ak ag.u8 5 (.slice zk 8 zz) (be ↑(f.2.2.2.2.2.2.2.2.1.1.toNat))) an fun g hs hm ⟨_,x',s'⟩=>?_;have iH:=(fun s x=>av.mono s (ak.arr x)) s' x';clear x' s';replace hg:=bf hg hs;replace hR:=a_ hR hm
   try replace aU:=aU.mono hs
   try replace hK:=hK.mono hs
   try replace h:=h.mono hs
   try replace hf:=hf.mono hs
   try replace bU:=bU.mono hs
   try replace b7:=b7.mono hs
   try replace bO:=bO.mono hs
   try replace b5:=b5.mono hs
   try replace bL:=bL.mono hs
   try replace bN:=bN.mono hs
   try replace bP:=bP.mono hs
   try replace bW:=bW.mono hs
   try replace bK:=bK.mono hs
   try replace bT:=bT.mono hs
   try replace b6:=b6.mono hs
   try replace cc:=cc.mono hs
   try replace bX:=bX.mono hs
   try replace gK:=gK.mono hs
   try replace h3:=h3.mono hs
   try replace hsum:=hsum.mono hs
   try replace y1:=y1.mono hs
   try replace eu:=eu.mono hs
   clear hs hm;refine S.fW (A:=ak ag.u8 5 (.slice uv (bytesOf f.2.2.2.2.2.2.2.2.1.2.1).length rH) (bytesOf f.2.2.2.2.2.2.2.2.1.2.1)) an fun g hs hm ⟨_,x',s'⟩=>?_;have jV:=(fun s x=>av.mono s (ak.arr x)) s' x';clear x' s';replace hg:=bf hg hs;replace hR:=a_ hR hm
   try replace aU:=aU.mono hs
   try replace hK:=hK.mono hs
   try replace h:=h.mono hs
   try replace hf:=hf.mono hs
   try replace bU:=bU.mono hs
   try replace b7:=b7.mono hs
   try replace bO:=bO.mono hs
   try replace b5:=b5.mono hs
   try replace bL:=bL.mono hs
   try replace bN:=bN.mono hs
   try replace bP:=bP.mono hs
   try replace bW:=bW.mono hs
   try replace bK:=bK.mono hs
   try replace bT:=bT.mono hs
   try replace b6:=b6.mono hs
   try replace cc:=cc.mono hs
   try replace bX:=bX.mono hs
   try replace gK:=gK.mono hs
   try replace h3:=h3.mono hs
   try replace hsum:=hsum.mono hs
   try replace y1:=y1.mono hs
   try replace eu:=eu.mono hs
   try replace iH:=iH.mono hs
   clear hs hm;refine S.fW (A:=ak ag.u8 5 (.slice ke (bytesOf f.2.2.2.2.2.2.2.2.1.2.2.1).length kj) (bytesOf f.2.2.2.2.2.2.2.2.1.2.2.1)) an fun g hs hm ⟨_,x',s'⟩=>?_;have oK:=(fun s x=>av.mono s (ak.arr x)) s' x';clear x' s';replace hg:=bf hg hs;replace hR:=a_ hR hm
   try replace aU:=aU.mono hs
   try replace hK:=hK.mono hs
   try replace h:=h.mono hs
   try replace hf:=hf.mono hs
   try replace bU:=bU.mono hs
   try replace b7:=b7.mono hs
   try replace bO:=bO.mono hs
   try replace b5:=b5.mono hs
   try replace bL:=bL.mono hs
   try replace bN:=bN.mono hs
   try replace bP:=bP.mono hs
   try replace bW:=bW.mono hs
   try replace bK:=bK.mono hs
   try replace bT:=bT.mono hs
   try replace b6:=b6.mono hs
   try replace cc:=cc.mono hs
   try replace bX:=bX.mono hs
   try replace gK:=gK.mono hs
   try replace h3:=h3.mono hs
   try replace hsum:=hsum.mono hs
   try replace y1:=y1.mono hs
   try replace eu:=eu.mono hs
   try replace iH:=iH.mono hs
   try replace jV:=jV.mono hs
   clear hs hm;refine S.fW (A:=ak ag.u8 5 (.slice nZ 8 n8) (be ↑(f.2.2.2.2.2.2.2.2.1.2.2.2.1.length))) an fun g hs hm ⟨_,x',s'⟩=>?_;have qc:=(fun s x=>av.mono s (ak.arr x)) s' x';clear x' s';replace hg:=bf hg hs;replace hR:=a_ hR hm
   try replace aU:=aU.mono hs
   try replace hK:=hK.mono hs
   try replace h:=h.mono hs
   try replace hf:=hf.mono hs
   try replace bU:=bU.mono hs
   try replace b7:=b7.mono hs
   try replace bO:=bO.mono hs
   try replace b5:=b5.mono hs
   try replace bL:=bL.mono hs
   try replace bN:=bN.mono hs
   try replace bP:=bP.mono hs
   try replace bW:=bW.mono hs
   try replace bK:=bK.mono hs
   try replace bT:=bT.mono hs
   try replace b6:=b6.mono hs
   try replace cc:=cc.mono hs
   try replace bX:=bX.mono hs
   try replace gK:=gK.mono hs
   try replace h3:=h3.mono hs
   try replace hsum:=hsum.mono hs
   try replace y1:=y1.mono hs
   try replace eu:=eu.mono hs
   try replace iH:=iH.mono hs
   try replace jV:=jV.mono hs
   try replace oK:=oK.mono hs
   clear hs hm;refine S.hU (T:=ag.u8) (e:=5) (v' :=.slice sS (H++bh eB (f.2.2.2.2.2.2.2.2.1.2.2.2.1.take 0)).length sY) (xs' :=H++bh eB (f.2.2.2.2.2.2.2.2.1.2.2.2.1.take 0)) an (by simp [bh]) (by simp [bh]) ?_;refine S.slot 4 (v' :=.slice sS (H++bh eB (f.2.2.2.2.2.2.2.2.1.2.2.2.1.take 0)).length sY) rfl (by simp [bh]) ?_;refine U 7 ?_;refine S.i_ (ι:=Nat) (dy:=Option Addr × Nat) (fun k s=>k≤f.2.2.2.2.2.2.2.2.1.2.2.2.1.length) (fun k s=>[(42,.int .i64 (k:Int)),(4,.slice s.1 (H++bh eB (f.2.2.2.2.2.2.2.2.1.2.2.2.1.take k)).length s.2)]) [(40,_),(41,_)] (fun k s=>[ak ag.u8 5 (.slice s.1 (H++bh eB (f.2.2.2.2.2.2.2.2.1.2.2.2.1.take k)).length s.2) (H++bh eB (f.2.2.2.2.2.2.2.2.1.2.2.2.1.take k))]) (fun k s=>f.2.2.2.2.2.2.2.2.1.2.2.2.1.length - k) (0) ((sS,sY)) aH aO aO rfl fun k s hx ih=>?_;have aW:=bS (g:=g);refine U 5 ?_;refine S.cd rfl (fun qD=>?_) fun qD=>?_
   ·have hk:k<f.2.2.2.2.2.2.2.2.1.2.2.2.1.length:=by omega
    have pU:=kO.2.2 _ (List.getElem_mem hk);have hlf:=q1.1.1 _ (List.getElem_mem hk);have gy:=yO (b:=eB) hk;have pT:(bh eB (f.2.2.2.2.2.2.2.2.1.2.2.2.1.take k)).length≤14080096*(f.2.2.2.2.2.2.2.2.1.2.2.2.1.take k).length:=r8 eB 14080096 _ fun z hz=>by
     have wu :=List.mem_of_mem_take hz;have h1:=(q1.1.1 z wu).1.2;have h2:=q7 (q1.1.1 z wu).2.1.1;have h3:=kO.2.2 z wu;simp only [eB,cI,fI];omega
    have hN:(f.2.2.2.2.2.2.2.2.1.2.2.2.1.take k).length=k:=by rw [mA];omega
    have Uk:=kO.2.1;refine U 5 ?_;refine O.dI (bW) (h:=fun ZX R4 nD HD=>?_);obtain ⟨l1,m1,rfl,l2,l3⟩:=dJ.sh HD;have l3:=l3;refine O.op (.p rfl) (.aJ isAgg120 af rfl nD) ?_;refine O.aD (.p rfl) (.alloc (cs:=[.string ⟨#[]⟩,.slice none 0 0]) zeroValue120 rfl) ?_;rintro _ _ ⟨kG,rfl,rfl⟩;refine U 2 ?_;generalize f.2.2.2.2.2.2.2.2.1.2.2.2.1[k]=z at *;have yh:=hlf.1.2;obtain ⟨_,wv,wz⟩:=Bi hlf.2.1;have pV:=q7 hlf.2.1.1;refine S.cH (b:=kG) (cs' :=[.string (str z.1),.slice l1 z.2.1.length m1]) an rfl ?_;refine S.cy an fun g hs hm h6=>?_;replace hg:=bf hg hs;replace hR:=a_ hR hm
    try replace aU:=aU.mono hs
    try replace hK:=hK.mono hs
    try replace h:=h.mono hs
    try replace hf:=hf.mono hs
    try replace bU:=bU.mono hs
    try replace b7:=b7.mono hs
    try replace bO:=bO.mono hs
    try replace b5:=b5.mono hs
    try replace bL:=bL.mono hs
    try replace bN:=bN.mono hs
    try replace bP:=bP.mono hs
    try replace bW:=bW.mono hs
    try replace bK:=bK.mono hs
    try replace bT:=bT.mono hs
    try replace b6:=b6.mono hs
    try replace cc:=cc.mono hs
    try replace bX:=bX.mono hs
    try replace gK:=gK.mono hs
    try replace h3:=h3.mono hs
    try replace hsum:=hsum.mono hs
    try replace y1:=y1.mono hs
    try replace eu:=eu.mono hs
    try replace iH:=iH.mono hs
    try replace jV:=jV.mono hs
    try replace oK:=oK.mono hs
    try replace qc:=qc.mono hs
    try replace nD:=nD.mono hs
    try replace l3:=l3.mono hs
    replace aW:=eT aW hm;clear hs hm;generalize kp:H++bh eB (f.2.2.2.2.2.2.2.2.1.2.2.2.1.take k)=jX at gy ⊢;have af':jX.length≤110000000000000:=by rw [← kp,cI];rw [hN] at pT;omega
    refine S.aY (L:=[0,1,2,4,5,3,6,7,8,9,10,11,12]) F.mixed af ?_;refine U 5 ?_;refine ah.aN (.p rfl) af rfl af rfl rfl ((CG ai)) ?_;rintro _ _ ⟨rD,rI,rfl,rfl⟩;refine ah.aN (.p rfl) af rfl af rfl rfl ((Be l3 ai)) ?_;rintro _ _ ⟨mF,mH,rfl,rfl⟩;rw [wv,wz];refine ah.q 2 rfl<|ah.nr (.p rfl) af rfl af rfl rfl an (qB ai) (fun ch au w hX hW=>by (exact absurd rfl hX.1)) ?_;rintro _ _ ⟨agm,sV,s0,rfl,rfl⟩;refine ah.bw (.p rfl) af (T:=ag.val) (ys:=[.slice s.1 jX.length s.2,.slice rD (bytesOf z.1).length rI,.slice sV (bytesOf (dc z.2.1)).length s0]) underlying28 dH aq rfl rfl ⟨⟨rfl,rfl⟩,⟨rfl,rfl⟩,⟨rfl,rfl⟩,trivial⟩ aq (fun BR B_=>?_);refine ah.dh (.p rfl) af rfl af rfl rfl (bs:=[ak ag.val 22 (.slice BR 3 B_) [.slice s.1 jX.length s.2,.slice rD (bytesOf z.1).length rI,.slice sV (bytesOf (dc z.2.1)).length s0],ak ag.u8 5 (.slice s.1 jX.length s.2) jX,ak ag.u8 5 (.slice rD (bytesOf z.1).length rI) (bytesOf z.1),ak ag.u8 5 (.slice sV (bytesOf (dc z.2.1)).length s0) (bytesOf (dc z.2.1))]) ct (fun m hm hd=>mz (xss:=[jX,bytesOf z.1,bytesOf (dc z.2.1)]) ((hm.arr.right hd).rows ⟨hm.tail.arr.right hd,hm.tail.tail.arr.right hd,hm.tail.tail.tail.arr.right hd,trivial⟩) (by simp only [nV,List.flatten_nil,List.append_nil,cI,fI];omega)) ?_;rintro _ _ ⟨rE,rJ,rfl,rfl⟩;refine U 3 ?_
    have e2:[jX,bytesOf z.1,bytesOf (dc z.2.1)].flatten=H++bh eB (f.2.2.2.2.2.2.2.2.1.2.2.2.1.take (k+1)):=by rw [← gy,← kV,kp];simp [eB]
    refine S.hU (T:=ag.u8) (e:=5) (v' :=.slice rE (H++bh eB (f.2.2.2.2.2.2.2.2.1.2.2.2.1.take (k+1))).length rJ) (xs' :=H++bh eB (f.2.2.2.2.2.2.2.2.1.2.2.2.1.take (k+1))) an (by rw [e2]) e2 ?_;refine S.slot 4 (v' :=.slice rE (H++bh eB (f.2.2.2.2.2.2.2.2.1.2.2.2.1.take (k+1))).length rJ) rfl (by rw [e2]) ?_;refine S.fW (A:=ak ag.val 22 (.slice BR 3 B_) [.slice s.1 jX.length s.2,.slice rD (bytesOf z.1).length rI,.slice sV (bytesOf (dc z.2.1)).length s0]) an fun g hs hm ⟨_,x',s'⟩=>?_;have g1:=(fun s x=>av.mono s (ak.arr x)) s' x';clear x' s';replace hg:=bf hg hs;replace hR:=a_ hR hm
    try replace aU:=aU.mono hs
    try replace hK:=hK.mono hs
    try replace h:=h.mono hs
    try replace hf:=hf.mono hs
    try replace bU:=bU.mono hs
    try replace b7:=b7.mono hs
    try replace bO:=bO.mono hs
    try replace b5:=b5.mono hs
    try replace bL:=bL.mono hs
    try replace bN:=bN.mono hs
    try replace bP:=bP.mono hs
    try replace bW:=bW.mono hs
    try replace bK:=bK.mono hs
    try replace bT:=bT.mono hs
    try replace b6:=b6.mono hs
    try replace cc:=cc.mono hs
    try replace bX:=bX.mono hs
    try replace gK:=gK.mono hs
    try replace h3:=h3.mono hs
    try replace hsum:=hsum.mono hs
    try replace y1:=y1.mono hs
    try replace eu:=eu.mono hs
    try replace iH:=iH.mono hs
    try replace jV:=jV.mono hs
    try replace oK:=oK.mono hs
    try replace qc:=qc.mono hs
    try replace nD:=nD.mono hs
    try replace l3:=l3.mono hs
    try replace h6:=h6.mono hs
    replace aW:=eT aW hm;clear hs hm;refine S.fW (A:=ak ag.u8 5 (.slice s.1 jX.length s.2) jX) an fun g hs hm ⟨_,x',s'⟩=>?_;have g2:=(fun s x=>av.mono s (ak.arr x)) s' x';clear x' s';replace hg:=bf hg hs;replace hR:=a_ hR hm
    try replace aU:=aU.mono hs
    try replace hK:=hK.mono hs
    try replace h:=h.mono hs
    try replace hf:=hf.mono hs
    try replace bU:=bU.mono hs
    try replace b7:=b7.mono hs
    try replace bO:=bO.mono hs
    try replace b5:=b5.mono hs
    try replace bL:=bL.mono hs
    try replace bN:=bN.mono hs
    try replace bP:=bP.mono hs
    try replace bW:=bW.mono hs
    try replace bK:=bK.mono hs
    try replace bT:=bT.mono hs
    try replace b6:=b6.mono hs
    try replace cc:=cc.mono hs
    try replace bX:=bX.mono hs
    try replace gK:=gK.mono hs
    try replace h3:=h3.mono hs
    try replace hsum:=hsum.mono hs
    try replace y1:=y1.mono hs
    try replace eu:=eu.mono hs
    try replace iH:=iH.mono hs
    try replace jV:=jV.mono hs
    try replace oK:=oK.mono hs
    try replace qc:=qc.mono hs
    try replace nD:=nD.mono hs
    try replace l3:=l3.mono hs
    try replace h6:=h6.mono hs
    try replace g1:=g1.mono hs
    replace aW:=eT aW hm;clear hs hm;refine S.fW (A:=ak ag.u8 5 (.slice rD (bytesOf z.1).length rI) (bytesOf z.1)) an fun g hs hm ⟨_,x',s'⟩=>?_;have g3:=(fun s x=>av.mono s (ak.arr x)) s' x';clear x' s';replace hg:=bf hg hs;replace hR:=a_ hR hm
    try replace aU:=aU.mono hs
    try replace hK:=hK.mono hs
    try replace h:=h.mono hs
    try replace hf:=hf.mono hs
    try replace bU:=bU.mono hs
    try replace b7:=b7.mono hs
    try replace bO:=bO.mono hs
    try replace b5:=b5.mono hs
    try replace bL:=bL.mono hs
    try replace bN:=bN.mono hs
    try replace bP:=bP.mono hs
    try replace bW:=bW.mono hs
    try replace bK:=bK.mono hs
    try replace bT:=bT.mono hs
    try replace b6:=b6.mono hs
    try replace cc:=cc.mono hs
    try replace bX:=bX.mono hs
    try replace gK:=gK.mono hs
    try replace h3:=h3.mono hs
    try replace hsum:=hsum.mono hs
    try replace y1:=y1.mono hs
    try replace eu:=eu.mono hs
    try replace iH:=iH.mono hs
    try replace jV:=jV.mono hs
    try replace oK:=oK.mono hs
    try replace qc:=qc.mono hs
    try replace nD:=nD.mono hs
    try replace l3:=l3.mono hs
    try replace h6:=h6.mono hs
    try replace g1:=g1.mono hs
    try replace g2:=g2.mono hs
    replace aW:=eT aW hm;clear hs hm;refine S.fW (A:=ak ag.u8 5 (.slice sV (bytesOf (dc z.2.1)).length s0) (bytesOf (dc z.2.1))) an fun g hs hm ⟨_,x',s'⟩=>?_;have g4:=(fun s x=>av.mono s (ak.arr x)) s' x';clear x' s';replace hg:=bf hg hs;replace hR:=a_ hR hm
    try replace aU:=aU.mono hs
    try replace hK:=hK.mono hs
    try replace h:=h.mono hs
    try replace hf:=hf.mono hs
    try replace bU:=bU.mono hs
    try replace b7:=b7.mono hs
    try replace bO:=bO.mono hs
    try replace b5:=b5.mono hs
    try replace bL:=bL.mono hs
    try replace bN:=bN.mono hs
    try replace bP:=bP.mono hs
    try replace bW:=bW.mono hs
    try replace bK:=bK.mono hs
    try replace bT:=bT.mono hs
    try replace b6:=b6.mono hs
    try replace cc:=cc.mono hs
    try replace bX:=bX.mono hs
    try replace gK:=gK.mono hs
    try replace h3:=h3.mono hs
    try replace hsum:=hsum.mono hs
    try replace y1:=y1.mono hs
    try replace eu:=eu.mono hs
    try replace iH:=iH.mono hs
    try replace jV:=jV.mono hs
    try replace oK:=oK.mono hs
    try replace qc:=qc.mono hs
    try replace nD:=nD.mono hs
    try replace l3:=l3.mono hs
    try replace h6:=h6.mono hs
    try replace g1:=g1.mono hs
    try replace g2:=g2.mono hs
    try replace g3:=g3.mono hs
    replace aW:=eT aW hm;clear hs hm;refine S.fW (A:=ak ag.u8 5 (.slice mF (dc z.2.1).length mH) (dc z.2.1)) an fun g hs hm ⟨_,x',s'⟩=>?_;have af6:=(fun s x=>av.mono s (ak.arr x)) s' x';clear x' s';replace hg:=bf hg hs;replace hR:=a_ hR hm
    try replace aU:=aU.mono hs
    try replace hK:=hK.mono hs
    try replace h:=h.mono hs
    try replace hf:=hf.mono hs
    try replace bU:=bU.mono hs
    try replace b7:=b7.mono hs
    try replace bO:=bO.mono hs
    try replace b5:=b5.mono hs
    try replace bL:=bL.mono hs
    try replace bN:=bN.mono hs
    try replace bP:=bP.mono hs
    try replace bW:=bW.mono hs
    try replace bK:=bK.mono hs
    try replace bT:=bT.mono hs
    try replace b6:=b6.mono hs
    try replace cc:=cc.mono hs
    try replace bX:=bX.mono hs
    try replace gK:=gK.mono hs
    try replace h3:=h3.mono hs
    try replace hsum:=hsum.mono hs
    try replace y1:=y1.mono hs
    try replace eu:=eu.mono hs
    try replace iH:=iH.mono hs
    try replace jV:=jV.mono hs
    try replace oK:=oK.mono hs
    try replace qc:=qc.mono hs
    try replace nD:=nD.mono hs
    try replace l3:=l3.mono hs
    try replace h6:=h6.mono hs
    try replace g1:=g1.mono hs
    try replace g2:=g2.mono hs
    try replace g3:=g3.mono hs
    try replace g4:=g4.mono hs
    replace aW:=eT aW hm;clear hs hm;refine U 4 ?_;exact S.jo aW (S.pw (ih (k+1) ((rE,rJ)) ai ai))
   ·clear ih
    have hk:k=f.2.2.2.2.2.2.2.2.1.2.2.2.1.length:=by omega
    subst hk;rw [List.take_length];have cZ:H++bh eB f.2.2.2.2.2.2.2.2.1.2.2.2.1=bytesOf f.2.2.2.2.1++kz f.2.2.2.2.2.2.2.2.1:=by rw [← e1];simp [kz]
    rw [cZ];refine U 6 ?_;exact S.rt results153 rfl hR ⟨⟨bg,q1⟩,s.1,s.2,rfl,rfl⟩
  ·have hn:¬ (lu f.2.2.2.2.1∧gA f.2.2.2.2.2.2.2.2.1):=fun w=>bg w.1
   refine S.aY (L:=[0,1,2,3,4,6,7,8,10,11,13,14,16,17,18,5,9,12,15,19,20,21,22]) F.mixed af ?_;refine U 7 ?_;refine .quiet (.p rfl) rfl (fun _=>.iY underlying32 underlying3 rfl) ?_;refine U 7 ?_;refine ah.cV (.p rfl) af rfl af rfl rfl ((FW gT)) (fun ch au w hX hW=>by (obtain ⟨hb,rfl,rfl⟩:=hX;exact hR _ _ w ⟨hn,rfl,rfl⟩ hW.fU)) ?_;rintro _ _ ⟨CU,cY,bJ,rfl,rfl⟩;exact absurd CU bg
 ·have hn:¬ (lu f.2.2.2.2.1∧gA f.2.2.2.2.2.2.2.2.1):=fun w=>q1 w.2
  have hs:=IP q1;refine S.region rfl<|O.op (.p rfl) (.aJ isAgg35 af rfl h3) ?_;refine O.aN (.p rfl) rfl af rfl rfl ((Oh gK kO.1 ⟨by have:=kO.2.1;omega,fun y hy=>by have:=kO.2.2 y hy;omega⟩ aU hK)) ?_;rintro _ _ ⟨dF,cj,rfl,rfl⟩;rw [hs];refine U 2 ?_;refine O.aB 15 rfl dU ?_;refine O.cV (.p rfl) rfl af rfl rfl (fD _) (fun ch au w hX hW=>by (obtain ⟨hb,rfl,rfl⟩:=hX;exact hR _ _ w ⟨hn,rfl,rfl⟩ hW.fU)) ?_;rintro _ _ ⟨fw,rfl,rfl⟩;exact absurd fw aH
theorem aak {r:Fr} {b:Nat} {cs:List Value} {y:Value} {f:aP} (hf:ck.rel r cs f) (h:cg r ⟨b,0,none⟩ (cs++[y])) (hl:jD c4 f) (hE:f.2.2.2.2.2.2.2.1.2.1.length≤1000000000) (hS:f.2.2.2.2.2.2.2.2.2.1.length≤20000):aj prog 165 #[.pointer (some ⟨b,0,none⟩)] r []
  (dg (fun v aa=>(fL f.2.2.2.1∧dR f.2.2.2.2.2.1=true∧js f.2.2.2.2.2.2.2.1∧ez f.2.2.2.2.2.2.2.2.2.1∧∀ h:0<f.2.2.2.2.2.2.2.2.2.1.length,f.2.2.2.2.2.2.2.2.2.1[0].1=f.2.2.2.1)∧∃ a c,v=.slice a (bytesOf f.2.2.2.1++(bytesOf (bM f.2.2.2.2.2.1)++(iB f.2.2.2.2.2.2.2.1++bytesOf (dc f.2.2.2.2.2.2.2.2.2.1)))).length c∧aa=[ak ag.u8 5 (.slice a (bytesOf f.2.2.2.1++(bytesOf (bM f.2.2.2.2.2.1)++(iB f.2.2.2.2.2.2.2.1++bytesOf (dc f.2.2.2.2.2.2.2.2.2.1)))).length c) (bytesOf f.2.2.2.1++(bytesOf (bM f.2.2.2.2.2.1)++(iB f.2.2.2.2.2.2.2.1++bytesOf (dc f.2.2.2.2.2.2.2.2.2.1))))]) (fun ch aa=>¬ (fL f.2.2.2.1∧dR f.2.2.2.2.2.1=true∧js f.2.2.2.2.2.2.2.1∧ez f.2.2.2.2.2.2.2.2.2.1∧∀ h:0<f.2.2.2.2.2.2.2.2.2.1.length,f.2.2.2.2.2.2.2.2.2.1[0].1=f.2.2.2.1)∧ch=fJ 39 4∧aa=[])):=by
 obtain ⟨b1,b2,b3,b4,iL,kG,gF,kf,nj,rF,pH,n5,ux,uy,uz⟩:=hl;obtain ⟨a8,a9,c6,cQ,cR,cS,cT,b_,dV,dW,cY,cX,dX,bk,bc,bB,bG,bD,bE,bF,bn,cx,cn,bJ,bI,cq,rfl,p1,p2,p3,gT,gL,jb,gU,bU,b7,bO,b5,bL,bN,bP,bW,bK,ja,e5,gS,bT,b6,fp,hY,iT,cc,bX,jq⟩:=ck.sh hf;refine aj.o func165 fun g hg R hR=>?_;have h:=h.mono hg;have hf:=hf.mono hg;have bU:=bU.mono hg;have b7:=b7.mono hg;have bO:=bO.mono hg;have b5:=b5.mono hg;have bL:=bL.mono hg;have bN:=bN.mono hg;have bP:=bP.mono hg;have bW:=bW.mono hg;have bK:=bK.mono hg;have bT:=bT.mono hg;have b6:=b6.mono hg;have cc:=cc.mono hg;have bX:=bX.mono hg;have iA:bx.rel g.h [.int .i64 f.2.2.2.2.2.1.1,.int .i64 f.2.2.2.2.2.1.2.1,.int .i64 f.2.2.2.2.2.1.2.2.1,.slice a8 f.2.2.2.2.2.1.2.2.2.1.length bk,.slice a9 f.2.2.2.2.2.1.2.2.2.2.1.length bc] f.2.2.2.2.2.1:=bx.mk gL jb gU bU b7;have mm:fB.rel g.h [.slice cQ f.2.2.2.2.2.2.2.1.1.length bG,.slice cR f.2.2.2.2.2.2.2.1.2.1.length bD] f.2.2.2.2.2.2.2.1:=fB.mk b5 bL;refine U 5 ?_;refine S.R9 (fun (u:Unit)=>js f.2.2.2.2.2.2.2.1∧∀ h:0<f.2.2.2.2.2.2.2.2.2.1.length,f.2.2.2.2.2.2.2.2.2.1[0].1=f.2.2.2.1) (fun (u:Unit)=>[]) [(0,_)] (fun (u:Unit)=>[]) aO (fun key=>?_) (fun u hx=>?_)
 ·have aW:=bS (g:=g)
  by_cases q1:js f.2.2.2.2.2.2.2.1
  ·by_cases bg:0<f.2.2.2.2.2.2.2.2.2.1.length
   ·by_cases ei:f.2.2.2.2.2.2.2.2.2.1[0].1=f.2.2.2.1
    ·
     refine S.aY (L:=.range 32) F.mixed af ?_;refine U 4 ?_;refine .quiet (.p rfl) rfl (fun _=>.aJ (cs:=[_,_]) isAgg31 af rfl ((h.drop 11).take 2)) ?_;refine ah.v0 (.p rfl) af rfl af rfl rfl ((Dw mm)) ?_;refine ah.sT 13 rfl (by exact zdt q1)<|U 8 ?_;refine ah.aB 21 rfl (by exact aA ai)<|U 6 ?_;refine ah.dI (bK) (h:=fun jq Fz Hg wh=>?_);obtain ⟨dM,je,iF,dN,jf,iG,rfl,k0,k1,k2,aI,cv,bV⟩:=bu.sh wh;refine U 7 ?_;refine .quiet (.g rfl rfl) rfl (fun _=>.e4 rfl rfl)<|ah.sT 36 rfl (by exact zdt (congrArg (fun l=>(str l).toList) ei)) ?_;refine ah.q 2 rfl<|ah.cV (.p rfl) af rfl af rfl rfl (fD _) (fun ch au w hX hW=>by (exact absurd hX.1 aH)) ?_;rintro _ _ ⟨fw,rfl,rfl⟩;refine bt.nil<|S.pk ?_ (S.weaken ?_ (key (()) (by exact ⟨q1,fun _=>ei⟩)))
     ·exact aC
     repeat (first|exact Sub.nil|refine Sub.cons rfl ?_)
    ·have hn:¬ (fL f.2.2.2.1∧dR f.2.2.2.2.2.1=true∧js f.2.2.2.2.2.2.2.1∧ez f.2.2.2.2.2.2.2.2.2.1∧∀ h:0<f.2.2.2.2.2.2.2.2.2.1.length,f.2.2.2.2.2.2.2.2.2.1[0].1=f.2.2.2.1):=fun w=>ei (w.2.2.2.2 bg)
     refine S.aY (L:=.range 32) F.mixed af ?_;refine U 4 ?_;refine .quiet (.p rfl) rfl (fun _=>.aJ (cs:=[_,_]) isAgg31 af rfl ((h.drop 11).take 2)) ?_;refine ah.v0 (.p rfl) af rfl af rfl rfl ((Dw mm)) ?_;refine ah.sT 13 rfl (by exact zdt q1)<|U 8 ?_;refine ah.aB 21 rfl (by exact aA ai)<|U 6 ?_;refine ah.dI (bK) (h:=fun jq Fz Hg wh=>?_);obtain ⟨dM,je,iF,dN,jf,iG,rfl,k0,k1,k2,aI,cv,bV⟩:=bu.sh wh;refine U 7 ?_;refine .quiet (.g rfl rfl) rfl (fun _=>.e4 rfl rfl)<|ah.aB 36 rfl (by exact aA (fun w=>ei (eO w))) ?_;refine ah.q 2 rfl<|ah.cV (.p rfl) af rfl af rfl rfl (fD _) (fun ch au w hX hW=>by (obtain ⟨hb,rfl,rfl⟩:=hX;exact hR _ _ w ⟨hn,rfl,rfl⟩ hW.fU)) ?_;rintro _ _ ⟨fw,rfl,rfl⟩;exact absurd fw aH
   ·
    refine S.aY (L:=.range 32) F.mixed af ?_;refine U 4 ?_;refine .quiet (.p rfl) rfl (fun _=>.aJ (cs:=[_,_]) isAgg31 af rfl ((h.drop 11).take 2)) ?_;refine ah.v0 (.p rfl) af rfl af rfl rfl ((Dw mm)) ?_;refine ah.sT 13 rfl (by exact zdt q1)<|U 8 ?_;refine ah.sT 21 rfl (by exact zdt ai) ?_;refine ah.q 17 rfl<|ah.cV (.p rfl) af rfl af rfl rfl (fD _) (fun ch au w hX hW=>by (exact absurd hX.1 aH)) ?_;rintro _ _ ⟨fw,rfl,rfl⟩;refine bt.nil<|S.pk ?_ (S.weaken ?_ (key (()) (by exact ⟨q1,fun w=>absurd w bg⟩)))
    ·exact aC
    repeat (first|exact Sub.nil|refine Sub.cons rfl ?_)
  ·have hn:¬ (fL f.2.2.2.1∧dR f.2.2.2.2.2.1=true∧js f.2.2.2.2.2.2.2.1∧ez f.2.2.2.2.2.2.2.2.2.1∧∀ h:0<f.2.2.2.2.2.2.2.2.2.1.length,f.2.2.2.2.2.2.2.2.2.1[0].1=f.2.2.2.1):=fun w=>q1 w.2.2.1
   refine S.aY (L:=.range 32) F.mixed af ?_;refine U 4 ?_;refine .quiet (.p rfl) rfl (fun _=>.aJ (cs:=[_,_]) isAgg31 af rfl ((h.drop 11).take 2)) ?_;refine ah.v0 (.p rfl) af rfl af rfl rfl ((Dw mm)) ?_;refine ah.aB 13 rfl (by exact aA q1) ?_;refine ah.q 25 rfl<|ah.cV (.p rfl) af rfl af rfl rfl (fD _) (fun ch au w hX hW=>by (obtain ⟨hb,rfl,rfl⟩:=hX;exact hR _ _ w ⟨hn,rfl,rfl⟩ hW.fU)) ?_;rintro _ _ ⟨fw,rfl,rfl⟩;exact absurd fw aH
 ·obtain ⟨q1,bg⟩:=hx
  by_cases qk:fL f.2.2.2.1
  ·by_cases qr:dR f.2.2.2.2.2.1=true
   ·have hro:fZ f.2.2.2.2.2.1=bM f.2.2.2.2.2.1∧mw f.2.2.2.2.2.1=0:=⟨by unfold fZ;rw [if_pos qr],by unfold mw;rw [if_pos qr]⟩
    have hrl:=lZ qr;have agM:=qk.2;obtain ⟨⟨g1,_⟩,g2,g3,_⟩:=id q1;refine U 1 ?_;refine S.aY (L:=[0,1,2,3,4,6,7,8,9,10,15,16,17,18,19,20,21,5,11,12,13,14,22,23,24,25]) F.mixed af ?_;refine U 9 ?_;refine .quiet (.p rfl) rfl (fun _=>.aJ (cs:=[_,_,_,_,_]) isAgg27 af rfl ((h.drop 5).take 5)) ?_;refine U 7 ?_;refine ah.cV (.p rfl) af rfl af rfl rfl ((CB ai)) (fun ch au w hX hW=>by (exact absurd qk hX.1)) ?_;rintro _ _ ⟨GF,pF,pJ,rfl,rfl⟩;refine ah.aN (.p rfl) af rfl af rfl rfl ((yQ iA)) ?_;rintro _ _ ⟨zm,zB,rfl,rfl⟩;rw [hro.1,hro.2];refine ah.q 2 rfl<|ah.nr (.p rfl) af rfl af rfl rfl an (qB ai) (fun ch au w hX hW=>by (exact absurd rfl hX.1)) ?_;rintro _ _ ⟨Mz,ix,iy,rfl,rfl⟩;refine ah.aN (.p rfl) af rfl af rfl rfl ((ir _)) ?_;rintro _ _ ⟨zo,zD,rfl,rfl⟩;refine ah.bw (.p rfl) af (T:=ag.val) (ys:=[.slice pF (bytesOf f.2.2.2.1).length pJ,.slice ix (bytesOf (bM f.2.2.2.2.2.1)).length iy,.slice zo 8 zD]) underlying28 dH aq rfl rfl ⟨⟨rfl,rfl⟩,⟨rfl,rfl⟩,⟨rfl,rfl⟩,trivial⟩ aq (fun xF xS=>?_)
    refine ah.dh (.p rfl) af rfl af rfl rfl (bs:=[ak ag.val 22 (.slice xF 3 xS) [.slice pF (bytesOf f.2.2.2.1).length pJ,.slice ix (bytesOf (bM f.2.2.2.2.2.1)).length iy,.slice zo 8 zD],ak ag.u8 5 (.slice pF (bytesOf f.2.2.2.1).length pJ) (bytesOf f.2.2.2.1),ak ag.u8 5 (.slice ix (bytesOf (bM f.2.2.2.2.2.1)).length iy) (bytesOf (bM f.2.2.2.2.2.1)),ak ag.u8 5 (.slice zo 8 zD) (be ↑(f.2.2.2.2.2.2.2.1.1.length))]) ct (fun m hm hd=>mz (xss:=[bytesOf f.2.2.2.1,bytesOf (bM f.2.2.2.2.2.1),be ↑(f.2.2.2.2.2.2.2.1.1.length)]) ((hm.arr.right hd).rows ⟨hm.tail.arr.right hd,hm.tail.tail.arr.right hd,hm.tail.tail.tail.arr.right hd,trivial⟩) (by simp only [nV,List.flatten_nil,List.append_nil,cI,fI,ga];omega)) ?_;rintro _ _ ⟨EP,Fi,rfl,rfl⟩;refine ah.q 1 rfl<|bt.nil (S.seq (S.seq ?_));have e1:[bytesOf f.2.2.2.1,bytesOf (bM f.2.2.2.2.2.1),be ↑(f.2.2.2.2.2.2.2.1.1.length)].flatten=bytesOf f.2.2.2.1++(bytesOf (bM f.2.2.2.2.2.1)++be ↑(f.2.2.2.2.2.2.2.1.1.length)):=by simp
    rw [e1];have x8:(bytesOf f.2.2.2.1++(bytesOf (bM f.2.2.2.2.2.1)++be ↑(f.2.2.2.2.2.2.2.1.1.length))).length≤100000000:=by simp only [cI,fI,ga];omega
    generalize Uh:bytesOf f.2.2.2.1++(bytesOf (bM f.2.2.2.2.2.1)++be ↑(f.2.2.2.2.2.2.2.1.1.length))=H at e1 x8 ⊢;refine S.fW (A:=ak ag.val 22 (.slice xF 3 xS) [.slice pF (bytesOf f.2.2.2.1).length pJ,.slice ix (bytesOf (bM f.2.2.2.2.2.1)).length iy,.slice zo 8 zD]) an fun g hs hm ⟨_,x',s'⟩=>?_;have y1:=(fun s x=>av.mono s (ak.arr x)) s' x';clear x' s';replace hg:=bf hg hs;replace hR:=a_ hR hm
    try replace h:=h.mono hs
    try replace hf:=hf.mono hs
    try replace bU:=bU.mono hs
    try replace b7:=b7.mono hs
    try replace bO:=bO.mono hs
    try replace b5:=b5.mono hs
    try replace bL:=bL.mono hs
    try replace bN:=bN.mono hs
    try replace bP:=bP.mono hs
    try replace bW:=bW.mono hs
    try replace bK:=bK.mono hs
    try replace bT:=bT.mono hs
    try replace b6:=b6.mono hs
    try replace cc:=cc.mono hs
    try replace bX:=bX.mono hs
    try replace iA:=iA.mono hs
    try replace mm:=mm.mono hs
    clear hs hm;refine S.fW (A:=ak ag.u8 5 (.slice pF (bytesOf f.2.2.2.1).length pJ) (bytesOf f.2.2.2.1)) an fun g hs hm ⟨_,x',s'⟩=>?_;have eu:=(fun s x=>av.mono s (ak.arr x)) s' x';clear x' s';replace hg:=bf hg hs;replace hR:=a_ hR hm
    try replace h:=h.mono hs
    try replace hf:=hf.mono hs
    try replace bU:=bU.mono hs
    try replace b7:=b7.mono hs
    try replace bO:=bO.mono hs
    try replace b5:=b5.mono hs
    try replace bL:=bL.mono hs
    try replace bN:=bN.mono hs
    try replace bP:=bP.mono hs
    try replace bW:=bW.mono hs
    try replace bK:=bK.mono hs
    try replace bT:=bT.mono hs
    try replace b6:=b6.mono hs
    try replace cc:=cc.mono hs
    try replace bX:=bX.mono hs
    try replace iA:=iA.mono hs
    try replace mm:=mm.mono hs
    try replace y1:=y1.mono hs
    clear hs hm;refine S.fW (A:=ak ag.u8 5 (.slice ix (bytesOf (bM f.2.2.2.2.2.1)).length iy) (bytesOf (bM f.2.2.2.2.2.1))) an fun g hs hm ⟨_,x',s'⟩=>?_;have iH:=(fun s x=>av.mono s (ak.arr x)) s' x';clear x' s';replace hg:=bf hg hs;replace hR:=a_ hR hm
    try replace h:=h.mono hs
    try replace hf:=hf.mono hs
    try replace bU:=bU.mono hs
    try replace b7:=b7.mono hs
    try replace bO:=bO.mono hs
    try replace b5:=b5.mono hs
    try replace bL:=bL.mono hs
    try replace bN:=bN.mono hs
    try replace bP:=bP.mono hs
    try replace bW:=bW.mono hs
    try replace bK:=bK.mono hs
    try replace bT:=bT.mono hs
    try replace b6:=b6.mono hs
    try replace cc:=cc.mono hs
    try replace bX:=bX.mono hs
    try replace iA:=iA.mono hs
    try replace mm:=mm.mono hs
    try replace y1:=y1.mono hs
    try replace eu:=eu.mono hs
    clear hs hm;refine S.fW (A:=ak ag.u8 5 (.slice zo 8 zD) (be ↑(f.2.2.2.2.2.2.2.1.1.length))) an fun g hs hm ⟨_,x',s'⟩=>?_;have jV:=(fun s x=>av.mono s (ak.arr x)) s' x';clear x' s';replace hg:=bf hg hs;replace hR:=a_ hR hm
    try replace h:=h.mono hs
    try replace hf:=hf.mono hs
    try replace bU:=bU.mono hs
    try replace b7:=b7.mono hs
    try replace bO:=bO.mono hs
    try replace b5:=b5.mono hs
    try replace bL:=bL.mono hs
    try replace bN:=bN.mono hs
    try replace bP:=bP.mono hs
    try replace bW:=bW.mono hs
    try replace bK:=bK.mono hs
    try replace bT:=bT.mono hs
    try replace b6:=b6.mono hs
    try replace cc:=cc.mono hs
    try replace bX:=bX.mono hs
    try replace iA:=iA.mono hs
    try replace mm:=mm.mono hs
    try replace y1:=y1.mono hs
    try replace eu:=eu.mono hs
    try replace iH:=iH.mono hs
    clear hs hm;refine S.fW (A:=ak ag.u8 5 (.slice zm (bM f.2.2.2.2.2.1).length zB) (bM f.2.2.2.2.2.1)) an fun g hs hm ⟨_,x',s'⟩=>?_;have Qt:=(fun s x=>av.mono s (ak.arr x)) s' x';clear x' s';replace hg:=bf hg hs;replace hR:=a_ hR hm
    try replace h:=h.mono hs
    try replace hf:=hf.mono hs
    try replace bU:=bU.mono hs
    try replace b7:=b7.mono hs
    try replace bO:=bO.mono hs
    try replace b5:=b5.mono hs
    try replace bL:=bL.mono hs
    try replace bN:=bN.mono hs
    try replace bP:=bP.mono hs
    try replace bW:=bW.mono hs
    try replace bK:=bK.mono hs
    try replace bT:=bT.mono hs
    try replace b6:=b6.mono hs
    try replace cc:=cc.mono hs
    try replace bX:=bX.mono hs
    try replace iA:=iA.mono hs
    try replace mm:=mm.mono hs
    try replace y1:=y1.mono hs
    try replace eu:=eu.mono hs
    try replace iH:=iH.mono hs
    try replace jV:=jV.mono hs
    clear hs hm;refine S.hU (T:=ag.u8) (e:=5) (v' :=.slice EP (H++bh bytesOf (f.2.2.2.2.2.2.2.1.1.take 0)).length Fi) (xs' :=H++bh bytesOf (f.2.2.2.2.2.2.2.1.1.take 0)) an (by simp [bh]) (by simp [bh]) ?_;refine S.slot 3 (v' :=.slice EP (H++bh bytesOf (f.2.2.2.2.2.2.2.1.1.take 0)).length Fi) rfl (by simp [bh]) ?_;refine U 11 ?_;refine S.i_ (ι:=Nat) (dy:=Option Addr × Nat) (fun k s=>k≤f.2.2.2.2.2.2.2.1.1.length) (fun k s=>[(72,.int .i64 (k:Int)),(3,.slice s.1 (H++bh bytesOf (f.2.2.2.2.2.2.2.1.1.take k)).length s.2)]) [(0,_),(70,_),(71,_)] (fun k s=>[ak ag.u8 5 (.slice s.1 (H++bh bytesOf (f.2.2.2.2.2.2.2.1.1.take k)).length s.2) (H++bh bytesOf (f.2.2.2.2.2.2.2.1.1.take k))]) (fun k s=>f.2.2.2.2.2.2.2.1.1.length - k) (0) ((EP,Fi)) aH aO aO rfl fun k s hx ih=>?_;have aW:=bS (g:=g);refine U 5 ?_;refine S.cd rfl (fun Gc=>?_) fun Gc=>?_
    ·have hk:k<f.2.2.2.2.2.2.2.1.1.length:=by omega
     have hz:=g2 _ (List.getElem_mem hk);have gy:=yO (b:=bytesOf) hk;have pT:(bh bytesOf (f.2.2.2.2.2.2.2.1.1.take k)).length≤72*(f.2.2.2.2.2.2.2.1.1.take k).length:=r8 bytesOf 72 _ fun z hz=>by
      have:=g2 z (List.mem_of_mem_take hz);simp only [fI];omega
     have hN:(f.2.2.2.2.2.2.2.1.1.take k).length=k:=by rw [mA];omega
     have k_:(H++bh bytesOf (f.2.2.2.2.2.2.2.1.1.take k)).length≤200000000:=by rw [cI];omega
     refine U 5 ?_;refine O.dI (b5) (h:=fun ah5 afM aha Wt=>?_);obtain ⟨aiE,rfl,CR⟩:=Wt;obtain ⟨KZ,Lj,rfl⟩:=CR.shape;refine U 6 ?_;have CR:=CR;refine O.aN (.p rfl) rfl af rfl rfl ((nS CR ai)) ?_;rintro _ _ ⟨afe,afp,rfl,rfl⟩;refine O.aD (.p rfl) (.fH (T:=ag.u8) underlying22 cP aq rfl rfl an an bl bl) ?_;rintro _ _ ⟨ET,Fl,rfl,rfl⟩;refine U 3 ?_;refine S.hU (T:=ag.u8) (e:=5) (v' :=.slice ET (H++bh bytesOf (f.2.2.2.2.2.2.2.1.1.take (k+1))).length Fl) (xs' :=H++bh bytesOf (f.2.2.2.2.2.2.2.1.1.take (k+1))) an (by rw [← gy];simp only [cI,Nat.add_assoc]) (by rw [← gy,kV]) ?_;refine S.slot 3 (v' :=.slice ET (H++bh bytesOf (f.2.2.2.2.2.2.2.1.1.take (k+1))).length Fl) rfl (by rw [← gy];simp only [cI,Nat.add_assoc]) ?_;refine U 4 ?_;exact S.pw (ih (k+1) ((ET,Fl)) ai ai)
    ·clear ih
     have hk:k=f.2.2.2.2.2.2.2.1.1.length:=by omega
     subst hk;rw [List.take_length];have pT:(bh bytesOf f.2.2.2.2.2.2.2.1.1).length≤72*f.2.2.2.2.2.2.2.1.1.length:=r8 bytesOf 72 _ fun z hz=>by
      have:=g2 z hz;simp only [fI];omega
     have k_:(H++bh bytesOf f.2.2.2.2.2.2.2.1.1).length≤200000000:=by rw [cI];omega
     generalize Um:H++bh bytesOf f.2.2.2.2.2.2.2.1.1=ng at k_ ⊢;refine U 11 ?_;refine O.aN (.p rfl) rfl af rfl rfl ((ir _)) ?_;rintro _ _ ⟨afg,afr,rfl,rfl⟩;refine O.aD (.p rfl) (.fH (T:=ag.u8) underlying22 cP aq rfl rfl an an bl bl) ?_;rintro _ _ ⟨EU,Fm,rfl,rfl⟩;refine O.q 1 rfl<|O.nil (S.seq (S.seq ?_));have Uo:(ng++be ↑(f.2.2.2.2.2.2.2.1.2.1.length)).length=ng.length+8:=by rw [cI,ga]
     refine S.hU (T:=ag.u8) (e:=5) (v' :=.slice EU ((ng++be ↑(f.2.2.2.2.2.2.2.1.2.1.length))++bh er (f.2.2.2.2.2.2.2.1.2.1.take 0)).length Fm) (xs' :=(ng++be ↑(f.2.2.2.2.2.2.2.1.2.1.length))++bh er (f.2.2.2.2.2.2.2.1.2.1.take 0)) an (by simp [bh]) (by simp [bh]) ?_;refine S.slot 3 (v' :=.slice EU ((ng++be ↑(f.2.2.2.2.2.2.2.1.2.1.length))++bh er (f.2.2.2.2.2.2.2.1.2.1.take 0)).length Fm) rfl (by simp [bh]) ?_;generalize Un:ng++be ↑(f.2.2.2.2.2.2.2.1.2.1.length)=nh at Uo ⊢;refine U 11 ?_;refine S.i_ (ι:=Nat) (dy:=Option Addr × Nat) (fun k s=>k≤f.2.2.2.2.2.2.2.1.2.1.length) (fun k s=>[(98,.int .i64 (k:Int)),(3,.slice s.1 (nh++bh er (f.2.2.2.2.2.2.2.1.2.1.take k)).length s.2)]) [(0,_),(96,_),(97,_)] (fun k s=>[ak ag.u8 5 (.slice s.1 (nh++bh er (f.2.2.2.2.2.2.2.1.2.1.take k)).length s.2) (nh++bh er (f.2.2.2.2.2.2.2.1.2.1.take k))]) (fun k s=>f.2.2.2.2.2.2.2.1.2.1.length - k) (0) ((EU,Fm)) aH aO aO rfl fun k s hx ih=>?_;have hm2:=bS (g:=g);refine U 5 ?_;refine S.cd rfl (fun Uf=>?_) fun Uf=>?_
     ·have hk:k<f.2.2.2.2.2.2.2.1.2.1.length:=by omega
      have hz:=g3 _ (List.getElem_mem hk);have yh:=hz.1.2;have pV:=hz.2;have gy:=yO (b:=er) hk;have pT:(bh er (f.2.2.2.2.2.2.2.1.2.1.take k)).length≤144*(f.2.2.2.2.2.2.2.1.2.1.take k).length:=r8 er 144 _ fun z hz=>by
       have h1:=(g3 z (List.mem_of_mem_take hz)).1.2;have h2:=(g3 z (List.mem_of_mem_take hz)).2;simp only [er,cI,fI];omega
      have hN:(f.2.2.2.2.2.2.2.1.2.1.take k).length=k:=by rw [mA];omega
      have Ao:(nh++bh er (f.2.2.2.2.2.2.2.1.2.1.take k)).length≤200000000000:=by rw [cI];omega
      refine U 5 ?_;refine O.dI (bL) (h:=fun ahM afs He V8=>?_);obtain ⟨l1,m1,rfl,l2,l3⟩:=dZ.sh V8;have l3:=l3;refine O.op (.p rfl) (.aJ isAgg122 af rfl He) ?_;refine O.aD (.p rfl) (.alloc (cs:=[.string ⟨#[]⟩,.slice none 0 0]) zeroValue122 rfl) ?_;rintro _ _ ⟨gF,rfl,rfl⟩;refine U 2 ?_;generalize f.2.2.2.2.2.2.2.1.2.1[k]=z at *;refine S.cH (b:=gF) (cs' :=[.string (str z.1),.slice l1 z.2.1.length m1]) an rfl ?_;refine S.cy an fun g hs hm h7=>?_;replace hg:=bf hg hs;replace hR:=a_ hR hm
      try replace h:=h.mono hs
      try replace hf:=hf.mono hs
      try replace bU:=bU.mono hs
      try replace b7:=b7.mono hs
      try replace bO:=bO.mono hs
      try replace b5:=b5.mono hs
      try replace bL:=bL.mono hs
      try replace bN:=bN.mono hs
      try replace bP:=bP.mono hs
      try replace bW:=bW.mono hs
      try replace bK:=bK.mono hs
      try replace bT:=bT.mono hs
      try replace b6:=b6.mono hs
      try replace cc:=cc.mono hs
      try replace bX:=bX.mono hs
      try replace iA:=iA.mono hs
      try replace mm:=mm.mono hs
      try replace y1:=y1.mono hs
      try replace eu:=eu.mono hs
      try replace iH:=iH.mono hs
      try replace jV:=jV.mono hs
      try replace Qt:=Qt.mono hs
      try replace He:=He.mono hs
      try replace l3:=l3.mono hs
      replace aW:=eT aW hm;replace hm2:=eT hm2 hm;clear hs hm;generalize kp:nh++bh er (f.2.2.2.2.2.2.2.1.2.1.take k)=jX at gy Ao ⊢;refine S.aY (L:=[0,1,2,5,6,3,4,7,8,9]) F.mixed af ?_;refine U 5 ?_;refine ah.aN (.p rfl) af rfl af rfl rfl ((CG ai)) ?_;rintro _ _ ⟨ae',afk,rfl,rfl⟩;refine ah.fH (T:=ag.u8) (.p rfl) af underlying22 cP aq rfl rfl an an bl bl (fun afa afl=>?_);refine ah.aN (.p rfl) af rfl af rfl rfl ((nS l3 ai)) ?_;rintro _ _ ⟨afb,afm,rfl,rfl⟩;refine ah.fH (T:=ag.u8) (.p rfl) af underlying22 cP aq rfl rfl an an bl bl (fun EN Fg=>?_);refine U 3 ?_;have cZ:jX++bytesOf z.1++bytesOf z.2.1=nh++bh er (f.2.2.2.2.2.2.2.1.2.1.take (k+1)):=by rw [← gy,← kV,kp];simp [er]
      refine S.hU (T:=ag.u8) (e:=5) (v' :=.slice EN (nh++bh er (f.2.2.2.2.2.2.2.1.2.1.take (k+1))).length Fg) (xs' :=nh++bh er (f.2.2.2.2.2.2.2.1.2.1.take (k+1))) an (by rw [← cZ];simp only [cI]) cZ ?_;refine S.slot 3 (v' :=.slice EN (nh++bh er (f.2.2.2.2.2.2.2.1.2.1.take (k+1))).length Fg) rfl (by rw [← cZ];simp only [cI]) ?_;refine U 4 ?_;exact S.jo hm2 (S.pw (ih (k+1) ((EN,Fg)) ai ai))
     ·clear ih
      have hk:k=f.2.2.2.2.2.2.2.1.2.1.length:=by omega
      subst hk;rw [List.take_length];have pT:(bh er f.2.2.2.2.2.2.2.1.2.1).length≤144*f.2.2.2.2.2.2.2.1.2.1.length:=r8 er 144 _ fun z hz=>by
       have h1:=(g3 z hz).1.2;have h2:=(g3 z hz).2;simp only [er,cI,fI];omega
      have Ao:(nh++bh er f.2.2.2.2.2.2.2.1.2.1).length≤200000000000:=by rw [cI];omega
      have uP:nh++bh er f.2.2.2.2.2.2.2.1.2.1++bytesOf (dc f.2.2.2.2.2.2.2.2.2.1)=bytesOf f.2.2.2.1++(bytesOf (bM f.2.2.2.2.2.1)++(iB f.2.2.2.2.2.2.2.1++bytesOf (dc f.2.2.2.2.2.2.2.2.2.1))):=by rw [← Un,← Um,← Uh];simp [iB]
      generalize aga:nh++bh er f.2.2.2.2.2.2.2.1.2.1=xC at Ao uP ⊢
      by_cases wQ:ez f.2.2.2.2.2.2.2.2.2.1
      ·obtain ⟨_,wv,wz⟩:=Bi wQ
       have pV:=q7 wQ.1;refine U 9 ?_;refine O.aN (.p rfl) rfl af rfl rfl ((Be bK ai)) ?_;rintro _ _ ⟨QL,Rr,rfl,rfl⟩;rw [wv,wz];refine O.q 2 rfl<|O.nr (.p rfl) rfl af rfl rfl an (qB ai) (fun ch au w hX hW=>by (exact absurd rfl hX.1)) ?_;rintro _ _ ⟨Mt,BM,B5,rfl,rfl⟩;refine O.aD (.p rfl) (.bw (T:=ag.val) (ys:=[.slice s.1 xC.length s.2,.slice BM (bytesOf (dc f.2.2.2.2.2.2.2.2.2.1)).length B5]) underlying28 dH aq rfl rfl ⟨⟨rfl,rfl⟩,⟨rfl,rfl⟩,trivial⟩ aq) ?_;rintro _ _ ⟨QM,Rs,rfl,rfl⟩;refine O.dh (.p rfl) rfl af rfl rfl (bs:=[ak ag.val 22 (.slice QM 2 Rs) [.slice s.1 xC.length s.2,.slice BM (bytesOf (dc f.2.2.2.2.2.2.2.2.2.1)).length B5],ak ag.u8 5 (.slice s.1 xC.length s.2) (xC),ak ag.u8 5 (.slice BM (bytesOf (dc f.2.2.2.2.2.2.2.2.2.1)).length B5) (bytesOf (dc f.2.2.2.2.2.2.2.2.2.1))]) ct (fun m hm hd=>mz (xss:=[xC,bytesOf (dc f.2.2.2.2.2.2.2.2.2.1)]) ((hm.arr.right hd).rows ⟨hm.tail.arr.right hd,hm.tail.tail.arr.right hd,trivial⟩) (by simp only [nV,List.flatten_nil,List.append_nil,cI,fI,ga];omega)) ?_;rintro _ _ ⟨QN,Rt,rfl,rfl⟩;refine U 2 ?_;have fV:[xC,bytesOf (dc f.2.2.2.2.2.2.2.2.2.1)].flatten=bytesOf f.2.2.2.1++(bytesOf (bM f.2.2.2.2.2.1)++(iB f.2.2.2.2.2.2.2.1++bytesOf (dc f.2.2.2.2.2.2.2.2.2.1))):=by rw [← uP];simp
       exact S.rt results165 rfl hR ⟨⟨qk,qr,q1,wQ,bg⟩,QN,Rt,by rw [← fV],by rw [← fV]⟩
      ·have hn:¬ (fL f.2.2.2.1∧dR f.2.2.2.2.2.1=true∧js f.2.2.2.2.2.2.2.1∧ez f.2.2.2.2.2.2.2.2.2.1∧∀ h:0<f.2.2.2.2.2.2.2.2.2.1.length,f.2.2.2.2.2.2.2.2.2.1[0].1=f.2.2.2.1):=fun w=>wQ w.2.2.2.1
       obtain ⟨_,wv,wz⟩:=PL wQ;have agW:(kU f.2.2.2.2.2.2.2.2.2.1).length=0:=by rw [wv];rfl
       refine U 9 ?_;refine O.aN (.p rfl) rfl af rfl rfl ((Be bK ai)) ?_;rintro _ _ ⟨QL,Rr,rfl,rfl⟩;rw [wz];refine O.q 2 rfl<|O.nr (.p rfl) rfl af rfl rfl an (qB ai) (fun ch au w hX hW=>by (obtain ⟨hb,rfl,rfl⟩:=hX;exact hR _ _ w ⟨hn,rfl,rfl⟩ hW.fU)) ?_;rintro _ _ ⟨Mt,BM,B5,rfl,rfl⟩;exact absurd Mt aq
   ·have hro:mw f.2.2.2.2.2.1=4:=by unfold mw;rw [if_neg qr]
    have k_:(fZ f.2.2.2.2.2.1).length=0:=by unfold fZ;rw [if_neg qr];rfl
    have hn:¬ (fL f.2.2.2.1∧dR f.2.2.2.2.2.1=true∧js f.2.2.2.2.2.2.2.1∧ez f.2.2.2.2.2.2.2.2.2.1∧∀ h:0<f.2.2.2.2.2.2.2.2.2.1.length,f.2.2.2.2.2.2.2.2.2.1[0].1=f.2.2.2.1):=fun w=>qr w.2.1;refine U 1 ?_;refine S.aY (L:=[0,1,2,3,4,6,7,8,9,10,15,16,17,18,19,20,21,5,11,12,13,14,22,23,24,25]) F.mixed af ?_;refine U 9 ?_;refine .quiet (.p rfl) rfl (fun _=>.aJ (cs:=[_,_,_,_,_]) isAgg27 af rfl ((h.drop 5).take 5)) ?_;refine U 7 ?_;refine ah.cV (.p rfl) af rfl af rfl rfl ((CB (by have:=qk.2;omega))) (fun ch au w hX hW=>by (exact absurd qk hX.1)) ?_;rintro _ _ ⟨GF,pF,pJ,rfl,rfl⟩;refine ah.aN (.p rfl) af rfl af rfl rfl ((yQ iA)) ?_;rintro _ _ ⟨zm,zB,rfl,rfl⟩;rw [hro];refine ah.q 2 rfl<|ah.nr (.p rfl) af rfl af rfl rfl an (qB ai) (fun ch au w hX hW=>by (obtain ⟨hb,rfl,rfl⟩:=hX;exact hR _ _ w ⟨hn,rfl,rfl⟩ hW.fU)) ?_;rintro _ _ ⟨Mz,ix,iy,rfl,rfl⟩;exact absurd Mz aq
  ·have hn:¬ (fL f.2.2.2.1∧dR f.2.2.2.2.2.1=true∧js f.2.2.2.2.2.2.2.1∧ez f.2.2.2.2.2.2.2.2.2.1∧∀ h:0<f.2.2.2.2.2.2.2.2.2.1.length,f.2.2.2.2.2.2.2.2.2.1[0].1=f.2.2.2.1):=fun w=>qk w.1
   refine U 1 ?_;refine S.aY (L:=[0,1,2,3,4,6,7,8,9,10,15,16,17,18,19,20,21,5,11,12,13,14,22,23,24,25]) F.mixed af ?_;refine U 9 ?_;refine .quiet (.p rfl) rfl (fun _=>.aJ (cs:=[_,_,_,_,_]) isAgg27 af rfl ((h.drop 5).take 5)) ?_;refine U 7 ?_;refine ah.cV (.p rfl) af rfl af rfl rfl ((CB p3)) (fun ch au w hX hW=>by (obtain ⟨hb,rfl,rfl⟩:=hX;exact hR _ _ w ⟨hn,rfl,rfl⟩ hW.fU)) ?_;rintro _ _ ⟨GF,pF,pJ,rfl,rfl⟩;exact absurd GF qk
end Go.Proofs.YtdjoggpacmpfnaaGreatDoor
