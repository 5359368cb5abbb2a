/- Texts of this proof. -/
import Derived.Test.YtdjoggpacmpfnaaGreatDoorQSha2
import Derived.Test.YtdjoggpacmpfnaaGreatDoorQSpDel
open Go Go.Sp Go.Proofs.Tryz
set_option maxRecDepth 100000
set_option maxHeartbeats 1000000
attribute [local irreducible] obj Own ak
namespace Go.Proofs.YtdjoggpacmpfnaaGreatDoor
def kq (M:List UInt8) (a:Option Addr) (c:Nat):List Value:=cz (feed fq M)++[.slice a (cC M).length c,.int .u64 (M.length:Int),.bool true]
theorem x5 (M:List UInt8) (a:Option Addr) (c:Nat):∃ x0 x1 bC c8 cr dn dr dQ,feed fq M=[x0,x1,bC,c8,cr,dn,dr,dQ]∧kq M a c=[.int .u64 (x0.toNat:Int),.int .u64 (x1.toNat:Int),.int .u64 (bC.toNat:Int),.int .u64 (c8.toNat:Int),.int .u64 (cr.toNat:Int),.int .u64 (dn.toNat:Int),.int .u64 (dr.toNat:Int),.int .u64 (dQ.toNat:Int),.slice a (cC M).length c,.int .u64 (M.length:Int),.bool true]:=by
 obtain ⟨x0,x1,bC,c8,cr,dn,dr,dQ,h⟩:=NN (zR fq M rfl);exact ⟨x0,x1,bC,c8,cr,dn,dr,dQ,h,by rw [kq,h];rfl⟩
theorem Mq {v:List cJ} {y:Value} {rest:List Value} (hv:v.length=8):(cz v++y::rest)[8]?=some y:=by
 rw [List.getElem?_append_right (by rw [oE];omega),oE,hv];rfl
theorem Ms {v:List cJ} {y z:Value} {rest:List Value} (hv:v.length=8):(cz v++y::rest).set 8 z=cz v++z::rest:=by
 rw [List.set_append_right _ _ (by rw [oE];omega),oE,hv];rfl
theorem Mr {v:List cJ} {y z w:Value} (hv:v.length=8):8<(cz v++[y,z,w]).length:=by
 rw [cI,oE,hv];exact (show 8<8+3 by decide)
theorem P4 {r:Fr} {b:Nat} {M:List UInt8} {a:Option Addr} {c:Nat} (h:cg r ⟨b,0,none⟩ (kq M a c)):aj prog 336 #[.pointer (some ⟨b,0,none⟩)] r [] (aF fun v aa=>v=.bool true∧aa=[]):=by
 obtain ⟨x0,x1,bC,c8,cr,dn,dr,dQ,hx,hc⟩:=x5 M a c;rw [hc] at h;refine aj.o func336 fun g hg R hR=>?_;have h:=h.mono hg;refine U 7 ?_;refine O.op (.p rfl) (.Oc underlying336 rfl rfl)<|O.sT 4 rfl dU ?_;refine U 5 ?_;refine O.sT 9 rfl dU ?_;refine U 3 ?_;exact S.rt results336 rfl hR ⟨rfl,rfl⟩
theorem Qm {r:Fr} {ji:Nat} {va:Value} {M:List UInt8} {a:Option Addr} {c:Nat} {ps:List (List UInt8)} (hp:av (ag.slice ag.u8) r va ps) (hK:cg r ⟨1,0,none⟩ (cz gW)) (hl:M.length+ps.flatten.length≤1000000000000) :
  aj prog 315 #[.pointer (some ⟨ji,0,none⟩),va] r [obj ji 356 (kq M a c),ak ag.u8 5 (.slice a (cC M).length c) (cC M)]
   (aF fun v aa=>∃ a' c',v=.int .i64 0∧aa=[obj ji 356 (kq (M++ps.flatten) a' c'),ak ag.u8 5 (.slice a' (cC (M++ps.flatten)).length c') (cC (M++ps.flatten))]):=by
 have V3:=hp;obtain ⟨a1,c1,rfl⟩:=hp.shape;have ahe:=hp.bound;refine aj.o func315 fun g hg R hR=>?_;have hp:=hp.mono hg;have hK:=hK.mono hg;have oh:=hg;have oe:=hR
 try have VY:=hp
 try have Gh:=hK
 refine S.oc (B:=obj ji 356 (kq M a c)) an fun go gm ⟨Dk,hmo,tD⟩ og=>?_;replace hg:=bf hg gm;replace hR:=n6 hR og
 try replace hp:=hp.mono gm
 try replace hK:=hK.mono gm
 have k9:=(qY hmo).mono tD;refine U 8 ?_;refine O.v0 (.p rfl) rfl af rfl rfl ((P4 k9)) ?_;refine O.sT 9 rfl dU ?_;refine U 6 ?_;refine S.back og ?_;replace hg:=oh;replace hR:=oe
 try replace hp:=VY
 try replace hK:=Gh
 clear oh oe;refine U 6 ?_;refine S.wE (ι:=Nat) (dy:=Option Addr × Nat) (gN:=List UInt8) (fun i s Q=>i≤ps.length∧Q=M++(ps.take i).flatten) (fun i s Q=>[(13,.int .i64 (i:Int))]) [(0,_),(11,_),(12,_)] (fun i s Q=>[obj ji 356 (kq Q s.1 s.2),ak ag.u8 5 (.slice s.1 (cC Q).length s.2) (cC Q)]) (fun i s Q=>ps.length - i) (0) ((a,c)) (M) BD aO aO rfl fun i s Q hx ih=>?_;have aW:=bS (g:=g);obtain ⟨hx1,hQ⟩:=hx;refine U 5 ?_;refine S.cd rfl (fun eH=>?_) fun eH=>?_
 ·have hi:i<ps.length:=by omega
  have hst:Q++ps[i]=M++(ps.take (i+1)).flatten:=by rw [hQ,kV,j9 hi,List.flatten_append];simp
  have V7:Q.length+ps[i].length≤1000000000000:=by
   have h1:=congrArg List.length hst;have h2:=congrArg (fun l=>(List.flatten l).length) (List.take_append_drop (i+1) ps);simp only [List.flatten_append,cI] at h1 h2
   omega
  have hrl:(cC Q).length<128:=by rw [DJ];omega
  obtain ⟨x0,x1,bC,c8,cr,dn,dr,dQ,hx,hc⟩:=x5 Q s.1 s.2;refine U 5 ?_;refine O.ew V3 hg (h:=fun bP zH lH Wz=>?_);have ld:=ag.rel.mono Wz hg;obtain ⟨iC,rfl,yb⟩:=ld;obtain ⟨cT,bF,rfl⟩:=yb.shape;refine U 4 ?_;generalize ps[i]=p at *;refine S.cH (b:=ji) (cs' :=[.int .u64 (x0.toNat:Int),.int .u64 (x1.toNat:Int),.int .u64 (bC.toNat:Int),.int .u64 (c8.toNat:Int),.int .u64 (cr.toNat:Int),.int .u64 (dn.toNat:Int),.int .u64 (dr.toNat:Int),.int .u64 (dQ.toNat:Int),.slice s.1 (cC Q).length s.2,.int .u64 (Q.length:Int),.bool true]) an hc ?_;refine U 7 ?_;refine O.op (.p rfl) (.iY underlying3 underlying123 rfl)<|O.slot 23 (v' :=.int .u64 (p.length:Int)) rfl (by rw [uh ai]) ?_;refine O.op (.p rfl) (.pG rfl rfl)<|O.slot 24 (v' :=.int .u64 ((Q.length+p.length:Nat):Int)) rfl (by rw [← Int.natCast_add,uh ai]) ?_;refine U 12 ?_;refine O.op (.p rfl) (.sub rfl rfl (IntWalk.i64_in _ ai)) ?_;refine U 2 ?_;refine O.op (.p rfl) (.min2 rfl rfl)<|O.slot 35 (v' :=.int .i64 ((min (128 - (cC Q).length) p.length:Nat):Int)) rfl (by exact congrArg (Value.int .i64) (by split<;>omega)) ?_;refine U 3 ?_;have G0:min (128 - (cC Q).length) p.length≤p.length:=by omega
  have hn2:(cC Q).length+min (128 - (cC Q).length) p.length≤128:=by omega
  have MO:(cC Q).length+min (128 - (cC Q).length) p.length<128→min (128 - (cC Q).length) p.length=p.length:=by omega
  generalize min (128 - (cC Q).length) p.length=n at *;refine S.cH (b:=ji) (cs' :=[.int .u64 (x0.toNat:Int),.int .u64 (x1.toNat:Int),.int .u64 (bC.toNat:Int),.int .u64 (c8.toNat:Int),.int .u64 (cr.toNat:Int),.int .u64 (dn.toNat:Int),.int .u64 (dr.toNat:Int),.int .u64 (dQ.toNat:Int),.slice s.1 (cC Q).length s.2,.int .u64 ((Q.length+p.length:Nat):Int),.bool true]) an rfl ?_;refine S.qq (fun (x:(List UInt8 × List UInt8) × (Option Addr × Nat) × (Option Addr × Nat))=>cC x.1.1=[]∧x.1.1++x.1.2=Q++p∧av ag.u8 g.h (.slice x.2.2.1 x.1.2.length x.2.2.2) x.1.2) (fun (x:(List UInt8 × List UInt8) × (Option Addr × Nat) × (Option Addr × Nat))=>[(6,.slice x.2.2.1 x.1.2.length x.2.2.2)]) [(0,_),(11,_),(12,_),(13,_)] (fun (x:(List UInt8 × List UInt8) × (Option Addr × Nat) × (Option Addr × Nat))=>[obj ji 356 (cz (feed fq x.1.1)++[.slice x.2.1.1 0 x.2.1.2,.int .u64 ((Q.length+p.length:Nat):Int),.bool true]),ak ag.u8 5 (.slice x.2.1.1 0 x.2.1.2) []]) aO (fun key=>?_) (fun x hx=>?_)
  ·have hm2:=bS (g:=g)
   refine U 8 ?_;refine S.cd rfl (fun T8=>?_) fun T8=>?_
   ·refine S.seq<|S.aY (L:=[0,1,2,3,5,6,7,9,10,11,4,8,12,13,14,15]) F.mixed af ?_
    refine U 3 ?_;refine .quiet (.p rfl) rfl (fun _=>.s7 vN rfl) ?_;refine U 2 ?_;refine ah.sliceTo (b:=n) (.p rfl) underlying22 fG rfl rfl ay bl bl (fun aiw z_=>?_);obtain ⟨rD,rI,rfl⟩:=z_.shape;refine ah.q 2 rfl<|ah.sliceFrom (a:=n) (.p rfl) underlying22 fG rfl rfl ay bl bl (fun aix x4=>?_);obtain ⟨BQ,B9,rfl⟩:=x4.shape;refine ah.IE (.p rfl) af (fun _=>.yt k7 rfl an dU) ?_;refine ah.mb (.p rfl) af (T:=ag.u8) ox underlying22 cP aq rfl rfl an bq bl bl (fun sU sZ=>?_);refine U 1 ?_;refine .quiet (.p rfl) rfl (fun _=>.s7 vN rfl)<|ah.rf rfl af k7 rfl rfl yX an oL ?_;refine ah.q 1 rfl<|bt.nil (S.seq (S.seq ?_));have tE:(p.take n).length=n:=by rw [mA];omega
    have hal:(cC Q++p.take n).length=(cC Q).length+n:=by rw [cI,tE]
    refine U 8 ?_;refine S.cd rfl (fun z2=>?_) fun z2=>?_
    ·have hlt:(cC Q).length+n<128:=by omega
     have hnp:=MO hlt;have HT:p.take n=p:=List.take_of_length_le ai;obtain ⟨e1,e2⟩:=SX fq (b:=Q) (c:=p) (by rw [← HT,hal];exact hlt);have hml:(Q++p).length=Q.length+p.length:=cI;have hE:(cC Q).length+(p.take n).length=(cC (Q++p)).length:=by rw [e2,cI,HT]
     refine S.cH (b:=ji) (cs' :=kq (Q++p) sU sZ) an (by rw [hE,kq,e1,hx,hml];rfl) ?_;refine S.hU (T:=ag.u8) (e:=5) (v' :=.slice sU (cC (Q++p)).length sZ) (xs' :=cC (Q++p)) an (by rw [hE]) (by rw [e2,HT]) ?_;refine U 5 ?_;exact S.pw (ih (i+1) ((sU,sZ)) (Q++p) (by exact ⟨by omega,hst⟩) ai)
    ·have heq:(cC Q++p.take n).length=128:=by rw [hal];omega
     obtain ⟨e1,e2⟩:=SW fq (b:=Q) (c:=p.take n) heq;rw [hx] at e1;have MF:=hg;have Mj:=hR
     try have VX:=hp
     try have Uj:=hK
     try have VQ:=lH
     try have Wd:=ld
     try have V5:=yb
     try have UB:=z_
     try have UD:=x4
     refine S.oc (B:=ak ag.u8 5 (.slice sU ((cC Q).length+(p.take n).length) sZ) (cC Q++p.take n)) an fun af9 iP ⟨ml,hml,WI⟩ pP=>?_;replace hg:=bf hg iP;replace hR:=n6 hR pP
     try replace hp:=hp.mono iP
     try replace hK:=hK.mono iP
     try replace lH:=lH.mono iP
     try replace ld:=ld.mono iP
     try replace yb:=yb.mono iP
     try replace z_:=z_.mono iP
     try replace x4:=x4.mono iP
     have hla:=(ak.arr hml).mono WI;refine S.skip<|S.seq<|S.aY (L:=.range 8) F.mixed af ?_;refine U 2 ?_;refine .quiet (.p rfl) rfl (fun _=>.s7 FU rfl) ?_;refine U 2 ?_;refine .quiet (.p rfl) rfl (fun _=>.s7 vN rfl)<|ah.IE (.p rfl) af (fun _=>.yt k7 rfl an dU) ?_;refine ah.rK (.p rfl) af rfl af rfl rfl an (Lf (T:=356) (v:=[x0,x1,bC,c8,cr,dn,dr,dQ]) (rest:=[.slice sU ((cC Q).length+(p.take n).length) sZ,.int .u64 ((Q.length+p.length:Nat):Int),.bool true]) rfl hla heq hK) ?_;rintro _ _ ⟨rfl,rfl⟩;refine bt.nil<|S.back pP ?_;replace hg:=MF;replace hR:=Mj
     try replace hp:=VX
     try replace hK:=Uj
     try replace lH:=VQ
     try replace ld:=Wd
     try replace yb:=V5
     try replace z_:=UB
     try replace x4:=UD
     clear MF Mj;have hvl:(ua [x0,x1,bC,c8,cr,dn,dr,dQ] (cC Q++p.take n)).length=8:=PS _ _ rfl;refine U 5 ?_;refine O.op (.p rfl) (.yt k7 rfl an (Mq hvl)) ?_;refine O.op (.p rfl) (.PW (T:=ag.u8) (q:=0) underlying22 fG rfl rfl rfl (Nat.zero_le _)) ?_;refine U 2 ?_;refine O.eg rfl (.rf k7 rfl rfl rfl an (Mr hvl)) ?_;refine O.nil<|S.cH (b:=ji) (cs' :=cz (feed fq (Q++p.take n))++[.slice sU 0 sZ,.int .u64 ((Q.length+p.length:Nat):Int),.bool true]) an (by rw [Ms hvl,e1]) ?_;refine S.conv (B:=ak ag.u8 5 (.slice sU ((cC Q).length+(p.take n).length) sZ) (cC Q++p.take n)) (C:=ak ag.u8 5 (.slice sU 0 sZ) []) an (fun h x=>⟨h,Fr.bH _,ak.take (ys:=cC Q++p.take n) rfl x⟩) ?_;refine S.pk ?_ (S.weaken ?_ (key (((Q++p.take n,p.drop n),(sU,sZ),(BQ,B9))) (by exact ⟨e2,by rw [kV,List.take_append_drop],x4⟩)))
     ·exact aC
     repeat (first|exact Sub.nil|refine Sub.cons rfl ?_)
   ·have h0:cC Q=[]:=List.eq_nil_of_length_eq_zero ai
    have Mh:(cC Q).length=0:=by rw [h0];rfl
    refine S.cH (b:=ji) (cs' :=cz (feed fq Q)++[.slice s.1 0 s.2,.int .u64 ((Q.length+p.length:Nat):Int),.bool true]) an (by rw [Mh,hx];rfl) ?_;refine S.hU (T:=ag.u8) (e:=5) (v' :=.slice s.1 0 s.2) (xs' :=[]) an (by rw [Mh]) h0 ?_;refine S.skip<|S.pk ?_ (S.weaken ?_ (key (((Q,p),s,(cT,bF))) (by exact ⟨h0,rfl,yb⟩)))
    ·exact aC
    repeat (first|exact Sub.nil|refine Sub.cons rfl ?_)
  ·obtain ⟨⟨y9,p1⟩,⟨al,Fs⟩,⟨a6,cB⟩⟩:=x
   obtain ⟨h0,h1,h2⟩:=hx;simp only at h0 h1 h2 ⊢;obtain ⟨f1,f2⟩:=SY fq (b:=y9) (c:=p1) h0;rw [h1] at f1 f2;refine S.seq<|S.block<|S.i_ (ι:=Nat) (dy:=Option Addr × Nat) (fun k u=>128*k≤p1.length∧av ag.u8 g.h (.slice u.1 (p1.drop (128*k)).length u.2) (p1.drop (128*k))) (fun k u=>[(6,.slice u.1 (p1.drop (128*k)).length u.2)]) [(0,_),(11,_),(12,_),(13,_)] (fun k u=>[obj ji 356 (cz (mJ (feed fq y9) p1 k)++[.slice al 0 Fs,.int .u64 ((Q.length+p.length:Nat):Int),.bool true]),ak ag.u8 5 (.slice al 0 Fs) []]) (fun k u=>p1.length - k) (0) ((a6,cB)) (by exact ⟨by omega,h2⟩) aO aO rfl fun k u hx ih=>?_;have hm2:=bS (g:=g);obtain ⟨uQ,hk2⟩:=hx;have tg:(p1.drop (128*k)).length=p1.length - 128*k:=List.length_drop;have gQ:(mJ (feed fq y9) p1 k).length=8:=FL _ _ (zR _ _ rfl) k;refine U 7 ?_;refine S.cd rfl (fun z3=>?_) fun z3=>?_
   ·have MK:128*(k+1)≤p1.length:=by omega
    have rS:(p1.drop (128*k)).drop 128=p1.drop (128*(k+1)):=by rw [List.drop_drop,Nat.mul_succ]
    refine S.skip<|S.seq<|S.block<|S.aY (L:=.range 6) F.mixed af<|ah.q 1 rfl<|.quiet (.p rfl) rfl (fun _=>.nilCheck rfl)<|.quiet (.p rfl) rfl (fun _=>.s7 FU rfl)<|ah.q 1 rfl<|ah.sliceTo (b:=128) (.p rfl) underlying22 fG rfl rfl ay bl bl (fun aiz Mo=>?_);obtain ⟨aff,afq,rfl⟩:=Mo.shape;refine ah.rK (.p rfl) af rfl af rfl rfl an (Lf (T:=356) (v:=mJ (feed fq y9) p1 k) (rest:=[.slice al 0 Fs,.int .u64 ((Q.length+p.length:Nat):Int),.bool true]) gQ Mo (by rw [mA];omega) hK) ?_;rintro _ _ ⟨rfl,rfl⟩;refine U 4 ?_;refine O.sliceFrom (a:=128) (.p rfl) underlying22 fG rfl rfl ay bl bl (fun aiy GA=>?_);obtain ⟨QW,RA,rfl⟩:=GA.shape;refine U 2 ?_;rw [rS] at GA ⊢;exact S.pw (ih (k+1) ((QW,RA)) (by exact ⟨by omega,GA⟩) ai)
   ·clear ih
    have hkk:k=p1.length / 128:=by omega
    have Vb:mJ (feed fq y9) p1 k=feed fq (Q++p):=by rw [hkk];exact f1.symm
    have pT:p1.drop (128*k)=cC (Q++p):=by rw [hkk];exact f2.symm
    have hml:(Q++p).length=Q.length+p.length:=cI;refine U 1 ?_;rw [Vb,pT];rw [pT] at hk2 tg;have HU :(feed fq (Q++p)).length=8:=zR _ _ rfl;refine U 5 ?_;refine O.op (.p rfl) (.yt k7 rfl an (Mq HU)) ?_;refine O.q 1 rfl<|O.aD (.p rfl) (.mb (T:=ag.u8) ox underlying22 cP aq rfl rfl an bq bl bl) ?_;rintro _ _ ⟨EV,Fo,rfl,rfl⟩;refine U 2 ?_;refine O.eg rfl (.rf k7 rfl rfl rfl an (Mr HU)) ?_;refine O.nil<|S.inBlock<|S.cH (b:=ji) (cs' :=kq (Q++p) EV Fo) an (by rw [Ms HU,kq,hml,D_,Nat.zero_add]) ?_;refine S.hU (T:=ag.u8) (e:=5) (v' :=.slice EV (cC (Q++p)).length Fo) (xs' :=cC (Q++p)) an (by rw [D_,Nat.zero_add]) (by rw [List.nil_append]) ?_;refine U 4 ?_;exact S.pw (ih (i+1) ((EV,Fo)) (Q++p) (by exact ⟨by omega,hst⟩) ai)
 ·clear ih
  have hi:i=ps.length:=by omega
  subst hi;rw [List.take_length] at hQ;subst hQ;refine U 5 ?_;exact S.rt results315 rfl hR ⟨s.1,s.2,rfl,rfl⟩
theorem acy (n:Int) (i:Nat) (h:i<8):(List.replicate (8 - i) (0:UInt8)++(be n).drop (8 - i)).set (7 - i) (jh n i)=List.replicate (8 - (i+1)) 0++(be n).drop (8 - (i+1)):=by
 match i,h with
 |0,_|1,_|2,_|3,_|4,_|5,_|6,_|7,_=>rfl
theorem ir {r:Fr} (n:Int):aj prog 74 #[.int .i64 n] r [] (aF fun v aa=>∃ a c,v=.slice a 8 c∧aa=[ak ag.u8 5 v (be n)]):=by
 refine aj.o func74 fun g hg R hR=>?_;refine U 6 ?_;refine O.aD (.p rfl) (.iR (T:=ag.u8) (0:UInt8) (m:=8) underlying22 cP aq rfl rfl rfl rfl rfl aq aq) ?_;rintro _ _ ⟨a,c,rfl,rfl⟩;refine U 10 ?_;refine S.ev (ι:=Nat) (fun i=>i≤8) (fun i=>[(8,.int .i64 (i:Int))]) [(0,_),(3,_),(7,_)] (fun i=>[ak ag.u8 5 (.slice a 8 c) (List.replicate (8 - i) 0++(be n).drop (8 - i))]) (fun i=>8 - i) (0) aH aO aO rfl fun i hx ih=>?_;have aW:=bS (g:=g);refine U 5 ?_;refine S.cd rfl (fun h9=>?_) fun h9=>?_
 ·refine U 11 ?_
  refine O.op (.p rfl) (.sub rfl rfl (IntWalk.i64_in _ ai))<|U 1 ?_;refine O.op (.p rfl) (.iY underlying3 underlying123 rfl)<|U 1 ?_;refine O.op (.p rfl) (.mul rfl rfl (IntWalk.i64_in _ ai))<|O.op (.p rfl) (.shr rfl rfl ai)<|O.op (.p rfl) (.iY underlying123 underlying5 rfl)<|O.aD (.p rfl) (.qP (T:=ag.u8) underlying22 fG rfl rfl (show _=(((7 - i):Nat):Int) by omega) an qf) ?_;rintro _ _ ⟨gS,rfl,v9,rfl⟩;refine O.eg rfl (.sj fG rfl v9 rfl an qf (show _=_ by simp only [Value.cells,aT];rw [JU n i ai _ rfl]:ag.rel _ _ _ (jh n i)))<|U 6 ?_;rw [acy n i ai];exact S.cF (ih (i+1) ai ai)
 ·refine U 6 ?_
  refine S.ret results74 rfl fun w hw=>hR _ _ w ?_ hw;have:i=8:=by omega
  subst this;exact ⟨a,c,rfl,rfl⟩
theorem Lo {r:Fr} {va:Value} {xs:List UInt8} (ha:av ag.u8 r va xs) (hl:xs.length≤140737488355328) :
  aj prog 139 #[va] r [] (aF fun v aa=>∃ a c,v=.slice a xs.length c∧aa=[ak ag.u8 5 v xs]):=by
 refine aj.o func139 fun g hg R hR=>?_;have ha:=ha.mono hg;obtain ⟨a1,c1,rfl⟩:=ha.shape
 cases a1 with
 |none =>
  refine U 8 ?_;refine O.op (.p rfl) (.LH underlying22 rfl rfl)<|U 6 ?_;obtain ⟨rfl,_,rfl⟩:=av.Od aq ha;refine S.l_ (T:=ag.u8) (e:=5) ?_;refine S.ret results139 rfl fun w hw=>hR _ _ w ?_ hw;exact ⟨none,0,rfl,rfl⟩
 |some a1 =>
  refine U 8 ?_;refine O.op (.p rfl) (.LH underlying22 rfl rfl)<|U 5 ?_;refine O.aD (.p rfl) (.bw (T:=ag.u8) (ys:=[]) underlying22 cP aq rfl rfl trivial aq) ?_;rintro _ _ ⟨a5,cD,rfl,rfl⟩;refine O.q 1 rfl<|O.aD (.p rfl) (.mb (T:=ag.u8) ox underlying22 cP aq rfl rfl an bq bl bl) ?_;rintro _ _ ⟨a7,c9,rfl,rfl⟩;refine O.q 1 rfl<|O.nil<|S.ret results139 rfl fun w hw=>hR _ _ w ?_ hw;exact ⟨a7,c9,by simp,by simp⟩
theorem TW {r:Fr} (m:Nat) (hm:m≤140737488355328):aj prog 249 #[.slice none 0 0,.int .i64 (m:Int)] r [] (aF fun v aa=>∃ a c,v=.slice a 0 c∧aa=[ak ag.u8 5 v []]):=by
 refine aj.o func249 fun g hg R hR=>?_;refine U 10 ?_;refine S.cd rfl (fun h6=>?_) fun h6=>?_
 ·exact absurd h6 ai
 ·refine U 6 ?_
  refine O.op (.p rfl) (.cap rfl underlying22 rfl)<|U 2 ?_;refine O.op (.p rfl) (.sub rfl rfl (IntWalk.i64_in _ ai))<|O.op (.p rfl) (.sub rfl rfl (IntWalk.i64_in _ ai))<|U 7 ?_;refine S.cd rfl (fun jk=>?_) fun jk=>?_
  ·refine S.region rfl<|O.q 2 rfl<|O.op (.p rfl) (.cap rfl underlying22 rfl)<|O.op (.p rfl) (.acH underlying22 fG rfl rfl rfl)<|O.q 1 rfl<|O.aD (.p rfl) (.Q7 (T:=ag.u8) (a:=0) (m:=m) underlying22 underlying3 cP aq rfl rfl rfl ai ai ai ai) ?_
   rintro _ _ ⟨cY,bJ,rfl,rfl⟩;refine U 2 ?_;refine O.aD (.p rfl) (.Sa (T:=ag.u8) (m:=0) underlying22 fG rfl rfl rfl an ai) ?_;rintro _ _ ⟨iJ,dG,rfl,rfl⟩;refine U 7 ?_;refine S.ret results249 rfl fun w hw=>hR _ _ w ?_ hw;exact ⟨iJ,dG,rfl,by simp⟩
  ·have hm0:m=0:=by omega
   subst hm0;refine S.l_ (T:=ag.u8) (e:=5) ?_;refine U 6 ?_;refine S.ret results249 rfl fun w hw=>hR _ _ w ?_ hw;exact ⟨none,0,rfl,rfl⟩
theorem FR (xss:List (List UInt8)) (i:Nat) (h:i<xss.length):(xss.take (i+1)).flatten=(xss.take i).flatten++xss[i]:=by
 rw [j9 h,List.flatten_append,List.flatten_singleton]
theorem FQ (xss:List (List UInt8)) (i:Nat):(xss.take i).flatten.length≤xss.flatten.length:=by
 have:xss.flatten=(xss.take i).flatten++(xss.drop i).flatten:=by rw [← List.flatten_append,List.take_append_drop]
 rw [this,cI];omega
theorem RR {r:Fr} {va:Value} {xss:List (List UInt8)} (ha:av (ag.slice ag.u8) r va xss) (hl:xss.flatten.length≤140737488355328) :
  aj prog 172 #[va] r [] (aF fun v aa=>∃ a c,v=.slice a xss.flatten.length c∧aa=[ak ag.u8 5 v xss.flatten]):=by
 refine aj.o func172 fun g hg R hR=>?_;have ha:=ha.mono hg;have hbd:=ha.bound;obtain ⟨a1,c1,rfl⟩:=ha.shape;refine U 16 ?_;refine S.i_ (ι:=Nat) (dy:=Nat) (fun i s=>i≤xss.length∧s=(xss.take i).flatten.length) (fun i s=>[(11,.int .i64 (i:Int)),(3,.int .i64 (s:Int))]) [(0,_),(9,_),(10,_)] (fun i s=>[]) (fun i s=>xss.length - i) (0) (0) aH aO aO rfl fun i s hx ih=>?_;have aW:=bS (g:=g);obtain ⟨hx1,hs⟩:=hx;refine U 5 ?_;refine S.cd rfl (fun h12=>?_) fun h12=>?_
 ·have hi:i<xss.length:=by omega
  have h1:=FR xss i hi;have h2:=FQ xss (i+1);have h3:(xss.take (i+1)).flatten.length=(xss.take i).flatten.length+xss[i].length:=by rw [h1,cI]
  refine U 5 ?_;refine O.c7 (.p rfl) underlying28 mX rfl rfl rfl bq (h:=fun Du Cj C2 tv=>?_);obtain ⟨adF,rfl,Up⟩:=tv;obtain ⟨dF,cj,rfl⟩:=Up.shape;refine U 16 ?_;refine S.cd rfl (fun gI=>?_) fun gI=>?_
  ·exact absurd gI ai
  ·refine U 6 ?_
   exact S.cF (ih (i+1) (s+xss[i].length) ai ai)
 ·have hi:i=xss.length:=by omega
  subst hi;rw [List.take_length] at hs;subst hs;refine U 4 ?_;refine O.aN (.p rfl) rfl af rfl rfl (TW xss.flatten.length ai) ?_;rintro _ _ ⟨gO,dw,rfl,rfl⟩;refine U 10 ?_;refine S.r0 (ι:=Nat) (dy:=Option Addr) (gN:=Nat) (aL:=Nat) (fun i a6 nJ cB=>i≤xss.length∧nJ=(xss.take i).flatten.length) (fun i a6 nJ cB=>[(27,.int .i64 (i:Int)),(6,.slice a6 nJ cB)]) [(25,_),(26,_)] (fun i a6 nJ cB=>[ak ag.u8 5 (.slice a6 nJ cB) (xss.take i).flatten]) (fun i a6 nJ cB=>xss.length - i) (0) (gO) (0) (dw) aH aO aO rfl fun i a6 nJ cB hx ih=>?_;have hm2:=bS (g:=g);obtain ⟨hx1,hs⟩:=hx;refine U 5 ?_;refine S.cd rfl (fun k8=>?_) fun k8=>?_
  ·have hi:i<xss.length:=by omega
   have h1:=FR xss i hi;have h2:=FQ xss (i+1);have h3:(xss.take (i+1)).flatten.length=(xss.take i).flatten.length+xss[i].length:=by rw [h1,cI]
   refine U 5 ?_;refine O.c7 (.p rfl) underlying28 mX rfl rfl rfl bq (h:=fun Oz Lv MS At=>?_);obtain ⟨Qd,rfl,Ut⟩:=At;obtain ⟨uv,rH,rfl⟩:=Ut.shape;refine U 6 ?_;refine O.aD (.p rfl) (.mb (T:=ag.u8) ox underlying22 cP aq rfl rfl an bq bl bl) ?_;rintro _ _ ⟨mE,mG,rfl,rfl⟩;refine U 7 ?_;rw [← h1];exact S.cF (ih (i+1) (mE) ((xss.take i).flatten.length+xss[i].length) (mG) ai ai)
  ·have hi:i=xss.length:=by omega
   subst hi;rw [List.take_length] at hs;subst hs;refine U 6 ?_;refine S.ret results172 rfl fun w hw=>hR _ _ w ?_ hw;exact ⟨a6,cB,rfl,by rw [List.take_length]⟩
theorem mz {r:Fr} {va:Value} {xss:List (List UInt8)} (ha:av (ag.slice ag.u8) r va xss) (hl:xss.flatten.length≤140737488355328) :
  aj prog 73 #[va] r [] (aF fun v aa=>∃ a c,v=.slice a xss.flatten.length c∧aa=[ak ag.u8 5 v xss.flatten]):=by
 refine aj.o func73 fun g hg R hR=>?_;have ha:=ha.mono hg;obtain ⟨a1,c1,rfl⟩:=ha.shape;refine U 7 ?_;refine O.aN (.p rfl) rfl af rfl rfl (RR bq bl) ?_;rintro _ _ ⟨a4,bR,rfl,rfl⟩;refine O.q 1 rfl<|O.nil<|S.ret results73 rfl fun w hw=>hR _ _ w ?_ hw;exact ⟨a4,bR,rfl,rfl⟩
theorem nS {r:Fr} {va:Value} {xs:List UInt8} (ha:av ag.u8 r va xs) (hl:xs.length≤100000000000000) :
  aj prog 234 #[va] r [] (aF fun v aa=>∃ a c,v=.slice a (bytesOf xs).length c∧aa=[ak ag.u8 5 v (bytesOf xs)]):=by
 refine aj.o func234 fun g hg R hR=>?_;have ha:=ha.mono hg;obtain ⟨a1,c1,rfl⟩:=ha.shape;refine U 8 ?_;refine O.aN (.p rfl) rfl af rfl rfl (ir _) ?_;rintro _ _ ⟨a5,cD,rfl,rfl⟩;refine O.q 1 rfl<|O.aD (.p rfl) (.bw (T:=ag.val) (ys:=[_,_]) underlying28 dH aq rfl rfl ⟨⟨rfl,rfl⟩,⟨rfl,rfl⟩,trivial⟩ aq) ?_;rintro _ _ ⟨a7,c9,rfl,rfl⟩;refine O.dh (.p rfl) rfl af rfl rfl (bs:=[ak ag.val 22 (.slice a7 2 c9) [.slice a5 8 cD,.slice a1 xs.length c1],ak ag.u8 5 (.slice a5 8 cD) (be xs.length)]) ct (fun m hm hd=>mz (xss:=[be xs.length,xs]) ((hm.arr.right hd).rows ⟨hm.tail.arr.right hd,ha.left,trivial⟩) (by simp [ga];omega)) ?_;rintro _ _ ⟨a8,bk,rfl,rfl⟩;refine O.q 1 rfl<|O.nil<|S.ret results234 rfl fun w hw=>hR _ _ w ?_ hw.fst;exact ⟨a8,bk,by simp [bytesOf],by simp [bytesOf]⟩
theorem adO {r:Fr} {va:Value} {xs:List UInt8} (ha:av ag.u8 r va xs) (hl:xs.length≤140737488355328) :
  aj prog 68 #[va] r [] (aF fun v aa=>∃ b a c,v=.pointer (some ⟨b,0,none⟩)∧aa=[obj b 196 [.slice a xs.length c,.bool true,.bool false],ak ag.u8 5 (.slice a xs.length c) xs]):=by
 refine aj.o func68 fun g hg R hR=>?_;have ha:=ha.mono hg;obtain ⟨a1,c1,rfl⟩:=ha.shape;refine U 7 ?_;refine O.aN (.p rfl) rfl af rfl rfl (Lo bq bl) ?_;rintro _ _ ⟨a4,bR,rfl,rfl⟩;refine O.op (.p rfl) (.build (cs:=[_]) underlying194 rfl rfl rfl rfl rfl)<|O.op (.p rfl) (.build (cs:=[_,_,_]) underlying196 rfl rfl rfl rfl rfl)<|O.aD (.p rfl) (.box (cs:=[_,_,_]) rfl rfl) ?_;rintro _ _ ⟨gF,rfl,rfl⟩;refine O.q 1 rfl<|O.nil<|S.ret results68 rfl fun w hw=>hR _ _ w ?_ hw.TN;exact ⟨gF,a4,bR,rfl,rfl⟩
theorem Jn {r:Fr} {b:Nat} {v:Value} {made bad:Bool}:aj prog 171 #[.pointer (some ⟨b,0,none⟩)] r [obj b 196 [v,.bool made,.bool bad]] (aF fun u aa=>u=.bool (made && !bad)∧aa=[obj b 196 [v,.bool made,.bool bad]]):=by
 refine aj.o func171 fun g hg R hR=>?_;refine U 7 ?_;refine O.op (.p rfl) (.Oc underlying126 rfl rfl)<|U 7 ?_
 refine O.cs 11 rfl (fun h11=>?_) fun h11=>?_
 ·subst h11
  refine U 4 ?_;refine O.op (.g rfl rfl) ((by first|exact .pY rfl|exact .not rfl)) ?_;refine O.q 2 rfl<|O.nil<|S.ret results171 rfl fun w hw=>hR _ _ w ?_ hw;exact ⟨rfl,rfl⟩
 ·subst h11
  refine O.q 7 rfl<|O.nil<|S.ret results171 rfl fun w hw=>hR _ _ w ?_ hw;exact ⟨rfl,rfl⟩
theorem aaI {r:Fr} {b:Nat} {v:Value} {rest:List UInt8} {made bad:Bool} (ha:av ag.u8 r v rest):aj prog 72 #[.pointer (some ⟨b,0,none⟩)] r [obj b 196 [v,.bool made,.bool bad]] (aF fun u aa=>u=.bool (decide ((made && !bad)=true∧rest=[]))∧aa=[obj b 196 [v,.bool made,.bool bad]]):=by
 refine aj.o func72 fun g hg R hR=>?_;obtain ⟨a1,c1,rfl⟩:=ha.shape;refine U 7 ?_;refine O.ug (.p rfl) rfl af rfl rfl an Jn<|U 1 ?_
 refine O.cs 5 rfl (fun h5=>?_) fun h5=>?_
 ·refine U 10 ?_
  refine S.ret results72 rfl fun w hw=>hR _ _ w ?_ hw;refine ⟨?_,rfl⟩
  simp [h5]
 ·refine O.q 9 rfl<|O.nil<|S.ret results72 rfl fun w hw=>hR _ _ w ?_ hw
  refine ⟨?_,rfl⟩
  simp [h5]
def missing:List PanicEntry:=[{ v:=.iface 284 (.agg #[]),recovered:=false }]
theorem Oa {r:Fr} (b:Bool):aj prog 268 #[.bool b] r [] (dg (fun v aa=>b=true∧v=.tuple #[]∧aa=[]) (fun ch aa=>b=false∧ch=missing∧aa=[])):=by
 refine aj.o func268 fun g hg R hR=>?_;refine U 3 ?_;refine O.op (.p rfl) ((by first|exact .pY rfl|exact .not rfl))<|U 1 ?_;refine S.cd rfl (fun h3=>?_) fun h3=>?_
 ·refine S.region rfl<|O.op (.p rfl) (.build (cs:=[]) underlying284 rfl rfl rfl rfl rfl)<|O.op (.p rfl) (.Di underlying284 rfl)<|O.panic rfl rfl (fun w hw=>?_)
  exact hR _ [] w ⟨by simpa using h3,rfl,rfl⟩ hw
 ·refine S.skip<|S.gl results268 fun w hw=>hR _ _ w ?_ hw
  exact ⟨by simpa using h3,rfl,rfl⟩
theorem P3 {r:Fr} {b T:Nat} {v:Value} {cs:List Value} {rest:List UInt8} (n:Int) (ha:av ag.u8 r v rest) :
  aj prog 230 #[.pointer (some ⟨b,0,none⟩),.int .i64 n] r [obj b T (v::cs)]
   (dg (fun u aa=>(0≤n∧n≤rest.length)∧∃ a c v',u=.slice a (rest.take n.toNat).length c∧av ag.u8 r (.slice a (rest.take n.toNat).length c) (rest.take n.toNat)∧av ag.u8 r v' (rest.drop n.toNat)∧aa=[obj b T (v' ::cs)]) (fun ch aa=>¬(0≤n∧n≤rest.length)∧ch=missing∧aa=[obj b T (v::cs)])):=by
 refine aj.o func230 fun g hg R hR=>?_;have hbd:=ha.bound;obtain ⟨a1,c1,rfl⟩:=ha.shape;refine U 9 ?_
 refine O.cs 8 rfl (fun h8=>?_) fun h8=>?_
 ·refine U 8 ?_
  refine O.cV (.p rfl) rfl af rfl rfl (Oa _) (fun ch au w hX hW=>by (obtain ⟨hb,rfl,rfl⟩:=hX;exact hR _ _ w ⟨by simp at hb;omega,rfl,rfl⟩ hW)) ?_;rintro _ _ ⟨GD,rfl,rfl⟩;have hb:0≤n∧n≤rest.length:=by simp at GD;omega
  refine U 7 ?_;refine O.q 1 rfl<|O.sliceTo (b:=n.toNat) (.p rfl) underlying22 fG rfl rfl ay bl bl (fun ait pO=>?_);obtain ⟨gk,dm,rfl⟩:=pO.shape;refine U 9 ?_;refine O.q 1 rfl<|O.sliceFrom (a:=n.toNat) (.p rfl) underlying22 fG rfl rfl ay bl bl (fun aiv Ml=>?_);obtain ⟨kY,k3,rfl⟩:=Ml.shape;refine U 9 ?_;refine S.ret results230 rfl fun w hw=>hR _ _ w ?_ hw;exact ⟨hb,_,_,_,rfl,pO,Ml,rfl⟩
 ·refine O.q 8 rfl<|O.cV (.p rfl) rfl af rfl rfl (Oa _) (fun ch au w hX hW=>by (obtain ⟨hb,rfl,rfl⟩:=hX;exact hR _ _ w ⟨by omega,rfl,rfl⟩ hW)) ?_
  rintro _ _ ⟨GD,rfl,rfl⟩;exact absurd GD aH
theorem Zu {α:Type} {rest:List α} (h:(0:Int)≤1∧(1:Int)≤rest.length):∃ x xs,rest=x::xs:=by
 cases rest with
 |nil=>simp at h
 |cons x xs=>exact ⟨x,xs,rfl⟩
theorem Zh {α:Type} {rest:List α} (h:¬((0:Int)≤1∧(1:Int)≤rest.length)):rest=[]:=by
 cases rest with
 |nil=>rfl
 |cons x xs=>simp at h;omega
theorem Zt {r:Fr} {b T:Nat} {v:Value} {cs:List Value} {rest:List UInt8} (ha:av ag.u8 r v rest) :
  aj prog 141 #[.pointer (some ⟨b,0,none⟩)] r [obj b T (v::cs)]
   (dg (fun u aa=>∃ x xs v',rest=x::xs∧u=aT x∧av ag.u8 r v' xs∧aa=[obj b T (v' ::cs)]) (fun ch aa=>rest=[]∧ch=missing∧aa=[obj b T (v::cs)])):=by
 refine aj.o func141 fun g hg R hR=>?_;refine U 7 ?_;refine O.nr (.p rfl) rfl af rfl rfl an ((P3 1 ha).sub hg) (fun ch au w hX hW=>by (obtain ⟨hb,rfl,rfl⟩:=hX;exact hR _ _ w ⟨Zh hb,rfl,rfl⟩ hW)) ?_;rintro v4 _ ⟨x7,a4,bR,v4,rfl,agh,UA,rfl⟩;obtain ⟨x,xs,rfl⟩:∃ x xs,rest=x::xs:=Zu x7;refine O.c7 (.p rfl) underlying22 fG rfl rfl (show _=((0:Nat):Int) from rfl) bq (h:=fun gL afJ ag' Wq=>?_)
 cases Wq
 refine U 1 ?_;refine O.q 1 rfl<|O.nil<|S.ret results141 rfl fun w hw=>hR _ _ w ?_ hw;exact ⟨x,xs,_,rfl,rfl,UA,rfl⟩
theorem Zl {r:Fr} {b T:Nat} {v:Value} {cs:List Value} {rest:List UInt8} (ha:av ag.u8 r v rest) :
  aj prog 143 #[.pointer (some ⟨b,0,none⟩)] r [obj b T (v::cs)]
   (dg (fun u aa=>8≤rest.length∧∃ v',u=.int .i64 (gp rest)∧av ag.u8 r v' (rest.drop 8)∧aa=[obj b T (v' ::cs)]) (fun ch aa=>rest.length<8∧ch=missing∧aa=[obj b T (v::cs)])):=by
 refine aj.o func143 fun g hg R hR=>?_;refine U 12 ?_;refine O.nr (.p rfl) rfl af rfl rfl an ((P3 8 ha).sub hg) (fun ch au w hX hW=>by (obtain ⟨hb,rfl,rfl⟩:=hX;exact hR _ _ w ⟨by omega,rfl,rfl⟩ hW)) ?_;rintro uf _ ⟨tf,a7,c9,uf,rfl,agk,UN,rfl⟩;refine U 4 ?_;have MM:(rest.take (Int.toNat 8)).length=8:=by simp;omega
 refine S.ev (ι:=Nat) (fun i=>i≤8) (fun i=>[(9,.int .i64 (i:Int)),(3,.int .u64 (kH (rest.take i):Nat))]) [(7,_),(8,_)] (fun i=>[obj b T (uf::cs)]) (fun i=>8 - i) (0) aH aO aO rfl fun i hx ih=>?_;have aW:=bS (g:=g);refine U 5 ?_;refine S.cd rfl (fun h10=>?_) fun h10=>?_
 ·have hi:i<8:=by omega
  refine U 5 ?_;refine O.c7 (.p rfl) underlying22 fG rfl rfl rfl bq (h:=fun b5 afu agY V_=>?_)
  cases V_
  refine U 5 ?_;refine O.op (.p rfl) (.shl rfl rfl ai)<|U 1 ?_;refine O.op (.p rfl) (.iY underlying5 underlying123 rfl)<|O.op (.p rfl) (.or rfl rfl)<|U 7 ?_;rw [ZP _ _ (Rg rest i hi),show (rest.take (Int.toNat 8))[i]=rest[i] from by simp,← K9 rest i ai];exact S.cF (ih (i+1) ai ai)
 ·have hi:i=8:=by omega
  subst hi;refine U 4 ?_;refine O.op (.p rfl) (.iY underlying123 underlying3 rfl) ?_;refine U 2 ?_;refine S.ret results143 rfl fun w hw=>hR _ _ w ?_ hw;exact ⟨by omega,uf,by rw [Qk _ (Nat.lt_of_lt_of_le (Fa rest 8) aq)];rfl,UN,rfl⟩
end Go.Proofs.YtdjoggpacmpfnaaGreatDoor
