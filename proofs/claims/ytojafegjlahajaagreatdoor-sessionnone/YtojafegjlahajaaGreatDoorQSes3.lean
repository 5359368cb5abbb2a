/- Texts of this proof. -/
import Derived.Test.YtojafegjlahajaaGreatDoorQSes2
open Go Go.Sp Go.Proofs.Tryz
set_option maxRecDepth 100000
set_option maxHeartbeats 1000000
attribute [local irreducible] obj Own OwnP
namespace Go.Proofs.YtojafegjlahajaaGreatDoor
attribute [local irreducible] treeNode treeSum
theorem isP_up {k m g:Fr} (h:m.sub g) (x:IsP k m):k.sub g:=by
 have e:m=k:=x;exact e ▸ h
theorem treeP_on {d k g:Fr} {b s:Nat} {L:List LeafT} {m:Fr} (hd:d.sub g) (hk:k.sub g) (h:Sat [TreeP tt d k b s L] m):TreeP tt g Fr.emp b s L m:=by
 obtain ⟨m1,_,_,s1,_,o,_⟩:=h;obtain ⟨vL,vW,mid,M,c,hwf,hs⟩:=TreeP.onto hd hk o;exact ⟨vL,vW,mid,M,c,hwf,Sat.mono s1 hs⟩
theorem offer24_c {r:Fr} {peer shard:Int} {a:Option Addr} {n c:Nat}:Con prog 58 #[.int .i64 peer,.int .i64 shard,.slice a n c] r [] (Ret fun v η=>∃ a' c',v=.agg #[.int .i64 peer,.int .i64 shard,.int .i64 1,.slice a n c,.slice a' 64 c']∧η=[OwnP Rp.u8 5 (.slice a' 64 c') (List.replicate 64 0)]):=by
 refine Con.o func58 fun g hg R hR=>?_;refine S.seq<|S.region rfl<|O.opE (.p rfl) (.alloc (cs:=[.int .i64 0,.int .i64 0,.int .i64 0,.slice none 0 0,.slice none 0 0]) zeroValue81 rfl) ?_;rintro _ _ ⟨b6,rfl,rfl⟩;refine zz 6 ?_;refine O.opE (.p rfl) (.makeP (T:=Rp.u8) 0 (m:=64) underlying24 elem5 zE rfl rfl rfl rfl rfl zE zE) ?_;rintro _ _ ⟨a10,c10,rfl,rfl⟩;refine O.op (.p rfl) (.build (cs:=[_,_,_,_,_]) underlying81 rfl rfl rfl rfl rfl)<|zz 1 ?_;refine O.nil<|S.retCellAgg results58 isAgg81 zD rfl zC fun w hw=>Holds.end_ hR hw ?_;exact pk ⟨a10,c10,rfl,rfl⟩
theorem root_ok {p:Int} {t:List UInt8} (hp:1≤p∧p≤7) (ht:t.length=64):rootOk (p,1,1,t,List.replicate 64 0,())=true :=
 rootOk_iff.2 ⟨rootShape_iff.2 ⟨hp.1,hp.2,(by decide:(0:Int)≤1),(by decide:(1:Int)<4),(by decide:(1:Int)≤1),(by decide:(1:Int)≤1073741824),ht⟩,List.length_replicate ..⟩
theorem awake24_c {r:Fr} (hH:At r ⟨0,0,none⟩ (w64s shaH)) (hK:At r ⟨1,0,none⟩ (w64s shaK)):Con prog 51 #[] r [] (Ret fun v η=>v=.bool true∧η=[]):=by
 refine Con.o func51 fun g hg R hR=>?_;have hH:=hH.mono hg;have hK:=hK.mono hg;have h64:(treeSum [] []).length=64:=treeSum_len (TreeOk.nil 1) [];have htop:(topP ((1:Nat):Int) (treeSum [] [])).length=64:=by unfold topP;rw [if_pos ⟨by omega,by omega,h64⟩,shaSum_len]
 have hsum0:sumT_q [] []=treeSum [] []:=by unfold sumT_q;rw [if_pos ⟨by simp,fun c hc=>by cases hc⟩]
 have hT:TreeH g.h Fr.emp 1 []:=⟨Fr.emp_sub _,TreeOk.nil 1,⟨by simp,fun _ h=>by cases h⟩,hH,hK⟩;refine zz 6 ?_;refine O.call0 (.p rfl) rfl zD rfl rfl ((newP_c (s:=1) zE)) ?_;rintro _ _ ⟨b8,rfl,rfl⟩;refine zz 5 ?_;refine O.callS (.p rfl) rfl zD rfl rfl zC (sNew_yes (peer:=3) (nonce:=1) hT zE zE zE) ?_;rintro _ _ ⟨b10,rfl,rfl⟩;refine zz 3 ?_;refine S.foldS (A:=TreeX tt Fr.emp b8 1 []) (bs:=[TreeP tt Fr.emp Fr.emp b8 1 []]) zI (fun m h=>TreeP.toX h) ?_;refine zz 3 ?_;refine O.callS (.p rfl) rfl zD rfl rfl zC (tTop_c hT zE) ?_;rintro _ _ ⟨a14,c14,rfl,rfl⟩;refine O.frzA zC fun g hs hm ha14=>?_;replace hg:=zfs hg hs;replace hR:=melted hR hm
 try replace hH:=hH.mono hs
 try replace hK:=hK.mono hs
 try replace hT:=hT.mono hs
 clear hs hm;refine O.call0 (.p rfl) rfl zD rfl rfl ((offer24_c)) ?_;rintro _ _ ⟨a15,c15,rfl,rfl⟩;refine O.frzA zC fun g hs hm ha15=>?_;replace hg:=zfs hg hs;replace hR:=melted hR hm
 try replace hH:=hH.mono hs
 try replace hK:=hK.mono hs
 try replace hT:=hT.mono hs
 try replace ha14:=ha14.mono hs
 clear hs hm;refine O.q 1 rfl<|O.callS (.p rfl) rfl zD rfl rfl zC (tSum_c (p:=[]) hT zH) ?_;rintro _ _ ⟨a17,c17,rfl,rfl⟩;rw [hsum0];refine O.frzA zC fun g hs hm ha17=>?_;replace hg:=zfs hg hs;replace hR:=melted hR hm
 try replace hH:=hH.mono hs
 try replace hK:=hK.mono hs
 try replace hT:=hT.mono hs
 try replace ha14:=ha14.mono hs
 try replace ha15:=ha15.mono hs
 clear hs hm;refine O.vS (.p rfl) rfl zD rfl rfl zC (sOffer0_c (x:=(3,1,1,topP ((1:Nat):Int) (treeSum [] []),List.replicate 64 0,())) hT zE (RootRp.mk ⟨by decide,by decide⟩ ⟨by decide,by decide⟩ ⟨by decide,by decide⟩ ha14 ha15) (root_ok zE htop) rfl ha17 rfl) ?_;refine zz 7 ?_;refine S.open (bs:=fun k:Fr=>[IsP k,TreeP tt Fr.emp k b8 1 []]) zC (fun m x=>x) fun k=>?_;simp only [List.cons_append,List.nil_append];refine S.frz (A:=IsP k) zC fun g hs hm ⟨_,x',s'⟩=>?_;have hk:=isP_up s' x';clear x' s';replace hg:=zfs hg hs;replace hR:=melted hR hm
 try replace hH:=hH.mono hs
 try replace hK:=hK.mono hs
 try replace hT:=hT.mono hs
 try replace ha14:=ha14.mono hs
 try replace ha15:=ha15.mono hs
 try replace ha17:=ha17.mono hs
 clear hs hm;obtain ⟨e,he⟩:∃ e:Fr,e=g.h:=⟨_,rfl⟩;have hT2:TreeH g.h e 1 []:=⟨he ▸ Fr.sub_refl _,TreeOk.nil 1,⟨by simp,fun _ h=>by cases h⟩,hH,hK⟩;refine S.foldS (A:=TreeP tt e Fr.emp b8 1 []) (bs:=[TreeP tt Fr.emp k b8 1 []]) zI (fun m h=>treeP_on (Fr.emp_sub _) (he ▸ hk) h) ?_;refine zz 2 ?_;refine O.callS (.p rfl) rfl zD rfl rfl zC (sNew_yes (peer:=3) (nonce:=1) hT2 zE zE zE) ?_;rintro _ _ ⟨b22,rfl,rfl⟩;refine zz 3 ?_;refine S.foldS (A:=TreeX tt e b8 1 []) (bs:=[TreeP tt e Fr.emp b8 1 []]) zI (fun m h=>TreeP.toX h) ?_;refine zz 3 ?_;refine O.callS (.p rfl) rfl zD rfl rfl zC (tTop_c hT2 zE) ?_;rintro _ _ ⟨a26,c26,rfl,rfl⟩;refine O.frzA zC fun g hs hm ha26=>?_;replace hg:=zfs hg hs;replace hR:=melted hR hm
 try replace hH:=hH.mono hs
 try replace hK:=hK.mono hs
 try replace hT:=hT.mono hs
 try replace ha14:=ha14.mono hs
 try replace ha15:=ha15.mono hs
 try replace ha17:=ha17.mono hs
 try replace hk:=hk.mono hs
 try replace hT2:=hT2.mono hs
 clear hs hm;refine O.call0 (.p rfl) rfl zD rfl rfl ((offer24_c)) ?_;rintro _ _ ⟨a27,c27,rfl,rfl⟩;refine O.frzA zC fun g hs hm ha27=>?_;replace hg:=zfs hg hs;replace hR:=melted hR hm
 try replace hH:=hH.mono hs
 try replace hK:=hK.mono hs
 try replace hT:=hT.mono hs
 try replace ha14:=ha14.mono hs
 try replace ha15:=ha15.mono hs
 try replace ha17:=ha17.mono hs
 try replace hk:=hk.mono hs
 try replace hT2:=hT2.mono hs
 try replace ha26:=ha26.mono hs
 clear hs hm;refine O.q 1 rfl<|O.callS (.p rfl) rfl zD rfl rfl zC (tSum_c (p:=[]) hT2 zH) ?_;rintro _ _ ⟨a29,c29,rfl,rfl⟩;refine O.frzA zC fun g hs hm ha29=>?_;replace hg:=zfs hg hs;replace hR:=melted hR hm
 try replace hH:=hH.mono hs
 try replace hK:=hK.mono hs
 try replace hT:=hT.mono hs
 try replace ha14:=ha14.mono hs
 try replace ha15:=ha15.mono hs
 try replace ha17:=ha17.mono hs
 try replace hk:=hk.mono hs
 try replace hT2:=hT2.mono hs
 try replace ha26:=ha26.mono hs
 try replace ha27:=ha27.mono hs
 clear hs hm;refine O.vS (.p rfl) rfl zD rfl rfl zC (sOfferP_c (peer:=3) (x:=(4,1,1,topP ((1:Nat):Int) (treeSum [] []),List.replicate 64 0,())) (RootRp.mk ⟨by decide,by decide⟩ ⟨by decide,by decide⟩ ⟨by decide,by decide⟩ ha26 ha27) (root_ok zE htop) zE zE ⟨_,_,_,rfl⟩) ?_;refine zz 10 ?_;refine O.sT 34 rfl zF ?_;refine zz 4 ?_;refine O.sT 38 rfl zF ?_;refine O.q 3 rfl<|O.vS (.g rfl rfl) rfl zD rfl rfl zC (sDone_c zE) ?_;refine O.sT 42 rfl zF ?_;refine zz 4 ?_;refine O.sT 46 rfl zF ?_;refine O.q 3 rfl<|O.vS (.g rfl rfl) rfl zD rfl rfl zC (sDone_c zE) ?_;refine O.sF 50 rfl zF ?_;refine zz 3 ?_;refine O.v0 (.g rfl rfl) rfl zD rfl rfl ((sNew_nil noTree_nil)) ?_;refine O.op (.g rfl rfl) (.eqlP underlying82 rfl rfl)<|O.sT 55 rfl zF ?_;refine zz 3 ?_;exact S.rt results51 rfl hR ⟨rfl,rfl⟩
theorem noPull_at {r:Fr} {b:Nat} (h:At r ⟨b,0,none⟩ zeroPull):∀ i (hi:i<([.pointer none,.pointer (some ⟨b,0,none⟩)]:List Value).length),NoPull r ([.pointer none,.pointer (some ⟨b,0,none⟩)]:List Value)[i]
 |0,_=>noPull_nil
 |1,_=>noPull_zero h
theorem zeroT_at {r m:Fr} {b:Nat} (h:Sat [obj b 77 zeroT] m) (hd:r.disj m):At (r.add m) ⟨b,0,none⟩ zeroT:=by
 obtain ⟨m1,_,_,s1,_,o,_⟩:=h;exact ((obj_at o).mono s1).mono (Fr.sub_add_right hd)
theorem sessionNone_c {r:Fr} {peer nonce:Int} {p:List UInt8} {cs:List Value} {x:RootT} (hp:InI64 peer) (hn:InI64 nonce) (hpl:p.length≤9223372036854775807) (h:RootRp.rel r cs x) (hH:At r ⟨0,0,none⟩ (w64s shaH)) (hK:At r ⟨1,0,none⟩ (w64s shaK)) :
  Con prog 8 #[.int .i64 peer,.int .i64 nonce,.string (str p),.agg cs.toArray] r [] (Ret fun v η=>v=.bool true∧η=[]):=by
 obtain ⟨xa3,xa4,xc3,xc4,rfl,k0,k1,k2,k3,k4⟩:=RootRp.sh h;obtain ⟨hp1,hp2⟩:=hp;obtain ⟨hn1,hn2⟩:=hn;have hps:(str p).size=p.length:=str_size_q p;refine Con.o func8 fun g hg R hR=>?_;have hH:=hH.mono hg;have hK:=hK.mono hg;refine S.seq<|S.region rfl<|O.opE (.p rfl) (.box (cs:=[_,_,_,_,_]) rfl rfl) ?_;rintro _ _ ⟨b7,rfl,rfl⟩;refine zz 4 ?_;refine S.frz (A:=obj b7 81 [.int .i64 x.1,.int .i64 x.2.1,.int .i64 x.2.2.1,.slice xa3 x.2.2.2.1.length xc3,.slice xa4 x.2.2.2.2.1.length xc4]) zC fun g hs hm ⟨_,x',s'⟩=>?_;have h7:=(fun s x=>(obj_at x).mono s) s' x';clear x' s';replace hg:=zfs hg hs;replace hR:=melted hR hm
 try replace hH:=hH.mono hs
 try replace hK:=hK.mono hs
 clear hs hm;refine S.region rfl<|O.v0 (.p rfl) rfl zD rfl rfl ((awake24_c hH hK)) ?_;refine O.sT 17 rfl zF ?_;refine zz 3 ?_;refine S.skip (S.seq (S.seq ?_))
 by_cases q1:600<p.length
 ·
  refine zz 4 ?_;refine O.sT 21 rfl (by exact zdt zB)<|zz 18 ?_;exact S.rt results8 rfl hR ⟨rfl,rfl⟩
 ·by_cases q2:100<x.2.2.2.1.length
  ·
   refine zz 4 ?_;refine O.sF 21 rfl (by exact zdf zB)<|zz 5 ?_;refine O.sT 26 rfl (by exact zdt zB)<|zz 13 ?_;exact S.rt results8 rfl hR ⟨rfl,rfl⟩
  ·by_cases q3:100<x.2.2.2.2.1.length
   ·
    refine zz 4 ?_;refine O.sF 21 rfl (by exact zdf zB)<|zz 5 ?_;refine O.sF 26 rfl (by exact zdf zB)<|zz 6 ?_;refine O.sT 32 rfl (by exact zdt zB)<|zz 7 ?_;exact S.rt results8 rfl hR ⟨rfl,rfl⟩
   ·
    refine zz 4 ?_;refine O.sF 21 rfl (by exact zdf zB)<|zz 5 ?_;refine O.sF 26 rfl (by exact zdf zB)<|zz 6 ?_;refine O.sF 32 rfl (by exact zdf zB)<|zz 5 ?_;have hT:TreeH g.h Fr.emp 0 []:=⟨Fr.emp_sub _,TreeOk.nil 0,⟨by simp,fun _ h=>by cases h⟩,hH,hK⟩;refine S.cut1 (fun (u:Bool)=>u=decide (1≤peer∧peer≤7∧1≤nonce)) (fun (u:Bool)=>[(9,.bool u)]) [(0,_),(1,_),(2,_),(7,_)] (fun (u:Bool)=>[]) zq (fun key=>?_) (fun u hx=>?_)
    ·have hm1:=meltRefl (g:=g)
     by_cases g1:1≤peer
     ·by_cases g2:peer≤7
      ·by_cases g3:1≤nonce
       ·
        refine zz 3 ?_;refine O.sT 35 rfl (by exact zdt zB)<|zz 3 ?_;refine O.sT 38 rfl (by exact zdt zB)<|zz 4 ?_;refine O.sT 42 rfl (by exact zdt zB) ?_;refine O.q 2 rfl<|O.nil<|S.pk ?_ (S.weaken ?_ (key (true) (by exact (zdt ⟨g1,g2,g3⟩).symm)))
        ·exact zN
        repeat (first|exact Sub.nil|refine Sub.cons rfl ?_)
       ·
        refine zz 3 ?_;refine O.sT 35 rfl (by exact zdt zB)<|zz 3 ?_;refine O.sT 38 rfl (by exact zdt zB)<|zz 4 ?_;refine O.sF 42 rfl (by exact zdf zB) ?_;refine O.q 2 rfl<|O.nil<|S.pk ?_ (S.weaken ?_ (key (false) (by exact (zdf (fun q=>g3 q.2.2)).symm)))
        ·exact zN
        repeat (first|exact Sub.nil|refine Sub.cons rfl ?_)
      ·
       refine zz 3 ?_;refine O.sT 35 rfl (by exact zdt zB)<|zz 3 ?_;refine O.sF 38 rfl (by exact zdf zB) ?_;refine O.q 6 rfl<|O.nil<|S.pk ?_ (S.weaken ?_ (key (false) (by exact (zdf (fun q=>g2 q.2.1)).symm)))
       ·exact zN
       repeat (first|exact Sub.nil|refine Sub.cons rfl ?_)
     ·
      refine zz 3 ?_;refine O.sF 35 rfl (by exact zdf zB) ?_;refine O.q 9 rfl<|O.nil<|S.pk ?_ (S.weaken ?_ (key (false) (by exact (zdf (fun q=>g1 q.1)).symm)))
      ·exact zN
      repeat (first|exact Sub.nil|refine Sub.cons rfl ?_)
    ·
     by_cases good:1≤peer∧peer≤7∧1≤nonce
     ·have hu:u=true:=by rw [hx];exact zdt good
      subst hu;refine zz 3 ?_;refine O.call0 (.p rfl) rfl zD rfl rfl ((newP_c (s:=0) zE)) ?_;rintro _ _ ⟨b44,rfl,rfl⟩;refine O.q 2 rfl<|O.callS (.p rfl) rfl zD rfl rfl zC (sNew_yes hT zE ⟨good.1,good.2.1⟩ good.2.2) ?_;rintro _ _ ⟨b47,rfl,rfl⟩;refine O.op (.p rfl) (.neqP underlying82 rfl rfl)<|O.sT 48 rfl zF ?_;refine O.q 1 rfl<|O.op (.p rfl) (.neqB underlying4 rfl rfl)<|O.sF 50 rfl zF ?_;refine O.q 1 rfl<|O.op (.g rfl rfl) (.build (cs:=[_,_,_,_]) underlying77 rfl rfl rfl rfl rfl)<|O.opE (.g rfl rfl) (.box (cs:=[_,_,_,_]) rfl rfl) ?_;rintro _ _ ⟨b53,rfl,rfl⟩;refine O.callB (.g rfl rfl) rfl zD rfl rfl (bs:=[obj b53 77 zeroT]) zI (fun m hm hd=>sNew_nil (noTree_zero (zeroT_at hm hd))) ?_;rintro _ _ ⟨rfl,rfl⟩;refine O.op (.g rfl rfl) (.neqP underlying82 rfl rfl)<|O.sF 55 rfl zF ?_;refine zz 6 ?_;refine O.op (.p rfl) (.build (cs:=[_,_,_,_,_]) underlying89 rfl rfl rfl rfl rfl)<|O.opE (.p rfl) (.box (cs:=[_,_,_,_,_]) rfl rfl) ?_;rintro _ _ ⟨b58,rfl,rfl⟩;refine O.opE (.p rfl) (.litP (T:=Rp.val) (ys:=[.pointer none,.pointer (some ⟨b58,0,none⟩)]) underlying90 elem82 zE rfl rfl ⟨⟨rfl,rfl⟩,⟨rfl,rfl⟩,trivial⟩ zE) ?_;rintro _ _ ⟨a59,c59,rfl,rfl⟩;refine zz 4 ?_;refine S.frzA zC fun g hs hm hv=>?_;replace hg:=zfs hg hs;replace hR:=melted hR hm
      try replace hH:=hH.mono hs
      try replace hK:=hK.mono hs
      try replace h7:=h7.mono hs
      try replace hT:=hT.mono hs
      clear hs hm;refine zz 4 ?_;refine S.frz (A:=obj b58 89 zeroPull) zC fun g hs hm ⟨_,x',s'⟩=>?_;have hzt:=(fun s x=>(obj_at x).mono s) s' x';clear x' s';replace hg:=zfs hg hs;replace hR:=melted hR hm
      try replace hH:=hH.mono hs
      try replace hK:=hK.mono hs
      try replace h7:=h7.mono hs
      try replace hT:=hT.mono hs
      try replace hv:=hv.mono hs
      clear hs hm;have hno:=noPull_at hzt;refine S.imp (η' :=[]) (fun _ _=>trivial) ?_;refine S.loopK (ι:=Nat) (fun i=>i≤2) (fun i=>[(11,.int .i64 (i:Int))]) [(2,_),(7,_),(10,_)] (fun i=>[]) (fun i=>2 - i) (0) zH zq zq rfl fun i hx ih=>?_;have hm1:=meltRefl (g:=g);refine zz 6 ?_;refine S.cd rfl (fun h61=>?_) fun h61=>?_
      ·have hi:i<2:=by omega
       have hn:=hno i hi;generalize hu:([.pointer none,.pointer (some ⟨b58,0,none⟩)]:List Value)[i]=y at hn;refine S.skip<|S.seq<|S.block<|S.seq<|S.regionD (L:=.range 13) F.mixed zD<|OD.q 2 rfl<|OD.iz (hv) (h:=fun p67 cs67 hp67 hr67=>?_);obtain ⟨rfl,_⟩:=hr67;refine zz 1 ?_;refine OD.slot 68 (v' :=y) rfl (by rw [← hu]) ?_;refine .quiet (.p rfl) rfl (fun _=>.loadAgg isAgg81 zD rfl h7) ?_;refine zz 2 ?_;refine OD.v0 (.p rfl) zD rfl zD rfl rfl ((nOffer_c (x:=x) hn)) ?_;refine zz 10 ?_;refine O.iz (hv) (h:=fun p78 cs78 hp78 hr78=>?_);obtain ⟨rfl,_⟩:=hr78;refine zz 1 ?_;refine O.slot 79 (v' :=y) rfl (by rw [← hu]) ?_;refine O.q 1 rfl<|O.op (.p rfl) (.build (cs:=[_,_,_,_]) underlying27 rfl rfl rfl rfl rfl)<|O.v0 (.p rfl) rfl zD rfl rfl ((nNodeS_c hn)) ?_;refine zz 12 ?_;refine O.sF 87 rfl zF ?_;refine zz 4 ?_;refine O.sF 91 rfl zF ?_;refine zz 4 ?_;refine O.sF 95 rfl zF ?_;refine zz 5 ?_;refine O.sF 100 rfl zF ?_;refine zz 5 ?_;refine O.sF 105 rfl zF ?_;refine O.q 4 rfl<|O.iz (hv) (h:=fun p110 cs110 hp110 hr110=>?_);obtain ⟨rfl,_⟩:=hr110;refine zz 1 ?_;refine O.slot 111 (v' :=y) rfl (by rw [← hu]) ?_;refine O.v0 (.g rfl rfl) rfl zD rfl rfl ((nDone_c hn)) ?_;refine O.sF 112 rfl zF ?_;refine O.q 4 rfl<|O.iz (hv) (h:=fun p117 cs117 hp117 hr117=>?_);obtain ⟨rfl,_⟩:=hr117;refine zz 1 ?_;refine O.slot 118 (v' :=y) rfl (by rw [← hu]) ?_
       refine O.v0 (.g rfl rfl) rfl zD rfl rfl ((nAsked_c hn))<|zz 1 ?_;refine O.sF 120 rfl zF<|zz 10 ?_;exact S.wk (ih (i+1) zB zB)
      ·clear ih
       refine zz 5 ?_;exact S.rt results8 rfl hR ⟨rfl,rfl⟩
     ·have hu:u=false:=by rw [hx];exact zdf good
      subst hu;refine zz 3 ?_;refine O.call0 (.p rfl) rfl zD rfl rfl ((newP_c (s:=0) zE)) ?_;rintro _ _ ⟨b44,rfl,rfl⟩;refine O.q 2 rfl<|O.vS (.p rfl) rfl zD rfl rfl zC (sNew_no hT zE good) ?_;refine O.op (.p rfl) (.neqP underlying82 rfl rfl)<|O.sF 48 rfl zF ?_;refine O.q 1 rfl<|O.op (.p rfl) (.neqB underlying4 rfl rfl)<|O.sF 50 rfl zF ?_;refine O.q 1 rfl<|O.op (.g rfl rfl) (.build (cs:=[_,_,_,_]) underlying77 rfl rfl rfl rfl rfl)<|O.opE (.g rfl rfl) (.box (cs:=[_,_,_,_]) rfl rfl) ?_;rintro _ _ ⟨b53,rfl,rfl⟩;refine O.callB (.g rfl rfl) rfl zD rfl rfl (bs:=[obj b53 77 zeroT]) zI (fun m hm hd=>sNew_nil (noTree_zero (zeroT_at hm hd))) ?_;rintro _ _ ⟨rfl,rfl⟩;refine O.op (.g rfl rfl) (.neqP underlying82 rfl rfl)<|O.sF 55 rfl zF ?_;refine zz 6 ?_;refine O.op (.p rfl) (.build (cs:=[_,_,_,_,_]) underlying89 rfl rfl rfl rfl rfl)<|O.opE (.p rfl) (.box (cs:=[_,_,_,_,_]) rfl rfl) ?_;rintro _ _ ⟨b58,rfl,rfl⟩;refine O.opE (.p rfl) (.litP (T:=Rp.val) (ys:=[.pointer none,.pointer (some ⟨b58,0,none⟩)]) underlying90 elem82 zE rfl rfl ⟨⟨rfl,rfl⟩,⟨rfl,rfl⟩,trivial⟩ zE) ?_;rintro _ _ ⟨a59,c59,rfl,rfl⟩;refine zz 4 ?_;refine S.frzA zC fun g hs hm hv=>?_;replace hg:=zfs hg hs;replace hR:=melted hR hm
      try replace hH:=hH.mono hs
      try replace hK:=hK.mono hs
      try replace h7:=h7.mono hs
      try replace hT:=hT.mono hs
      clear hs hm;refine zz 4 ?_;refine S.frz (A:=obj b58 89 zeroPull) zC fun g hs hm ⟨_,x',s'⟩=>?_;have hzt:=(fun s x=>(obj_at x).mono s) s' x';clear x' s';replace hg:=zfs hg hs;replace hR:=melted hR hm
      try replace hH:=hH.mono hs
      try replace hK:=hK.mono hs
      try replace h7:=h7.mono hs
      try replace hT:=hT.mono hs
      try replace hv:=hv.mono hs
      clear hs hm;have hno:=noPull_at hzt;refine S.imp (η' :=[]) (fun _ _=>trivial) ?_;refine S.loopK (ι:=Nat) (fun i=>i≤2) (fun i=>[(11,.int .i64 (i:Int))]) [(2,_),(7,_),(10,_)] (fun i=>[]) (fun i=>2 - i) (0) zH zq zq rfl fun i hx ih=>?_;have hm1:=meltRefl (g:=g);refine zz 6 ?_;refine S.cd rfl (fun h61=>?_) fun h61=>?_
      ·have hi:i<2:=by omega
       have hn:=hno i hi;generalize hu:([.pointer none,.pointer (some ⟨b58,0,none⟩)]:List Value)[i]=y at hn;refine S.skip<|S.seq<|S.block<|S.seq<|S.regionD (L:=.range 13) F.mixed zD<|OD.q 2 rfl<|OD.iz (hv) (h:=fun p67 cs67 hp67 hr67=>?_);obtain ⟨rfl,_⟩:=hr67;refine zz 1 ?_;refine OD.slot 68 (v' :=y) rfl (by rw [← hu]) ?_;refine .quiet (.p rfl) rfl (fun _=>.loadAgg isAgg81 zD rfl h7) ?_;refine zz 2 ?_;refine OD.v0 (.p rfl) zD rfl zD rfl rfl ((nOffer_c (x:=x) hn)) ?_;refine zz 10 ?_;refine O.iz (hv) (h:=fun p78 cs78 hp78 hr78=>?_);obtain ⟨rfl,_⟩:=hr78;refine zz 1 ?_;refine O.slot 79 (v' :=y) rfl (by rw [← hu]) ?_;refine O.q 1 rfl<|O.op (.p rfl) (.build (cs:=[_,_,_,_]) underlying27 rfl rfl rfl rfl rfl)<|O.v0 (.p rfl) rfl zD rfl rfl ((nNodeS_c hn)) ?_;refine zz 12 ?_;refine O.sF 87 rfl zF ?_;refine zz 4 ?_;refine O.sF 91 rfl zF ?_;refine zz 4 ?_;refine O.sF 95 rfl zF ?_;refine zz 5 ?_;refine O.sF 100 rfl zF ?_;refine zz 5 ?_;refine O.sF 105 rfl zF ?_;refine O.q 4 rfl<|O.iz (hv) (h:=fun p110 cs110 hp110 hr110=>?_);obtain ⟨rfl,_⟩:=hr110;refine zz 1 ?_;refine O.slot 111 (v' :=y) rfl (by rw [← hu]) ?_;refine O.v0 (.g rfl rfl) rfl zD rfl rfl ((nDone_c hn)) ?_;refine O.sF 112 rfl zF ?_;refine O.q 4 rfl<|O.iz (hv) (h:=fun p117 cs117 hp117 hr117=>?_);obtain ⟨rfl,_⟩:=hr117;refine zz 1 ?_;refine O.slot 118 (v' :=y) rfl (by rw [← hu]) ?_
       refine O.v0 (.g rfl rfl) rfl zD rfl rfl ((nAsked_c hn))<|zz 1 ?_;refine O.sF 120 rfl zF<|zz 10 ?_;exact S.wk (ih (i+1) zB zB)
      ·clear ih
       refine zz 5 ?_;exact S.rt results8 rfl hR ⟨rfl,rfl⟩
theorem sessionNone_e {r:Fr} {peer nonce:Int} {s:ByteArray} {cs:Array Value} {x:RootT} (hp:InI64 peer) (hn:InI64 nonce) (hs:s.size≤maxLen) (h:RootRp.rel r cs.toList x) (hH:At r ⟨0,0,none⟩ (w64s shaH)) (hK:At r ⟨1,0,none⟩ (w64s shaK)) :
  Con prog 8 #[.int .i64 peer,.int .i64 nonce,.string s,.agg cs] r [] (Ret fun v η=>v=.bool true∧η=[]):=by
 have e:s=str s.data.toList:=rfl;have e2:cs=cs.toList.toArray:=by simp
 rw [e,e2];refine sessionNone_c hp hn ?_ h hH hK;rw [Array.length_toList];exact Nat.le_trans hs zE
end Go.Proofs.YtojafegjlahajaaGreatDoor
