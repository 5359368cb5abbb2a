/- Texts of this proof. -/
import Derived.Test.YtojafegjlahajaaGreatDoorQRec2
open Go Go.Sp Go.Proofs.Tryz
set_option maxRecDepth 100000
set_option maxHeartbeats 1000000
attribute [local irreducible] obj Own av
namespace Go.Proofs.YtojafegjlahajaaGreatDoor
def l8 (x:aQ):List (List UInt8):=[[1],bytesOf x.1,be x.2.1,be x.2.2.1,be x.2.2.2.1.length]
def oC (l:List dn):List (List UInt8):=(l.map fun d=>[be d.1,be d.2.1]).flatten
theorem MI (l:List dn) (d:dn):oC (l++[d])=oC l++[be d.1,be d.2.1]:=by simp [oC]
theorem MH (l:List dn):(oC l).flatten=oD l:=by
 induction l with
 |nil=>rfl
 |cons d l ih=>rw [B0,← ih];simp [oC]
theorem Vx (x:aQ):(l8 x++oC x.2.2.2.1++[[nj x.2.2.2.2.1],bytesOf x.2.2.2.2.2.1]).flatten=ja x:=by
 simp [l8,ja,MH]
theorem VS {r:Fr} {cs:List Value} {x:aQ} (h:dc.rel r cs x) (hs:shaped x=true):ay prog 354 #[.agg cs.toArray] r [] (aM fun v U=>∃ a c,v=.slice a (ja x).length c∧U=[av ag.u8 5 (.slice a (ja x).length c) (ja x)]):=by
 have hb:=x2.1 hs;have hl:=JQ hs;have hdl:=xS hb.2.2.2.1;obtain ⟨v3,v5,v6,rfl,k0,k1,k2,aR,fJ,ew⟩:=dc.open h;refine ay.of (n:=60) _ rfl func354 rfl rfl rfl fun g hg R hR=>?_;have h:=h.mono hg;have aR:=aR.mono hg;have fJ:=fJ.mono hg;have ew:=ew.mono hg;obtain ⟨a3,c3,rfl⟩:=aR.shape;obtain ⟨a5,dM,rfl⟩:=fJ.shape;obtain ⟨a6,dD,rfl⟩:=ew.shape;refine S.seq<|S.region rfl<|O.aO (.p rfl) (.box (cs:=[_,_,_,_,_,_,_]) rfl rfl) ?_;rintro _ _ ⟨b1,rfl,rfl⟩;refine O.q 1 rfl<|O.nil<|S.seq<|S.region rfl<|O.aO (.p rfl) (.cn (T:=ag.u8) (ys:=[0]) underlying24 eM zE rfl rfl ⟨rfl,trivial⟩ zE) ?_;rintro _ _ ⟨a7,ia,rfl,rfl⟩;refine O.q 1 rfl<|O.nil<|S.seq<|S.seq<|S.yH (fun (q:Option Addr × Nat)=>True) (fun (q:Option Addr × Nat)=>[(3,.slice q.1 1 q.2)]) [(1,_)] (fun (q:Option Addr × Nat)=>[obj b1 415 [.string (str x.1),.int .i64 x.2.1,.int .i64 x.2.2.1,.slice a3 x.2.2.2.1.length c3,.bool x.2.2.2.2.1,.slice a5 x.2.2.2.2.2.1.length dM,.slice a6 x.2.2.2.2.2.2.1.length dD],av ag.u8 5 (.slice q.1 1 q.2) [nj x.2.2.2.2.1]]) (.cons rfl (.nil)) (fun key=>?_) (fun q hx=>?_)
 ·have bl:=cW (g:=g)
  refine S.region rfl<|O.op (.p rfl) (.aF fA rfl)<|O.op (.p rfl) (.aF yV rfl)<|O.op (.p rfl) (.lo ic) ?_;refine O.nil ?_
  first|refine S.ct rfl (fun h10=>?_) (fun h10=>?_)|refine S.cm rfl (fun h10=>?_) (fun h10=>?_)
  ·refine S.region rfl<|O.q 1 rfl<|O.aO (.p rfl) (.oZ (T:=ag.u8) underlying24 fL rfl rfl (show _=(((0):Nat):Int) by omega) ai p7) ?_
   rintro _ _ ⟨Js,rfl,fI,rfl⟩;refine O.bw rfl (.qR fL rfl fI rfl ai p7 (show _=_ by rfl:ag.rel _ _ _ ((1:UInt8)))) ?_;refine O.nil<|S.jm (T:=ag.u8) (xs' :=[nj x.2.2.2.2.1]) ai rfl (by rw [h10];rfl) ?_;refine S.pk ?_ (S.weaken ?_ (key ((a7,ia)) (by trivial)))
   ·repeat (first|exact aW|exact aY|(apply aX;focus (repeat (first|exact aU|apply zt)))|apply aZ)
   repeat (first|exact Sub.nil|refine Sub.cons rfl ?_)
  ·refine S.skip<|S.jm (T:=ag.u8) (xs' :=[nj x.2.2.2.2.1]) ai rfl (by rw [h10];rfl) ?_
   refine S.pk ?_ (S.weaken ?_ (key ((a7,ia)) (by trivial)))
   ·repeat (first|exact aW|exact aY|(apply aX;focus (repeat (first|exact aU|apply zt)))|apply aZ)
   repeat (first|exact Sub.nil|refine Sub.cons rfl ?_)
 ·refine S.seq<|S.cV ai fun g hs hm eZ=>?_
  replace hg:=Fr.aI hg hs;replace hR:=bt hR hm
  try replace h:=h.mono hs
  try replace aR:=aR.mono hs
  try replace fJ:=fJ.mono hs
  try replace ew:=ew.mono hs
  clear hs hm;refine S.EF (L:=[1,2,3,6,7,8,10,11,12,14,15,16,17,0,4,5,9,13,18,19,20]) (fun (s:(Option Addr × Nat) × List Value)=>[(4,.slice s.1.1 s.2.length s.1.2)]) [(1,_),(3,_)] (fun (s:(Option Addr × Nat) × List Value)=>[sA ag.u8 5 s.2 (l8 x),av ag.val 24 (.slice s.1.1 s.2.length s.1.2) s.2,av ag.u8 5 (.slice q.1 1 q.2) [nj x.2.2.2.2.1]]) (.cons rfl (.cons rfl (.nil))) bx aa (fun kk key=>?_) (fun s=>?_)
  ·refine .quiet (.p rfl) rfl (fun _=>.fieldAddr fA rfl)<|.quiet (.p rfl) rfl (fun _=>.fieldAddr fw rfl)<|.quiet (.p rfl) rfl (fun _=>.loadAt bV rfl eZ rfl) ?_
   refine .quiet (.p rfl) rfl (fun _=>.fieldAddr fA rfl)<|.quiet (.p rfl) rfl (fun _=>.fieldAddr yT rfl)<|.quiet (.p rfl) rfl (fun _=>.loadAt cv rfl (eZ.drop 1) rfl) ?_;refine .quiet (.p rfl) rfl (fun _=>.fieldAddr fA rfl)<|.quiet (.p rfl) rfl (fun _=>.fieldAddr yU rfl)<|.quiet (.p rfl) rfl (fun _=>.loadAt cv rfl (eZ.drop 2) rfl) ?_;refine .quiet (.p rfl) rfl (fun _=>.fieldAddr fA rfl)<|.quiet (.p rfl) rfl (fun _=>.fieldAddr fQ rfl)<|.quiet (.p rfl) rfl (fun _=>.loadAt e5 rfl (eZ.drop 3) rfl) ?_;refine .quiet (.p rfl) rfl (fun _=>.len rfl underlying100 rfl)<|af.eW 0 4 [4,5,9,13,18,19,20] [0,5,9,13,18,19,20] aa rfl rfl ?_ ?_
   ·refine bO.cn (T:=ag.u8) (ys:=[1]) (.p rfl) aa underlying24 eM zE rfl rfl ⟨rfl,trivial⟩ zE (fun iz iD=>?_)
    refine af.pg (.p rfl) aa underlying9 underlying24 underlying5 rfl (by first|assumption|omega|(simp;done)|(simp;omega)) (fun a17 qa=>?_);refine af.cU (.p rfl) aa rfl aa rfl rfl (bs:=[av ag.u8 5 (.slice a17 x.1.length qa) x.1]) aV (fun m hm hd=>vr (hm.arr.right hd) ah) ?_;rintro _ _ ⟨jR,jU,rfl,rfl⟩
    try simp only [an,aq,au]
    refine af.aC (.p rfl) aa rfl aa rfl rfl (j7 _) ?_;rintro _ _ ⟨a22,dZ,rfl,rfl⟩
    try simp only [an,aq,au]
    refine af.aC (.p rfl) aa rfl aa rfl rfl (j7 _) ?_;rintro _ _ ⟨a26,h_,rfl,rfl⟩
    try simp only [an,aq,au]
    refine af.aC (.p rfl) aa rfl aa rfl rfl (j7 _) ?_;rintro _ _ ⟨a31,iE,rfl,rfl⟩
    try simp only [an,aq,au]
    refine af.cn (T:=ag.val) (ys:=[_,_,_,_,_]) (.p rfl) aa underlying109 gr zE rfl rfl ⟨⟨rfl,rfl⟩,⟨rfl,rfl⟩,⟨rfl,rfl⟩,⟨rfl,rfl⟩,⟨rfl,rfl⟩,trivial⟩ zE (fun a32 oA=>?_);refine af.q 1 rfl<|aK.nil<|S.uD (av ag.u8 5) (bs:=[.slice iz 1 iD,.slice jR (bytesOf x.1).length jU,.slice a22 8 dZ,.slice a26 8 h_,.slice a31 8 iE]) (ys:=l8 x) aV rfl ?_;refine S.pk ?_ (S.weaken (Sub.app (.cons rfl (.nil)) (.cons rfl (.cons rfl (.nil)))) (key ((a32,oA),[.slice iz 1 iD,.slice jR (bytesOf x.1).length jU,.slice a22 8 dZ,.slice a26 8 h_,.slice a31 8 iE])))
    try dsimp only
    repeat (first|exact aW|exact aY|(apply aX;focus (repeat (first|exact aU|apply zt)))|apply aZ)
   ·refine bO.pg (.p rfl) aa underlying9 underlying24 underlying5 rfl (by first|assumption|omega|(simp;done)|(simp;omega)) (fun a17 qa=>?_)
    refine af.eW 0 5 [5,9,13,18,19,20] [0,9,13,18,19,20] aa rfl rfl ?_ ?_
    ·refine bO.cn (T:=ag.u8) (ys:=[1]) (.p rfl) aa underlying24 eM zE rfl rfl ⟨rfl,trivial⟩ zE (fun iz iD=>?_)
     refine af.cU (.p rfl) aa rfl aa rfl rfl (bs:=[av ag.u8 5 (.slice a17 x.1.length qa) x.1]) aV (fun m hm hd=>vr (hm.arr.right hd) ah) ?_;rintro _ _ ⟨jR,jU,rfl,rfl⟩
     try simp only [an,aq,au]
     refine af.aC (.p rfl) aa rfl aa rfl rfl (j7 _) ?_;rintro _ _ ⟨a22,dZ,rfl,rfl⟩
     try simp only [an,aq,au]
     refine af.aC (.p rfl) aa rfl aa rfl rfl (j7 _) ?_;rintro _ _ ⟨a26,h_,rfl,rfl⟩
     try simp only [an,aq,au]
     refine af.aC (.p rfl) aa rfl aa rfl rfl (j7 _) ?_;rintro _ _ ⟨a31,iE,rfl,rfl⟩
     try simp only [an,aq,au]
     refine af.cn (T:=ag.val) (ys:=[_,_,_,_,_]) (.p rfl) aa underlying109 gr zE rfl rfl ⟨⟨rfl,rfl⟩,⟨rfl,rfl⟩,⟨rfl,rfl⟩,⟨rfl,rfl⟩,⟨rfl,rfl⟩,trivial⟩ zE (fun a32 oA=>?_);refine af.q 1 rfl<|aK.nil<|S.uD (av ag.u8 5) (bs:=[.slice iz 1 iD,.slice jR (bytesOf x.1).length jU,.slice a22 8 dZ,.slice a26 8 h_,.slice a31 8 iE]) (ys:=l8 x) aV rfl ?_;refine S.pk ?_ (S.weaken (Sub.app (.cons rfl (.nil)) (.cons rfl (.cons rfl (.nil)))) (key ((a32,oA),[.slice iz 1 iD,.slice jR (bytesOf x.1).length jU,.slice a22 8 dZ,.slice a26 8 h_,.slice a31 8 iE])))
     try dsimp only
     repeat (first|exact aW|exact aY|(apply aX;focus (repeat (first|exact aU|apply zt)))|apply aZ)
    ·refine bO.cU (.p rfl) aa rfl aa rfl rfl (bs:=[av ag.u8 5 (.slice a17 x.1.length qa) x.1]) aV (fun m hm hd=>vr (hm.arr.right hd) ah) ?_
     rintro _ _ ⟨jR,jU,rfl,rfl⟩
     try simp only [an,aq,au]
     refine af.eW 0 9 [9,13,18,19,20] [0,13,18,19,20] aa rfl rfl ?_ ?_
     ·refine bO.cn (T:=ag.u8) (ys:=[1]) (.p rfl) aa underlying24 eM zE rfl rfl ⟨rfl,trivial⟩ zE (fun iz iD=>?_)
      refine af.aC (.p rfl) aa rfl aa rfl rfl (j7 _) ?_;rintro _ _ ⟨a22,dZ,rfl,rfl⟩
      try simp only [an,aq,au]
      refine af.aC (.p rfl) aa rfl aa rfl rfl (j7 _) ?_;rintro _ _ ⟨a26,h_,rfl,rfl⟩
      try simp only [an,aq,au]
      refine af.aC (.p rfl) aa rfl aa rfl rfl (j7 _) ?_;rintro _ _ ⟨a31,iE,rfl,rfl⟩
      try simp only [an,aq,au]
      refine af.cn (T:=ag.val) (ys:=[_,_,_,_,_]) (.p rfl) aa underlying109 gr zE rfl rfl ⟨⟨rfl,rfl⟩,⟨rfl,rfl⟩,⟨rfl,rfl⟩,⟨rfl,rfl⟩,⟨rfl,rfl⟩,trivial⟩ zE (fun a32 oA=>?_);refine af.q 1 rfl<|aK.nil<|S.uD (av ag.u8 5) (bs:=[.slice iz 1 iD,.slice jR (bytesOf x.1).length jU,.slice a22 8 dZ,.slice a26 8 h_,.slice a31 8 iE]) (ys:=l8 x) aV rfl ?_;refine S.pk ?_ (S.weaken (Sub.app (.cons rfl (.nil)) (.cons rfl (.cons rfl (.nil)))) (key ((a32,oA),[.slice iz 1 iD,.slice jR (bytesOf x.1).length jU,.slice a22 8 dZ,.slice a26 8 h_,.slice a31 8 iE])))
      try dsimp only
      repeat (first|exact aW|exact aY|(apply aX;focus (repeat (first|exact aU|apply zt)))|apply aZ)
     ·refine bO.aC (.p rfl) aa rfl aa rfl rfl (j7 _) ?_
      rintro _ _ ⟨a22,dZ,rfl,rfl⟩
      try simp only [an,aq,au]
      refine af.eW 0 13 [13,18,19,20] [0,18,19,20] aa rfl rfl ?_ ?_
      ·refine bO.cn (T:=ag.u8) (ys:=[1]) (.p rfl) aa underlying24 eM zE rfl rfl ⟨rfl,trivial⟩ zE (fun iz iD=>?_)
       refine af.aC (.p rfl) aa rfl aa rfl rfl (j7 _) ?_;rintro _ _ ⟨a26,h_,rfl,rfl⟩
       try simp only [an,aq,au]
       refine af.aC (.p rfl) aa rfl aa rfl rfl (j7 _) ?_;rintro _ _ ⟨a31,iE,rfl,rfl⟩
       try simp only [an,aq,au]
       refine af.cn (T:=ag.val) (ys:=[_,_,_,_,_]) (.p rfl) aa underlying109 gr zE rfl rfl ⟨⟨rfl,rfl⟩,⟨rfl,rfl⟩,⟨rfl,rfl⟩,⟨rfl,rfl⟩,⟨rfl,rfl⟩,trivial⟩ zE (fun a32 oA=>?_);refine af.q 1 rfl<|aK.nil<|S.uD (av ag.u8 5) (bs:=[.slice iz 1 iD,.slice jR (bytesOf x.1).length jU,.slice a22 8 dZ,.slice a26 8 h_,.slice a31 8 iE]) (ys:=l8 x) aV rfl ?_;refine S.pk ?_ (S.weaken (Sub.app (.cons rfl (.nil)) (.cons rfl (.cons rfl (.nil)))) (key ((a32,oA),[.slice iz 1 iD,.slice jR (bytesOf x.1).length jU,.slice a22 8 dZ,.slice a26 8 h_,.slice a31 8 iE])))
       try dsimp only
       repeat (first|exact aW|exact aY|(apply aX;focus (repeat (first|exact aU|apply zt)))|apply aZ)
      ·refine bO.aC (.p rfl) aa rfl aa rfl rfl (j7 _) ?_
       rintro _ _ ⟨a26,h_,rfl,rfl⟩
       try simp only [an,aq,au]
       refine af.eW 0 18 [18,19,20] [0,19,20] aa rfl rfl ?_ ?_
       ·refine bO.cn (T:=ag.u8) (ys:=[1]) (.p rfl) aa underlying24 eM zE rfl rfl ⟨rfl,trivial⟩ zE (fun iz iD=>?_)
        refine af.aC (.p rfl) aa rfl aa rfl rfl (j7 _) ?_;rintro _ _ ⟨a31,iE,rfl,rfl⟩
        try simp only [an,aq,au]
        refine af.cn (T:=ag.val) (ys:=[_,_,_,_,_]) (.p rfl) aa underlying109 gr zE rfl rfl ⟨⟨rfl,rfl⟩,⟨rfl,rfl⟩,⟨rfl,rfl⟩,⟨rfl,rfl⟩,⟨rfl,rfl⟩,trivial⟩ zE (fun a32 oA=>?_);refine af.q 1 rfl<|aK.nil<|S.uD (av ag.u8 5) (bs:=[.slice iz 1 iD,.slice jR (bytesOf x.1).length jU,.slice a22 8 dZ,.slice a26 8 h_,.slice a31 8 iE]) (ys:=l8 x) aV rfl ?_;refine S.pk ?_ (S.weaken (Sub.app (.cons rfl (.nil)) (.cons rfl (.cons rfl (.nil)))) (key ((a32,oA),[.slice iz 1 iD,.slice jR (bytesOf x.1).length jU,.slice a22 8 dZ,.slice a26 8 h_,.slice a31 8 iE])))
        try dsimp only
        repeat (first|exact aW|exact aY|(apply aX;focus (repeat (first|exact aU|apply zt)))|apply aZ)
       ·refine bO.aC (.p rfl) aa rfl aa rfl rfl (j7 _) ?_
        rintro _ _ ⟨a31,iE,rfl,rfl⟩
        try simp only [an,aq,au]
        refine af.cn (T:=ag.u8) (ys:=[1]) (.p rfl) aa underlying24 eM zE rfl rfl ⟨rfl,trivial⟩ zE (fun iz iD=>?_);refine af.cn (T:=ag.val) (ys:=[_,_,_,_,_]) (.p rfl) aa underlying109 gr zE rfl rfl ⟨⟨rfl,rfl⟩,⟨rfl,rfl⟩,⟨rfl,rfl⟩,⟨rfl,rfl⟩,⟨rfl,rfl⟩,trivial⟩ zE (fun a32 oA=>?_);refine af.q 1 rfl<|aK.nil<|S.uD (av ag.u8 5) (bs:=[.slice iz 1 iD,.slice jR (bytesOf x.1).length jU,.slice a22 8 dZ,.slice a26 8 h_,.slice a31 8 iE]) (ys:=l8 x) aV rfl ?_;refine S.pk ?_ (S.weaken (Sub.app (.cons rfl (.nil)) (.cons rfl (.cons rfl (.nil)))) (key ((a32,oA),[.slice iz 1 iD,.slice jR (bytesOf x.1).length jU,.slice a22 8 dZ,.slice a26 8 h_,.slice a31 8 iE])))
        try dsimp only
        repeat (first|exact aW|exact aY|(apply aX;focus (repeat (first|exact aU|apply zt)))|apply aZ)
  refine S.lF (B:=sA ag.u8 5 s.2 (l8 x)) ai (fun _ z=>b5.len z) fun hs5=>?_;refine S.seq<|S.seq<|S.region rfl<|O.op (.p rfl) (.fieldAddr fA rfl)<|O.op (.p rfl) (.fieldAddr fQ rfl)<|O.op (.p rfl) (.loadAt e5 rfl (eZ.drop 3) rfl) ?_;refine O.op (.p rfl) (.len rfl underlying100 rfl)<|O.q 1 rfl<|O.nil<|S.block<|S.jG (ι:=Nat) (dB:=(Option Addr × Nat) × List Value) (fun i p=>i≤x.2.2.2.1.length∧p.2.length=5+2*i) (fun i p=>[(37,.int .i64 (i:Int)),(4,.slice p.1.1 p.2.length p.1.2)]) [(1,_),(3,_),(35,_),(36,_)] (fun i p=>[sA ag.u8 5 p.2 (l8 x++oC (x.2.2.2.1.take i)),av ag.val 24 (.slice p.1.1 p.2.length p.1.2) p.2,av ag.u8 5 (.slice q.1 1 q.2) [nj x.2.2.2.2.1]]) (fun i p=>x.2.2.2.1.length - i) (0) (s) (by exact ⟨by simp,hs5⟩) (.cons rfl (.cons rfl (.nil))) (.cons rfl (.cons rfl (.cons rfl (.cons rfl (.nil))))) rfl fun i p hx ih=>?_;have bl:=cW (g:=g);obtain ⟨hx1,hx2⟩:=hx;refine S.seq<|S.region rfl<|O.op (.p rfl) (.lss rfl rfl)<|O.nil (S.seq ?_)
  first|refine S.ct rfl (fun Cp=>?_) (fun Cp=>?_)|refine S.cm rfl (fun Cp=>?_) (fun Cp=>?_)
  ·have hi:i<x.2.2.2.1.length:=by omega
   have hrow:l8 x++oC (x.2.2.2.1.take i)++[be x.2.2.2.1[i].1]++[be x.2.2.2.1[i].2.1]=l8 x++oC (x.2.2.2.1.take (i+1)):=by rw [List.take_succ_eq_append_getElem hi,MI];simp
   refine S.skip<|S.seq<|S.block<|S.seq<|S.region rfl<|O.b_ (.p rfl) underlying100 sg rfl rfl rfl (by first|assumption|exact aj.mono hg aB|exact aj.left aB|exact aj.left (aj.mono hg aB)) (h:=fun Yo Wr Dg Dx=>?_);obtain ⟨rfl,Xc,Xh⟩:=dm.open Dx;refine O.op (.p rfl) (.bI isAgg191 aa rfl Dg) ?_;refine O.aO (.p rfl) (.alloc (cs:=[.int .i64 0,.int .i64 0]) zeroValue191 rfl) ?_;rintro _ _ ⟨gh,rfl,rfl⟩;refine O.bw rfl (.cZ aa rfl rfl rfl rfl ai aT) ?_;refine O.nil<|S.cV ai fun g hs hm HC=>?_;replace hg:=Fr.aI hg hs;replace hR:=bt hR hm
   try replace h:=h.mono hs
   try replace aR:=aR.mono hs
   try replace fJ:=fJ.mono hs
   try replace ew:=ew.mono hs
   try replace eZ:=eZ.mono hs
   try replace Dg:=Dg.mono hs
   try replace Dx:=Dx.mono hs
   replace bl:=eD bl hm;clear hs hm;refine S.bB (L:=[0,1,2,4,5,3,6,7,8,9]) bx aa ?_;refine af.q 1 rfl<|.quiet (.p rfl) rfl (fun _=>.fieldAddr sN rfl)<|.quiet (.p rfl) rfl (fun _=>.loadAt cv rfl HC rfl) ?_;refine .quiet (.p rfl) rfl (fun _=>.fieldAddr wm rfl)<|.quiet (.p rfl) rfl (fun _=>.loadAt cv rfl (HC.drop 1) rfl) ?_;refine af.aC (.p rfl) aa rfl aa rfl rfl (j7 _) ?_;rintro _ _ ⟨a44,Bz,rfl,rfl⟩
   try simp only [an,aq,au]
   refine af.aC (.p rfl) aa rfl aa rfl rfl (j7 _) ?_;rintro _ _ ⟨vP,vX,rfl,rfl⟩
   try simp only [an,aq,au]
   refine af.cn (T:=ag.val) (ys:=[_,_]) (.p rfl) aa underlying109 gr zE rfl rfl ⟨⟨rfl,rfl⟩,⟨rfl,rfl⟩,trivial⟩ zE (fun q6 ri=>?_);refine af.gJ (.p rfl) aa (T:=ag.val) underlying109 gr zE rfl rfl ai ai bL bL (fun a49 uz=>?_);refine af.q 1 rfl<|aK.nil<|S.inBlock<|S.region rfl<|O.op (.p rfl) (.add rfl rfl (IntWalk.i64_in _ ah))<|O.q 1 rfl<|O.nil<|S.each (A:=av ag.u8 5) (bs:=p.2) (b:=.slice a44 8 Bz) (a:=be x.2.2.2.1[i].1) ai ai ?_;refine S.each (A:=av ag.u8 5) (bs:=p.2++[.slice a44 8 Bz]) (b:=.slice vP 8 vX) (a:=be x.2.2.2.1[i].2.1) ai ai ?_;rw [hrow,List.append_assoc,← List.length_append];exact S.iR bl (S.pw (ih (i+1) (((a49,uz),p.2++[.slice a44 8 Bz,.slice vP 8 vX])) (by exact ⟨by omega,by simp;omega⟩) ah))
  ·clear ih
   have hi:i=x.2.2.2.1.length:=by omega
   subst hi;rw [List.take_length];have hrow:l8 x++oC x.2.2.2.1++[[nj x.2.2.2.2.1]]++[bytesOf x.2.2.2.2.2.1]=l8 x++oC x.2.2.2.1++[[nj x.2.2.2.2.1],bytesOf x.2.2.2.2.2.1]:=by simp
   have hfl:=Vx x;refine S.exit rfl<|S.seq<|S.region rfl<|O.q 2 rfl<|O.op (.p rfl) (.fieldAddr fA rfl)<|O.op (.p rfl) (.fieldAddr gD rfl)<|O.op (.p rfl) (.loadAt bg rfl (eZ.drop 5) rfl) ?_;refine O.aC (.p rfl) rfl aa rfl rfl (vr (by first|assumption|exact aj.mono hg aB|exact aj.left aB|exact aj.left (aj.mono hg aB)) bL) ?_;rintro _ _ ⟨K_,LV,rfl,rfl⟩
   try simp only [an,aq,au]
   refine O.aO (.p rfl) (.cn (T:=ag.val) (ys:=[_,_]) underlying109 gr zE rfl rfl ⟨⟨rfl,rfl⟩,⟨rfl,rfl⟩,trivial⟩ zE) ?_;rintro _ _ ⟨a57,LW,rfl,rfl⟩;refine O.aO (.p rfl) (.gJ (T:=ag.val) underlying109 gr zE rfl rfl ai ai bL bL) ?_;rintro _ _ ⟨a58,vY,rfl,rfl⟩;refine O.each (A:=av ag.u8 5) (bs:=p.2) (b:=.slice q.1 1 q.2) (a:=[nj x.2.2.2.2.1]) ai ai ?_;refine O.each (A:=av ag.u8 5) (bs:=p.2++[.slice q.1 1 q.2]) (b:=.slice K_ (bytesOf x.2.2.2.2.2.1).length LV) (a:=bytesOf x.2.2.2.2.2.1) ai ai ?_;rw [hrow,List.append_assoc];refine O.Nf ai ai fun g hs hm hall=>?_;replace hg:=Fr.aI hg hs;replace hR:=bt hR hm
   try replace h:=h.mono hs
   try replace aR:=aR.mono hs
   try replace fJ:=fJ.mono hs
   try replace ew:=ew.mono hs
   try replace eZ:=eZ.mono hs
   replace bl:=eD bl hm;clear hs hm;refine O.aC (.p rfl) rfl aa rfl rfl ((AL hall (by rw [hfl];omega))) ?_;rintro _ _ ⟨a59,LX,rfl,rfl⟩
   try simp only [an,aq,au]
   refine O.q 1 rfl<|O.nil ?_;rw [hfl];exact S.rt results354 rfl hR ⟨a59,LX,rfl,rfl⟩
theorem JI {r:Fr} {cs:List Value} {x:aQ} (h:dc.rel r cs x):ay prog 328 #[.agg cs.toArray] r [] (aM fun v U=>v=.bool (ea x)∧U=[]):=by
 obtain ⟨fE,p5,px,fF,p6,pz,rfl,k0,k1,k2,aR,fJ,ew⟩:=dc.sh h;refine ay.of (n:=12) _ rfl func328 rfl rfl rfl fun g hg R hR=>?_;have h:=h.mono hg;have ew:=ew.mono hg
 cases e:shaped x with
 |false =>
  refine S.seq<|S.region rfl<|O.aO (.p rfl) (.box (cs:=[_,_,_,_,_,_,_]) rfl rfl) ?_;rintro _ _ ⟨b1,rfl,rfl⟩;refine O.q 1 rfl<|O.nil<|S.seq<|S.region rfl<|O.op (.p rfl) (.gU (news:=[_,_,_,_,_,_,_]) isAgg102) ?_;refine O.op (.p rfl) (.build (cs:=[_,_,_,_,_,_,_]) underlying415 rfl rfl rfl rfl rfl)<|O.aC (.p rfl) rfl aa rfl rfl (sq h) ?_;rintro _ _ ⟨rfl,rfl⟩
  try simp only [an,aq,au]
  refine O.aL 5 rfl (by exact e) ?_;refine O.q 7 rfl<|O.nil ?_;exact S.rt results328 rfl hR ⟨by simp [ea,e],rfl⟩
 |true =>
  refine S.seq<|S.region rfl<|O.aO (.p rfl) (.box (cs:=[_,_,_,_,_,_,_]) rfl rfl) ?_;rintro _ _ ⟨b1,rfl,rfl⟩;refine O.q 1 rfl<|O.nil<|S.seq<|S.region rfl<|O.op (.p rfl) (.gU (news:=[_,_,_,_,_,_,_]) isAgg102) ?_;refine O.op (.p rfl) (.build (cs:=[_,_,_,_,_,_,_]) underlying415 rfl rfl rfl rfl rfl)<|O.aC (.p rfl) rfl aa rfl rfl (sq h) ?_;rintro _ _ ⟨rfl,rfl⟩
  try simp only [an,aq,au]
  refine O.sT 5 rfl (by exact e) ?_;refine O.q 1 rfl<|O.op (.g rfl rfl) (.aF jg rfl)<|O.op (.g rfl rfl) (.lo bg) ?_;refine O.op (.g rfl rfl) (.len rfl underlying24 rfl)<|O.op (.g rfl rfl) (.eql rfl rfl)<|O.q 2 rfl<|O.nil ?_;exact S.rt results328 rfl hR ⟨by simp [ea,e];omega,rfl⟩
theorem Te {r:Fr} {cs:List Value} {x:aQ} (h:dc.rel r cs x) (hs:shaped x=true):ay prog 329 #[.agg cs.toArray] r [] (aM fun v U=>∃ a c,v=.slice a (ja x).length c∧U=[av ag.u8 5 (.slice a (ja x).length c) (ja x)]):=by
 obtain ⟨fE,p5,px,fF,p6,pz,rfl,k0,k1,k2,aR,fJ,ew⟩:=dc.sh h;refine ay.of (n:=11) _ rfl func329 rfl rfl rfl fun g hg R hR=>?_;have h:=h.mono hg;refine S.seq<|S.region rfl<|O.aO (.p rfl) (.box (cs:=[_,_,_,_,_,_,_]) rfl rfl) ?_;rintro _ _ ⟨b1,rfl,rfl⟩;refine O.q 1 rfl<|O.nil<|S.seq<|S.region rfl<|O.op (.p rfl) (.gU (news:=[_,_,_,_,_,_,_]) isAgg102) ?_;refine O.op (.p rfl) (.build (cs:=[_,_,_,_,_,_,_]) underlying415 rfl rfl rfl rfl rfl)<|O.aO (.p rfl) (.alloc (cs:=[.string ⟨#[]⟩,.int .i64 0,.int .i64 0,.slice none 0 0,.bool false,.slice none 0 0,.slice none 0 0]) zeroValue415 rfl) ?_;rintro _ _ ⟨b3,rfl,rfl⟩;refine O.bw rfl (.cZ aa rfl rfl rfl rfl ai aT) ?_;refine O.nil<|S.seq<|S.seq<|S.region rfl<|O.op (.p rfl) (.gU (news:=[_,_,_,_,_,_,_]) isAgg415) ?_;refine O.aC (.p rfl) rfl aa rfl rfl (sq h) ?_;rintro _ _ ⟨rfl,rfl⟩
 try simp only [an,aq,au]
 refine O.sT 7 rfl (by exact hs) ?_;refine O.op (.p rfl) (.not rfl)<|O.nil<|S.aP rfl<|S.skip<|S.seq<|S.region rfl<|O.op (.p rfl) (.gU (news:=[_,_,_,_,_,_,_]) isAgg415) ?_;refine O.aC (.p rfl) rfl aa rfl rfl (VS (by first|assumption|exact ag.rel.mono aB hg) aB) ?_;rintro _ _ ⟨ov,oz,rfl,rfl⟩
 try simp only [an,aq,au]
 refine O.q 1 rfl<|O.nil ?_;exact S.rt results329 rfl hR ⟨ov,oz,rfl,rfl⟩
def l7 (x:aQ):List UInt8:=if ea x then b7 x else []
def og (x:aQ):Int:=if ea x then 0 else 4
theorem JH {r:Fr} {cs:List Value} {x:aQ} (h:dc.rel r cs x):ay prog 292 #[.agg cs.toArray] r [] (aM fun v U=>∃ a c,v=.tuple #[.slice a (l7 x).length c,.int .i64 (og x)]∧U=[av ag.u8 5 (.slice a (l7 x).length c) (l7 x)]):=by
 obtain ⟨fE,p5,px,fF,p6,pz,rfl,k0,k1,k2,aR,fJ,ew⟩:=dc.sh h;refine ay.of (n:=13) _ rfl func292 rfl rfl rfl fun g hg R hR=>?_;have h:=h.mono hg;have ew:=ew.mono hg
 cases e:ea x with
 |false =>
  have e1:l7 x=[]:=by simp [l7,e]
  have e2:og x=4:=by simp [og,e]
  rw [e1,e2] at hR;refine S.seq<|S.region rfl<|O.aO (.p rfl) (.box (cs:=[_,_,_,_,_,_,_]) rfl rfl) ?_;rintro _ _ ⟨b1,rfl,rfl⟩;refine O.q 2 rfl<|O.nil<|S.seq<|S.seq<|S.region rfl<|O.op (.p rfl) (.gU (news:=[_,_,_,_,_,_,_]) isAgg102) ?_;refine O.aC (.p rfl) rfl aa rfl rfl (JI h) ?_;rintro _ _ ⟨rfl,rfl⟩
  try simp only [an,aq,au]
  refine O.aL 5 rfl (by exact e) ?_;refine O.op (.p rfl) (.not rfl)<|O.nil<|S.bC rfl<|S.seq<|S.region rfl<|O.q 2 rfl<|O.nil<|S.gd (T:=ag.u8) (e:=5) ?_;refine S.lg results292 rfl rfl fun w hw=>Holds.end_ hR hw ?_;exact pk ⟨none,0,rfl,rfl⟩
 |true =>
  have e1:l7 x=b7 x:=by simp [l7,e]
  have e2:og x=0:=by simp [og,e]
  have hl:=Aj e;obtain ⟨hs,hs2⟩:=vm.1 e;have hfl:[ja x,x.2.2.2.2.2.2.1].flatten=b7 x:=by simp [b7]
  rw [e1,e2] at hR;refine S.seq<|S.region rfl<|O.aO (.p rfl) (.box (cs:=[_,_,_,_,_,_,_]) rfl rfl) ?_;rintro _ _ ⟨b1,rfl,rfl⟩;refine O.q 2 rfl<|O.nil<|S.seq<|S.seq<|S.region rfl<|O.op (.p rfl) (.gU (news:=[_,_,_,_,_,_,_]) isAgg102) ?_;refine O.aC (.p rfl) rfl aa rfl rfl (JI h) ?_;rintro _ _ ⟨rfl,rfl⟩
  try simp only [an,aq,au]
  refine O.sT 5 rfl (by exact e) ?_;refine O.op (.p rfl) (.not rfl)<|O.nil<|S.aP rfl<|S.skip<|S.seq<|S.cV ai fun g hs hm eZ=>?_;replace hg:=Fr.aI hg hs;replace hR:=bt hR hm
  try replace h:=h.mono hs
  try replace ew:=ew.mono hs
  clear hs hm;refine S.bB (L:=[0,2,3,1,4,5,6,7]) bx aa ?_;refine .quiet (.p rfl) rfl (fun _=>.bI isAgg102 aa rfl eZ) ?_;refine .quiet (.p rfl) rfl (fun _=>.fieldAddr jg rfl)<|.quiet (.p rfl) rfl (fun _=>.loadAt bg rfl (eZ.drop 6) rfl) ?_;refine af.aC (.p rfl) aa rfl aa rfl rfl (Te (by first|assumption|exact ag.rel.mono aB hg) aB) ?_;rintro _ _ ⟨a8,nN,rfl,rfl⟩
  try simp only [an,aq,au]
  refine af.cn (T:=ag.val) (ys:=[_,_]) (.p rfl) aa underlying109 gr zE rfl rfl ⟨⟨rfl,rfl⟩,⟨rfl,rfl⟩,trivial⟩ zE (fun kS nL=>?_);refine af.cU (.p rfl) aa rfl aa rfl rfl (bs:=[av ag.val 24 (.slice kS 2 nL) [.slice a8 (ja x).length nN,.slice px x.2.2.2.2.2.2.1.length pz],av ag.u8 5 (.slice a8 (ja x).length nN) (ja x)]) aV (fun m hm hd=>AL (xss:=[ja x,x.2.2.2.2.2.2.1]) ((hm.arr.right hd).rows ⟨hm.tail.arr.right hd,ew.left,trivial⟩) (by rw [hfl];omega)) ?_;rintro _ _ ⟨a12,jy,rfl,rfl⟩
  try simp only [an,aq,au]
  refine af.q 2 rfl<|aK.nil ?_;rw [hfl];refine S.lg results292 rfl rfl fun w hw=>Holds.end_ hR hw ?_;exact pk ⟨a12,jy,rfl,rfl⟩
theorem Td {r:Fr} {cs ds:List Value} {x y:aQ} (h:dc.rel r cs x) (h' :dc.rel r ds y):ay prog 297 #[.agg cs.toArray,.agg ds.toArray] r [] (aM fun v U=>v=.bool (over x y)∧U=[]):=by
 obtain ⟨fE,p5,px,fF,p6,pz,rfl,k0,k1,k2,aR,fJ,ew⟩:=dc.sh h;obtain ⟨vv,vw,vz,vA,vB,vC,rfl,l0,l1,l2,l3,IC,zF⟩:=dc.sh h';refine ay.of (n:=31) _ rfl func297 rfl rfl rfl fun g hg R hR=>?_;have h:=h.mono hg;have h' :=h'.mono hg;have aR:=aR.mono hg;refine S.seq<|S.region rfl<|O.aO (.p rfl) (.box (cs:=[_,_,_,_,_,_,_]) rfl rfl) ?_;rintro _ _ ⟨b2,rfl,rfl⟩;refine O.aO (.p rfl) (.box (cs:=[_,_,_,_,_,_,_]) rfl rfl) ?_;rintro _ _ ⟨b3,rfl,rfl⟩;refine O.q 1 rfl<|O.nil<|S.seq<|S.cV ai fun g hs hm eY=>?_;replace hg:=Fr.aI hg hs;replace hR:=bt hR hm
 try replace h:=h.mono hs
 try replace h' :=h'.mono hs
 try replace aR:=aR.mono hs
 clear hs hm;refine S.cV ai fun g hs hm ij=>?_;replace hg:=Fr.aI hg hs;replace hR:=bt hR hm
 try replace h:=h.mono hs
 try replace h' :=h'.mono hs
 try replace aR:=aR.mono hs
 try replace eY:=eY.mono hs
 clear hs hm;refine S.bB (L:=[0,1,2,3,4,5,6,7]) bx aa ?_;refine .quiet (.p rfl) rfl (fun _=>.bI isAgg102 aa rfl ij) ?_;refine .quiet (.p rfl) rfl (fun _=>.build (cs:=[_,_,_,_,_,_,_]) underlying415 rfl rfl rfl rfl rfl)<|.quiet (.p rfl) rfl (fun _=>.bI isAgg102 aa rfl eY) ?_;refine .quiet (.p rfl) rfl (fun _=>.build (cs:=[_,_,_,_,_,_,_]) underlying415 rfl rfl rfl rfl rfl)<|.lazy rfl aa rfl fun gK=>?_;refine .lazy rfl aa rfl fun gh=>?_;refine af.cZ rfl aa aa rfl rfl rfl rfl ai aT ?_;refine af.cZ rfl aa aa rfl rfl rfl rfl ai aT ?_;refine aK.nil<|S.seq<|S.c7 (b:=gK) (cs' :=[.string (str x.1),.int .i64 x.2.1,.int .i64 x.2.2.1,.slice fE x.2.2.2.1.length fF,.bool x.2.2.2.2.1,.slice p5 x.2.2.2.2.2.1.length p6,.slice px x.2.2.2.2.2.2.1.length pz]) ai rfl ?_;refine S.c7 (b:=gh) (cs' :=[.string (str y.1),.int .i64 y.2.1,.int .i64 y.2.2.1,.slice vv y.2.2.2.1.length vA,.bool y.2.2.2.2.1,.slice vw y.2.2.2.2.2.1.length vB,.slice vz y.2.2.2.2.2.2.1.length vC]) ai rfl ?_;refine S.cV ai fun g hs hm dX=>?_;replace hg:=Fr.aI hg hs;replace hR:=bt hR hm
 try replace h:=h.mono hs
 try replace h' :=h'.mono hs
 try replace aR:=aR.mono hs
 try replace eY:=eY.mono hs
 try replace ij:=ij.mono hs
 clear hs hm;refine S.cV ai fun g hs hm zg=>?_;replace hg:=Fr.aI hg hs;replace hR:=bt hR hm
 try replace h:=h.mono hs
 try replace h' :=h'.mono hs
 try replace aR:=aR.mono hs
 try replace eY:=eY.mono hs
 try replace ij:=ij.mono hs
 try replace dX:=dX.mono hs
 clear hs hm
 by_cases e1:x.1=y.1
 ·cases e2:shaped x with
  |false =>
   refine S.bB (L:=[0,1,2,3,4,5,6,7,8,9,10,11,12,13,14,15,16,17,18,19,20]) bx aa ?_;refine .quiet (.p rfl) rfl (fun _=>.fieldAddr fw rfl)<|.quiet (.p rfl) rfl (fun _=>.loadAt bV rfl ij rfl) ?_;refine .quiet (.p rfl) rfl (fun _=>.fieldAddr fw rfl)<|.quiet (.p rfl) rfl (fun _=>.loadAt bV rfl eY rfl) ?_;refine .quiet (.p rfl) rfl (fun _=>.lE rfl rfl)<|af.sT 15 rfl (by simp [e1]) ?_;refine af.q 1 rfl<|.quiet (.g rfl rfl) rfl (fun _=>.bI isAgg415 aa rfl zg) ?_;refine af.aC (.g rfl rfl) aa rfl aa rfl rfl (sq h) ?_;rintro _ _ ⟨rfl,rfl⟩
   try simp only [an,aq,au]
   refine af.aL 18 rfl (by exact e2) ?_;refine af.q 13 rfl<|aK.nil ?_;exact S.rt results297 rfl hR ⟨by simp [over,e2],rfl⟩
  |true =>
   cases b6:shaped y with
   |false =>
    refine S.bB (L:=[0,1,2,3,4,5,6,7,8,9,10,11,12,13,14,15,16,17,18,19,20]) bx aa ?_;refine .quiet (.p rfl) rfl (fun _=>.fieldAddr fw rfl)<|.quiet (.p rfl) rfl (fun _=>.loadAt bV rfl ij rfl) ?_;refine .quiet (.p rfl) rfl (fun _=>.fieldAddr fw rfl)<|.quiet (.p rfl) rfl (fun _=>.loadAt bV rfl eY rfl) ?_;refine .quiet (.p rfl) rfl (fun _=>.lE rfl rfl)<|af.sT 15 rfl (by simp [e1]) ?_;refine af.q 1 rfl<|.quiet (.g rfl rfl) rfl (fun _=>.bI isAgg415 aa rfl zg) ?_;refine af.aC (.g rfl rfl) aa rfl aa rfl rfl (sq h) ?_;rintro _ _ ⟨rfl,rfl⟩
    try simp only [an,aq,au]
    refine af.sT 18 rfl (by exact e2) ?_;refine af.q 2 rfl<|.quiet (.g rfl rfl) rfl (fun _=>.bI isAgg415 aa rfl dX) ?_;refine af.aC (.g rfl rfl) aa rfl aa rfl rfl (sq h') ?_;rintro _ _ ⟨rfl,rfl⟩
    try simp only [an,aq,au]
    refine af.aL 22 rfl (by exact b6) ?_;refine af.q 9 rfl<|aK.nil ?_;exact S.rt results297 rfl hR ⟨by simp [over,b6],rfl⟩
   |true =>
    refine S.bB (L:=[0,1,2,3,4,5,6,7,8,9,10,11,12,13,14,15,16,17,18,19,20]) bx aa ?_;refine .quiet (.p rfl) rfl (fun _=>.fieldAddr fw rfl)<|.quiet (.p rfl) rfl (fun _=>.loadAt bV rfl ij rfl) ?_;refine .quiet (.p rfl) rfl (fun _=>.fieldAddr fw rfl)<|.quiet (.p rfl) rfl (fun _=>.loadAt bV rfl eY rfl) ?_;refine .quiet (.p rfl) rfl (fun _=>.lE rfl rfl)<|af.sT 15 rfl (by simp [e1]) ?_;refine af.q 1 rfl<|.quiet (.g rfl rfl) rfl (fun _=>.bI isAgg415 aa rfl zg) ?_;refine af.aC (.g rfl rfl) aa rfl aa rfl rfl (sq h) ?_;rintro _ _ ⟨rfl,rfl⟩
    try simp only [an,aq,au]
    refine af.sT 18 rfl (by exact e2) ?_;refine af.q 2 rfl<|.quiet (.g rfl rfl) rfl (fun _=>.bI isAgg415 aa rfl dX) ?_;refine af.aC (.g rfl rfl) aa rfl aa rfl rfl (sq h') ?_;rintro _ _ ⟨rfl,rfl⟩
    try simp only [an,aq,au]
    refine af.sT 22 rfl (by exact b6) ?_;refine af.q 2 rfl<|.quiet (.g rfl rfl) rfl (fun _=>.fieldAddr fQ rfl)<|.quiet (.g rfl rfl) rfl (fun _=>.loadAt e5 rfl (ij.drop 3) rfl) ?_;refine .quiet (.g rfl rfl) rfl (fun _=>.bI isAgg415 aa rfl dX) ?_;refine af.aC (.g rfl rfl) aa rfl aa rfl rfl (tY h') ?_;rintro _ _ ⟨rfl,rfl⟩
    try simp only [an,aq,au]
    refine af.aC (.g rfl rfl) aa rfl aa rfl rfl (E_ (iu y) rfl aR) ?_;rintro _ _ ⟨rfl,rfl⟩
    try simp only [an,aq,au]
    refine af.q 2 rfl<|aK.nil ?_;exact S.rt results297 rfl hR ⟨by simp [over,e1,e2,b6],rfl⟩
 ·
  refine S.bB (L:=[0,1,2,3,4,5,6,7,8,9,10,11,12,13,14,15,16,17,18,19,20]) bx aa ?_;refine .quiet (.p rfl) rfl (fun _=>.fieldAddr fw rfl)<|.quiet (.p rfl) rfl (fun _=>.loadAt bV rfl ij rfl) ?_;refine .quiet (.p rfl) rfl (fun _=>.fieldAddr fw rfl)<|.quiet (.p rfl) rfl (fun _=>.loadAt bV rfl eY rfl) ?_;refine .quiet (.p rfl) rfl (fun _=>.lE rfl rfl)<|af.aL 15 rfl (by simp [e1]) ?_;refine af.q 16 rfl<|aK.nil ?_;exact S.rt results297 rfl hR ⟨by simp [over,e1],rfl⟩
def EU:List PanicEntry:=[{ v:=.iface 44 (.int .i64 4),recovered:=false }]
theorem pW {r:Fr} (b:Bool):ay prog 226 #[.bool b] r [] (ey (fun v U=>b=true∧v=.tuple #[]∧U=[]) (fun ch U=>b=false∧ch=EU∧U=[])):=by
 refine ay.of (n:=5) _ rfl func226 rfl rfl rfl fun g hg R hR=>?_;refine S.seq<|S.region rfl<|O.q 1 rfl<|O.op (.p rfl) ((by first|exact .k7 rfl|exact .not rfl)) ?_;refine O.nil ?_
 first|refine S.ct rfl (fun h3=>?_) (fun h3=>?_)|refine S.cm rfl (fun h3=>?_) (fun h3=>?_)
 ·refine S.region rfl<|O.op (.p rfl) (.I3 underlying44 rfl)<|O.panic rfl rfl (fun w hw=>?_)
  exact hR _ [] w ⟨by simpa using h3,rfl,rfl⟩ hw
 ·refine S.skip<|S.ej results226 fun w hw=>hR _ _ w ?_ hw
  exact ⟨by simpa using h3,rfl,rfl⟩
theorem tO {r:Fr} {cs ds:List Value} {x y:aQ} (h:bK.rel r cs x) (h' :bK.rel r ds y):ay prog 227 #[.agg cs.toArray,.agg ds.toArray] r [] (aM fun v U=>v=.int .i64 (dN x y)∧U=[]):=by
 obtain ⟨fE,p5,px,AN,fF,p6,pz,AO,rfl,_,_⟩:=bK.sh h;obtain ⟨vv,vw,vz,AP,vA,vB,vC,AQ,rfl,_,_⟩:=bK.sh h';refine ay.of (n:=21) _ rfl func227 rfl rfl rfl fun g hg R hR=>?_;have hc1:=BK x.2.1 y.2.1;have sZ:=BK x.2.2.1 y.2.2.1;refine S.seq<|S.region rfl<|O.aO (.p rfl) (.box (cs:=[_,_,_,_,_,_,_,_]) rfl rfl) ?_;rintro _ _ ⟨b2,rfl,rfl⟩;refine O.aO (.p rfl) (.box (cs:=[_,_,_,_,_,_,_,_]) rfl rfl) ?_;rintro _ _ ⟨b3,rfl,rfl⟩;refine O.q 1 rfl<|O.nil<|S.seq<|S.cV ai fun g hs hm eY=>?_;replace hg:=Fr.aI hg hs;replace hR:=bt hR hm;clear hs hm;refine S.cV ai fun g hs hm ij=>?_;replace hg:=Fr.aI hg hs;replace hR:=bt hR hm
 try replace eY:=eY.mono hs
 clear hs hm;refine S.bB (L:=[0,1,2,3,4,5,7,8,9,10,11,12,6,13,14,15,16]) bx aa ?_;refine .quiet (.p rfl) rfl (fun _=>.fieldAddr ry rfl)<|.quiet (.p rfl) rfl (fun _=>.fieldAddr yT rfl)<|.quiet (.p rfl) rfl (fun _=>.loadAt cv rfl (ij.drop 1) rfl) ?_;refine .quiet (.p rfl) rfl (fun _=>.fieldAddr ry rfl)<|.quiet (.p rfl) rfl (fun _=>.fieldAddr yT rfl)<|.quiet (.p rfl) rfl (fun _=>.loadAt cv rfl (eY.drop 1) rfl) ?_;refine .quiet (.p rfl) rfl (fun _=>.fieldAddr ry rfl)<|.quiet (.p rfl) rfl (fun _=>.fieldAddr yU rfl)<|.quiet (.p rfl) rfl (fun _=>.loadAt cv rfl (ij.drop 2) rfl) ?_;refine .quiet (.p rfl) rfl (fun _=>.fieldAddr ry rfl)<|.quiet (.p rfl) rfl (fun _=>.fieldAddr yU rfl)<|.quiet (.p rfl) rfl (fun _=>.loadAt cv rfl (eY.drop 2) rfl) ?_;refine af.aC (.p rfl) aa rfl aa rfl rfl (BP _ _) ?_;rintro _ _ ⟨rfl,rfl⟩
 try simp only [an,aq,au]
 refine af.aC (.p rfl) aa rfl aa rfl rfl (BP _ _) ?_;rintro _ _ ⟨rfl,rfl⟩
 try simp only [an,aq,au]
 refine af.cn (T:=ag.i64) (ys:=[_,_]) (.p rfl) aa underlying104 wi zE rfl rfl ⟨⟨rfl,by first|assumption|(constructor<;>omega)⟩,⟨rfl,by first|assumption|(constructor<;>omega)⟩,trivial⟩ zE (fun yh yu=>?_);refine af.bD (.p rfl) aa rfl aa rfl rfl ai Gp ?_;rintro _ _ ⟨rfl,rfl⟩
 try simp only [an,aq,au]
 refine af.q 1 rfl<|aK.nil<|S.ret results227 rfl fun w hw=>Holds.end_ hR hw ?_;refine ⟨_,⟨congrArg _ ?_,rfl⟩,by repeat (first|exact aW|exact aY|(apply aX;focus (repeat (first|exact aU|apply zt)))|apply aZ)⟩;unfold dN ng ng ng
 split
 ·rfl
 ·split
  ·rfl
  ·rename_i h2;exact (Classical.not_not.1 h2).symm
theorem J9 {r:Fr} {tR:TypeId} {b:Nat} {va:Value} {xs ys:List aQ} (ha:aj dc r va ys) (h1:gV xs=true) (hl:xs.length+ys.length≤100000000000) :
  ay prog 225 #[.pointer (some ⟨b,0,none⟩),va] r [e_ r tR 220 5 b xs]
   (ey (fun v U=>gV (xs++ys)=true∧v=.tuple #[]∧U=[e_ r tR 220 5 b (xs++ys)]) (fun ch U=>gV (xs++ys)=false∧ch=EU∧U=[])):=by
 have rK:=ha;refine ay.of (n:=56) _ rfl func225 rfl rfl rfl fun g hg R hR=>?_;have ha:=ha.mono hg;obtain ⟨a1,c1,rfl⟩:=ha.shape;refine S.seq<|S.region rfl<|O.q 1 rfl<|O.op (.p rfl) (.len rfl underlying22 rfl)<|O.q 1 rfl<|O.nil<|S.block<|S.conv (B:=e_ r tR 220 5 b xs) (C:=e_ r tR 220 5 b (xs++ys.take 0)) ai (fun m x=>⟨m,Fr.bW _,by rw [List.take_zero,List.append_nil];exact x⟩) ?_;refine S.fT (ι:=Nat) (fun i=>i≤ys.length∧gV (xs++ys.take i)=true) (fun i=>[(10,.int .i64 (i:Int))]) [(0,_),(8,_),(9,_)] (fun i=>[e_ r tR 220 5 b (xs++ys.take i)]) (fun i=>ys.length - i) (0) (by exact ⟨by simp,by simpa using h1⟩) (.cons rfl (.nil)) (.cons rfl (.cons rfl (.cons rfl (.nil)))) rfl fun i hx ih=>?_;have bl:=cW (g:=g);obtain ⟨hx1,hx2⟩:=hx;refine S.seq<|S.region rfl<|O.op (.p rfl) (.lss rfl rfl)<|O.nil (S.seq ?_)
 first|refine S.ct rfl (fun h11=>?_) (fun h11=>?_)|refine S.cm rfl (fun h11=>?_) (fun h11=>?_)
 ·have hi:i<ys.length:=by omega
  have htk:xs++ys.take (i+1)=(xs++ys.take i)++[ys[i]]:=by rw [List.take_succ_eq_append_getElem hi,List.append_assoc]
  have eO:=Se (x:=ys[i]) hx2;rw [← htk] at eO;have HA:gV (xs++ys.take (i+1))=false→gV (xs++ys)=false:=fun q=>by
   rw [Bool.eq_false_iff];intro q2;have:=Ei (xs.length+(i+1)) q2;rw [List.take_append,List.take_of_length_le (Nat.le_add_right _ _),Nat.add_sub_cancel_left,q] at this
   cases this
  have hlen:(xs++ys.take i).length=xs.length+i:=by simp;omega
  generalize hzs:xs++ys.take i=zs at hx2 eO htk hlen ⊢;refine S.skip<|S.seq<|S.block<|S.seq<|S.region rfl<|O.ib (.p rfl) underlying22 x4 rfl rfl rfl rK hg (h:=fun Js Wj fI DD=>?_);have gE:=ag.rel.mono DD hg;obtain ⟨lV,lW,lX,lY,lZ,l5,rfl,Xn,Xw,Xy,gO,gP,gQ⟩:=dc.sh gE;refine O.op (.p rfl) (.bI isAgg102 aa rfl fI) ?_;refine O.aO (.p rfl) (.alloc (cs:=[.string ⟨#[]⟩,.int .i64 0,.int .i64 0,.slice none 0 0,.bool false,.slice none 0 0,.slice none 0 0]) zeroValue102 rfl) ?_;rintro _ _ ⟨gK,rfl,rfl⟩;refine O.bw rfl (.cZ aa rfl rfl rfl rfl ai aT) ?_;refine O.nil<|S.seq<|S.region rfl<|O.op (.p rfl) (.gU (news:=[_,_,_,_,_,_,_]) isAgg102) ?_;refine O.aC (.p rfl) rfl aa rfl rfl (JH (by first|assumption|exact ag.rel.mono aB hg)) ?_;rintro _ _ ⟨eb,ec,rfl,rfl⟩
  try simp only [an,aq,au]
  refine O.q 5 rfl<|O.nil<|S.seq<|S.c7 (b:=gK) (cs' :=[.string (str ys[i].1),.int .i64 ys[i].2.1,.int .i64 ys[i].2.2.1,.slice lV ys[i].2.2.2.1.length lY,.bool ys[i].2.2.2.2.1,.slice lW ys[i].2.2.2.2.2.1.length lZ,.slice lX ys[i].2.2.2.2.2.2.1.length l5]) ai rfl ?_
  cases e:ea ys[i] with
  |false =>
   have hno:gV (xs++ys)=false:=HA (by rw [Bool.eq_false_iff];intro q;have:=(eO.1 q).1;rw [e] at this;cases this);refine S.bB (L:=[0,1,2,3,4,5,6,7,8,9,10,11,12,13,14,15,16,17,18,19,20,21,22,23]) bx aa ?_;refine af.q 1 rfl<|.quiet (.p rfl) rfl (fun _=>.eql rfl rfl)<|af.aL 20 rfl (by simp [og,e]) ?_;refine af.q 21 rfl<|af.kH (.p rfl) aa rfl aa rfl rfl (pW _) (fun ch ax w hX hW=>by (obtain ⟨hb,rfl,rfl⟩:=hX;exact hR _ _ w ⟨hno,rfl,rfl⟩ hW.qi)) ?_;rintro _ _ ⟨nt,rfl,rfl⟩
   try simp only [an,aq,au]
   exact absurd nt bq
  |true =>
   have MT:l7 ys[i]=b7 ys[i]:=by simp [l7,e]
   rw [MT]
   by_cases h0:zs.length=0
   ·have n4:=eO.2 ⟨e,fun h=>absurd h ah⟩
    refine S.cV ai fun g hs hm dX=>?_;replace hg:=Fr.aI hg hs;replace hR:=bt hR hm
    try replace ha:=ha.mono hs
    try replace fI:=fI.mono hs
    try replace gE:=gE.mono hs
    try replace gO:=gO.mono hs
    try replace gP:=gP.mono hs
    try replace gQ:=gQ.mono hs
    replace bl:=eD bl hm;clear hs hm;have gw:=hg;have gu:=hR
    try have uQ:=ha
    try have zu:=fI
    try have zw:=gE
    try have y_:=gO
    try have za:=gP
    try have zb:=gQ
    try have zf:=dX
    refine S.iH (B:=e_ r tR 220 5 b zs) ai fun oJ dL ⟨qJ,jC,jD⟩ gm=>?_;replace hg:=Fr.aI hg dL;replace hR:=iB hR gm
    try replace ha:=ha.mono dL
    try replace fI:=fI.mono dL
    try replace gE:=gE.mono dL
    try replace gO:=gO.mono dL
    try replace gP:=gP.mono dL
    try replace gQ:=gQ.mono dL
    try replace dX:=dX.mono dL
    obtain ⟨pT,r0,iO,oQ⟩:=e_.read hg jD jC;refine S.bB (L:=[0,1,2,3,4,5,6,7,8,9,10,11,12,13,14,15,16,17,18,19,20,21,22,23]) bx aa ?_;refine af.q 1 rfl<|.quiet (.p rfl) rfl (fun _=>.eql rfl rfl)<|af.sT 20 rfl (by simp [og,e]) ?_;refine af.q 2 rfl<|.quiet (.g rfl rfl) rfl (fun _=>.nilCheck rfl)<|.quiet (.g rfl rfl) rfl (fun _=>.fieldAddr iX rfl)<|.quiet (.g rfl rfl) rfl (fun _=>.loadAt iW rfl iO rfl) ?_;refine .quiet (.g rfl rfl) rfl (fun _=>.len rfl underlying216 rfl)<|.quiet (.g rfl rfl) rfl (fun _=>.eql rfl rfl)<|af.sT 27 rfl (by exact decide_eq_true ah) ?_;refine af.q 14 rfl<|af.kH (.p rfl) aa rfl aa rfl rfl (pW _) (fun ch ax w hX hW=>by (exact absurd hX.1 bq)) ?_;rintro _ _ ⟨nt,rfl,rfl⟩
    try simp only [an,aq,au]
    refine aK.nil<|S.back gm ?_;replace hg:=gw;replace hR:=gu
    try replace ha:=uQ
    try replace fI:=zu
    try replace gE:=zw
    try replace gO:=y_
    try replace gP:=za
    try replace gQ:=zb
    try replace dX:=zf
    clear gw gu;refine S.open (A:=e_ r tR 220 5 b zs) ai (fun m x=>x) fun p=>?_;simp only [List.cons_append,List.nil_append];refine S.lF (B:=b5 (lq r 5) p.2 zs) ai (fun _ z=>b5.len z) fun dY=>?_;have mz:p.2.length≤100000000000:=by omega
    have fS:=hg;have fR:=hR
    try have nr:=ha
    try have Dc:=fI
    try have Dt:=gE
    try have CL:=gO
    try have CM:=gP
    try have CN:=gQ
    try have CT:=dX
    refine S.iH (B:=obj b tR [.slice p.1.1 zs.length p.1.2]) ai fun go cR ⟨qI,hmo,jZ⟩ fC=>?_;replace hg:=Fr.aI hg cR;replace hR:=iB hR fC
    try replace ha:=ha.mono cR
    try replace fI:=fI.mono cR
    try replace gE:=gE.mono cR
    try replace gO:=gO.mono cR
    try replace gP:=gP.mono cR
    try replace gQ:=gQ.mono cR
    try replace dX:=dX.mono cR
    have qt:=(fK hmo).mono jZ;refine S.bB (L:=[0,1,2,3,4,5,6,7,8,9,10,11,12]) bx aa ?_;refine af.q 2 rfl<|.quiet (.p rfl) rfl (fun _=>.nilCheck rfl)<|.quiet (.p rfl) rfl (fun _=>.fieldAddr iX rfl)<|.quiet (.p rfl) rfl (fun _=>.loadAt iW rfl qt rfl) ?_;refine .quiet (.p rfl) rfl (fun _=>.bI isAgg102 aa rfl dX) ?_;refine af.q 1 rfl<|.quiet (.p rfl) rfl (fun _=>.build (cs:=[_,_,_,_,_,_,_,_]) underlying220 rfl rfl rfl rfl rfl)<|af.cn (T:=(ag.cells 8)) (ys:=[_]) (.p rfl) aa underlying216 sI zE rfl rfl ⟨⟨rfl,rfl,by first|(simp;done)|(intro v hv;simp [Value.cells] at hv;rcases hv with rfl|rfl<;>rfl)|(refine List.forall_mem_cons.2 ⟨rfl,?_⟩;repeat (first|exact (fun _ h=>absurd h List.not_mem_nil)|refine List.forall_mem_cons.2 ⟨rfl,?_⟩))⟩,trivial⟩ zE (fun a51 yy=>?_);refine af.gJ (.p rfl) aa (T:=(ag.cells 8)) underlying216 sI zE rfl rfl ai ai bL bL (fun kg ki=>?_);refine .quiet (.p rfl) rfl (fun _=>.nilCheck rfl)<|.quiet (.p rfl) rfl (fun _=>.fieldAddr iX rfl)<|af.xu rfl aa (fun _ hw=>fC hw) iW rfl rfl bn ai yb ?_;replace hg:=fS;replace hR:=fR
    try replace ha:=nr
    try replace fI:=Dc
    try replace gE:=Dt
    try replace gO:=CL
    try replace gP:=CM
    try replace gQ:=CN
    try replace dX:=CT
    clear fS fR;refine S.inBlock<|S.region rfl<|O.op (.p rfl) (.add rfl rfl (IntWalk.i64_in _ ah))<|O.q 1 rfl<|O.nil<|S.jm (T:=ag.cells 8) (e:=220) (v' :=.slice kg (zs++[ys[i]]).length ki) (xs' :=p.2++[[.string (str ys[i].1),.int .i64 ys[i].2.1,.int .i64 ys[i].2.2.1,.slice lV ys[i].2.2.2.1.length lY,.bool ys[i].2.2.2.2.1,.slice lW ys[i].2.2.2.2.2.1.length lZ,.slice lX ys[i].2.2.2.2.2.2.1.length l5,.slice eb (b7 ys[i]).length ec]]) ai (by simp [dY]) sv ?_;refine S.c7 (b:=b) (cs' :=[.slice kg (zs++[ys[i]]).length ki]) ai (by simp [dY]) ?_;refine S.conv (B:=av ag.u8 5 (.slice eb (b7 ys[i]).length ec) (b7 ys[i])) (C:=lq r 5 [.string (str ys[i].1),.int .i64 ys[i].2.1,.int .i64 ys[i].2.2.1,.slice lV ys[i].2.2.2.1.length lY,.bool ys[i].2.2.2.2.1,.slice lW ys[i].2.2.2.2.2.1.length lZ,.slice lX ys[i].2.2.2.2.2.2.1.length l5,.slice eb (b7 ys[i]).length ec] ys[i]) ai (fun m x=>⟨m,Fr.bW _,[.string (str ys[i].1),.int .i64 ys[i].2.1,.int .i64 ys[i].2.2.1,.slice lV ys[i].2.2.2.1.length lY,.bool ys[i].2.2.2.2.1,.slice lW ys[i].2.2.2.2.2.1.length lZ,.slice lX ys[i].2.2.2.2.2.2.1.length l5],eb,ec,rfl,DD,x⟩) ?_
    refine S.each (A:=lq r 5) (bs:=p.2) (b:=[.string (str ys[i].1),.int .i64 ys[i].2.1,.int .i64 ys[i].2.2.1,.slice lV ys[i].2.2.2.1.length lY,.bool ys[i].2.2.2.2.1,.slice lW ys[i].2.2.2.2.2.1.length lZ,.slice lX ys[i].2.2.2.2.2.2.1.length l5,.slice eb (b7 ys[i]).length ec]) (a:=ys[i]) ai ai ?_;refine S.cg (A:=e_ r tR 220 5 b (zs++[ys[i]])) (bs:=[obj b tR [.slice kg (zs++[ys[i]]).length ki],av (ag.cells 8) 220 (.slice kg (zs++[ys[i]]).length ki) (p.2++[[.string (str ys[i].1),.int .i64 ys[i].2.1,.int .i64 ys[i].2.2.1,.slice lV ys[i].2.2.2.1.length lY,.bool ys[i].2.2.2.2.1,.slice lW ys[i].2.2.2.2.2.1.length lZ,.slice lX ys[i].2.2.2.2.2.2.1.length l5,.slice eb (b7 ys[i]).length ec]]),b5 (lq r 5) (p.2++[[.string (str ys[i].1),.int .i64 ys[i].2.1,.int .i64 ys[i].2.2.1,.slice lV ys[i].2.2.2.1.length lY,.bool ys[i].2.2.2.2.1,.slice lW ys[i].2.2.2.2.2.1.length lZ,.slice lX ys[i].2.2.2.2.2.2.1.length l5,.slice eb (b7 ys[i]).length ec]]) (zs++[ys[i]])]) aV (fun m x=>⟨((kg,ki),p.2++[[.string (str ys[i].1),.int .i64 ys[i].2.1,.int .i64 ys[i].2.2.1,.slice lV ys[i].2.2.2.1.length lY,.bool ys[i].2.2.2.2.1,.slice lW ys[i].2.2.2.2.2.1.length lZ,.slice lX ys[i].2.2.2.2.2.2.1.length l5,.slice eb (b7 ys[i]).length ec]]),x⟩) ?_;rw [← htk];exact S.iR bl (S.pw (ih (i+1) (by exact ⟨by omega,n4⟩) ah))
   ·by_cases hk:ys[i].1=(zs[0]'ah).1
    ·have n4:=eO.2 ⟨e,fun h=>hk⟩
     refine S.cV ai fun g hs hm dX=>?_;replace hg:=Fr.aI hg hs;replace hR:=bt hR hm
     try replace ha:=ha.mono hs
     try replace fI:=fI.mono hs
     try replace gE:=gE.mono hs
     try replace gO:=gO.mono hs
     try replace gP:=gP.mono hs
     try replace gQ:=gQ.mono hs
     replace bl:=eD bl hm;clear hs hm;have gw:=hg;have gu:=hR
     try have uQ:=ha
     try have zu:=fI
     try have zw:=gE
     try have y_:=gO
     try have za:=gP
     try have zb:=gQ
     try have zf:=dX
     refine S.iH (B:=e_ r tR 220 5 b zs) ai fun oJ dL ⟨qJ,jC,jD⟩ gm=>?_;replace hg:=Fr.aI hg dL;replace hR:=iB hR gm
     try replace ha:=ha.mono dL
     try replace fI:=fI.mono dL
     try replace gE:=gE.mono dL
     try replace gO:=gO.mono dL
     try replace gP:=gP.mono dL
     try replace gQ:=gQ.mono dL
     try replace dX:=dX.mono dL
     obtain ⟨pT,r0,iO,oQ⟩:=e_.read hg jD jC;refine S.bB (L:=[0,1,2,3,4,5,6,7,8,9,10,11,12,13,14,15,16,17,18,19,20,21,22,23]) bx aa ?_;refine af.q 1 rfl<|.quiet (.p rfl) rfl (fun _=>.eql rfl rfl)<|af.sT 20 rfl (by simp [og,e]) ?_;refine af.q 2 rfl<|.quiet (.g rfl rfl) rfl (fun _=>.nilCheck rfl)<|.quiet (.g rfl rfl) rfl (fun _=>.fieldAddr iX rfl)<|.quiet (.g rfl rfl) rfl (fun _=>.loadAt iW rfl iO rfl) ?_;refine .quiet (.g rfl rfl) rfl (fun _=>.len rfl underlying216 rfl)<|.quiet (.g rfl rfl) rfl (fun _=>.eql rfl rfl)<|af.aL 27 rfl (by exact decide_eq_false ah) ?_;refine af.q 2 rfl<|.quiet (.g rfl rfl) rfl (fun _=>.nilCheck rfl)<|.quiet (.g rfl rfl) rfl (fun _=>.fieldAddr iX rfl)<|.quiet (.g rfl rfl) rfl (fun _=>.loadAt iW rfl iO rfl) ?_;refine af.b_ (.g rfl rfl) underlying216 gz rfl rfl (show _=(((0):Nat):Int) by omega) (by first|assumption|exact aj.mono hg aB|exact aj.left aB|exact aj.left (aj.mono hg aB)) (h:=fun En BT tc tg=>?_);obtain ⟨PM,PS,PW,P0,P7,Qa,Qe,Qi,rfl,O5,NP⟩:=bK.sh tg;refine .quiet (.g rfl rfl) rfl (fun _=>.fieldAddr ry rfl)<|.quiet (.g rfl rfl) rfl (fun _=>.fieldAddr fw rfl)<|.quiet (.g rfl rfl) rfl (fun _=>.loadAt bV rfl tc rfl) ?_
     refine .quiet (.g rfl rfl) rfl (fun _=>.fieldAddr fw rfl)<|.quiet (.g rfl rfl) rfl (fun _=>.loadAt bV rfl dX rfl) ?_;refine .quiet (.g rfl rfl) rfl (fun _=>.lE rfl rfl)<|af.sT 39 rfl (by simp [hk]) ?_;refine af.q 2 rfl<|af.kH (.p rfl) aa rfl aa rfl rfl (pW _) (fun ch ax w hX hW=>by (exact absurd hX.1 bq)) ?_;rintro _ _ ⟨nt,rfl,rfl⟩
     try simp only [an,aq,au]
     refine aK.nil<|S.back gm ?_;replace hg:=gw;replace hR:=gu
     try replace ha:=uQ
     try replace fI:=zu
     try replace gE:=zw
     try replace gO:=y_
     try replace gP:=za
     try replace gQ:=zb
     try replace dX:=zf
     clear gw gu;refine S.open (A:=e_ r tR 220 5 b zs) ai (fun m x=>x) fun p=>?_;simp only [List.cons_append,List.nil_append];refine S.lF (B:=b5 (lq r 5) p.2 zs) ai (fun _ z=>b5.len z) fun dY=>?_;have mz:p.2.length≤100000000000:=by omega
     have fS:=hg;have fR:=hR
     try have nr:=ha
     try have Dc:=fI
     try have Dt:=gE
     try have CL:=gO
     try have CM:=gP
     try have CN:=gQ
     try have CT:=dX
     refine S.iH (B:=obj b tR [.slice p.1.1 zs.length p.1.2]) ai fun go cR ⟨qI,hmo,jZ⟩ fC=>?_;replace hg:=Fr.aI hg cR;replace hR:=iB hR fC
     try replace ha:=ha.mono cR
     try replace fI:=fI.mono cR
     try replace gE:=gE.mono cR
     try replace gO:=gO.mono cR
     try replace gP:=gP.mono cR
     try replace gQ:=gQ.mono cR
     try replace dX:=dX.mono cR
     have qt:=(fK hmo).mono jZ;refine S.bB (L:=[0,1,2,3,4,5,6,7,8,9,10,11,12]) bx aa ?_;refine af.q 2 rfl<|.quiet (.p rfl) rfl (fun _=>.nilCheck rfl)<|.quiet (.p rfl) rfl (fun _=>.fieldAddr iX rfl)<|.quiet (.p rfl) rfl (fun _=>.loadAt iW rfl qt rfl) ?_;refine .quiet (.p rfl) rfl (fun _=>.bI isAgg102 aa rfl dX) ?_;refine af.q 1 rfl<|.quiet (.p rfl) rfl (fun _=>.build (cs:=[_,_,_,_,_,_,_,_]) underlying220 rfl rfl rfl rfl rfl)<|af.cn (T:=(ag.cells 8)) (ys:=[_]) (.p rfl) aa underlying216 sI zE rfl rfl ⟨⟨rfl,rfl,by first|(simp;done)|(intro v hv;simp [Value.cells] at hv;rcases hv with rfl|rfl<;>rfl)|(refine List.forall_mem_cons.2 ⟨rfl,?_⟩;repeat (first|exact (fun _ h=>absurd h List.not_mem_nil)|refine List.forall_mem_cons.2 ⟨rfl,?_⟩))⟩,trivial⟩ zE (fun a51 yy=>?_);refine af.gJ (.p rfl) aa (T:=(ag.cells 8)) underlying216 sI zE rfl rfl ai ai bL bL (fun kg ki=>?_);refine .quiet (.p rfl) rfl (fun _=>.nilCheck rfl)<|.quiet (.p rfl) rfl (fun _=>.fieldAddr iX rfl)<|af.xu rfl aa (fun _ hw=>fC hw) iW rfl rfl bn ai yb ?_;replace hg:=fS;replace hR:=fR
     try replace ha:=nr
     try replace fI:=Dc
     try replace gE:=Dt
     try replace gO:=CL
     try replace gP:=CM
     try replace gQ:=CN
     try replace dX:=CT
     clear fS fR;refine S.inBlock<|S.region rfl<|O.op (.p rfl) (.add rfl rfl (IntWalk.i64_in _ ah))<|O.q 1 rfl<|O.nil<|S.jm (T:=ag.cells 8) (e:=220) (v' :=.slice kg (zs++[ys[i]]).length ki) (xs' :=p.2++[[.string (str ys[i].1),.int .i64 ys[i].2.1,.int .i64 ys[i].2.2.1,.slice lV ys[i].2.2.2.1.length lY,.bool ys[i].2.2.2.2.1,.slice lW ys[i].2.2.2.2.2.1.length lZ,.slice lX ys[i].2.2.2.2.2.2.1.length l5,.slice eb (b7 ys[i]).length ec]]) ai (by simp [dY]) sv ?_;refine S.c7 (b:=b) (cs' :=[.slice kg (zs++[ys[i]]).length ki]) ai (by simp [dY]) ?_;refine S.conv (B:=av ag.u8 5 (.slice eb (b7 ys[i]).length ec) (b7 ys[i])) (C:=lq r 5 [.string (str ys[i].1),.int .i64 ys[i].2.1,.int .i64 ys[i].2.2.1,.slice lV ys[i].2.2.2.1.length lY,.bool ys[i].2.2.2.2.1,.slice lW ys[i].2.2.2.2.2.1.length lZ,.slice lX ys[i].2.2.2.2.2.2.1.length l5,.slice eb (b7 ys[i]).length ec] ys[i]) ai (fun m x=>⟨m,Fr.bW _,[.string (str ys[i].1),.int .i64 ys[i].2.1,.int .i64 ys[i].2.2.1,.slice lV ys[i].2.2.2.1.length lY,.bool ys[i].2.2.2.2.1,.slice lW ys[i].2.2.2.2.2.1.length lZ,.slice lX ys[i].2.2.2.2.2.2.1.length l5],eb,ec,rfl,DD,x⟩) ?_
     refine S.each (A:=lq r 5) (bs:=p.2) (b:=[.string (str ys[i].1),.int .i64 ys[i].2.1,.int .i64 ys[i].2.2.1,.slice lV ys[i].2.2.2.1.length lY,.bool ys[i].2.2.2.2.1,.slice lW ys[i].2.2.2.2.2.1.length lZ,.slice lX ys[i].2.2.2.2.2.2.1.length l5,.slice eb (b7 ys[i]).length ec]) (a:=ys[i]) ai ai ?_;refine S.cg (A:=e_ r tR 220 5 b (zs++[ys[i]])) (bs:=[obj b tR [.slice kg (zs++[ys[i]]).length ki],av (ag.cells 8) 220 (.slice kg (zs++[ys[i]]).length ki) (p.2++[[.string (str ys[i].1),.int .i64 ys[i].2.1,.int .i64 ys[i].2.2.1,.slice lV ys[i].2.2.2.1.length lY,.bool ys[i].2.2.2.2.1,.slice lW ys[i].2.2.2.2.2.1.length lZ,.slice lX ys[i].2.2.2.2.2.2.1.length l5,.slice eb (b7 ys[i]).length ec]]),b5 (lq r 5) (p.2++[[.string (str ys[i].1),.int .i64 ys[i].2.1,.int .i64 ys[i].2.2.1,.slice lV ys[i].2.2.2.1.length lY,.bool ys[i].2.2.2.2.1,.slice lW ys[i].2.2.2.2.2.1.length lZ,.slice lX ys[i].2.2.2.2.2.2.1.length l5,.slice eb (b7 ys[i]).length ec]]) (zs++[ys[i]])]) aV (fun m x=>⟨((kg,ki),p.2++[[.string (str ys[i].1),.int .i64 ys[i].2.1,.int .i64 ys[i].2.2.1,.slice lV ys[i].2.2.2.1.length lY,.bool ys[i].2.2.2.2.1,.slice lW ys[i].2.2.2.2.2.1.length lZ,.slice lX ys[i].2.2.2.2.2.2.1.length l5,.slice eb (b7 ys[i]).length ec]]),x⟩) ?_;rw [← htk];exact S.iR bl (S.pw (ih (i+1) (by exact ⟨by omega,n4⟩) ah))
    ·have hno:gV (xs++ys)=false:=HA (by rw [Bool.eq_false_iff];intro q;exact hk ((eO.1 q).2 ah))
     refine S.cV ai fun g hs hm dX=>?_;replace hg:=Fr.aI hg hs;replace hR:=bt hR hm
     try replace ha:=ha.mono hs
     try replace fI:=fI.mono hs
     try replace gE:=gE.mono hs
     try replace gO:=gO.mono hs
     try replace gP:=gP.mono hs
     try replace gQ:=gQ.mono hs
     replace bl:=eD bl hm;clear hs hm;have gw:=hg;have gu:=hR
     try have uQ:=ha
     try have zu:=fI
     try have zw:=gE
     try have y_:=gO
     try have za:=gP
     try have zb:=gQ
     try have zf:=dX
     refine S.iH (B:=e_ r tR 220 5 b zs) ai fun oJ dL ⟨qJ,jC,jD⟩ gm=>?_;replace hg:=Fr.aI hg dL;replace hR:=iB hR gm
     try replace ha:=ha.mono dL
     try replace fI:=fI.mono dL
     try replace gE:=gE.mono dL
     try replace gO:=gO.mono dL
     try replace gP:=gP.mono dL
     try replace gQ:=gQ.mono dL
     try replace dX:=dX.mono dL
     obtain ⟨pT,r0,iO,oQ⟩:=e_.read hg jD jC;refine S.bB (L:=[0,1,2,3,4,5,6,7,8,9,10,11,12,13,14,15,16,17,18,19,20,21,22,23]) bx aa ?_;refine af.q 1 rfl<|.quiet (.p rfl) rfl (fun _=>.eql rfl rfl)<|af.sT 20 rfl (by simp [og,e]) ?_;refine af.q 2 rfl<|.quiet (.g rfl rfl) rfl (fun _=>.nilCheck rfl)<|.quiet (.g rfl rfl) rfl (fun _=>.fieldAddr iX rfl)<|.quiet (.g rfl rfl) rfl (fun _=>.loadAt iW rfl iO rfl) ?_;refine .quiet (.g rfl rfl) rfl (fun _=>.len rfl underlying216 rfl)<|.quiet (.g rfl rfl) rfl (fun _=>.eql rfl rfl)<|af.aL 27 rfl (by exact decide_eq_false ah) ?_;refine af.q 2 rfl<|.quiet (.g rfl rfl) rfl (fun _=>.nilCheck rfl)<|.quiet (.g rfl rfl) rfl (fun _=>.fieldAddr iX rfl)<|.quiet (.g rfl rfl) rfl (fun _=>.loadAt iW rfl iO rfl) ?_;refine af.b_ (.g rfl rfl) underlying216 gz rfl rfl (show _=(((0):Nat):Int) by omega) (by first|assumption|exact aj.mono hg aB|exact aj.left aB|exact aj.left (aj.mono hg aB)) (h:=fun En BT tc tg=>?_);obtain ⟨PM,PS,PW,P0,P7,Qa,Qe,Qi,rfl,O5,NP⟩:=bK.sh tg;refine .quiet (.g rfl rfl) rfl (fun _=>.fieldAddr ry rfl)<|.quiet (.g rfl rfl) rfl (fun _=>.fieldAddr fw rfl)<|.quiet (.g rfl rfl) rfl (fun _=>.loadAt bV rfl tc rfl) ?_
     refine .quiet (.g rfl rfl) rfl (fun _=>.fieldAddr fw rfl)<|.quiet (.g rfl rfl) rfl (fun _=>.loadAt bV rfl dX rfl) ?_;refine .quiet (.g rfl rfl) rfl (fun _=>.lE rfl rfl)<|af.aL 39 rfl (by simp;exact fun q=>hk q.symm) ?_;refine af.q 2 rfl<|af.kH (.p rfl) aa rfl aa rfl rfl (pW _) (fun ch ax w hX hW=>by (obtain ⟨hb,rfl,rfl⟩:=hX;exact hR _ _ w ⟨hno,rfl,rfl⟩ hW.qi)) ?_;rintro _ _ ⟨nt,rfl,rfl⟩
     try simp only [an,aq,au]
     exact absurd nt bq
 ·clear ih
  have hi:i=ys.length:=by omega
  subst hi;rw [List.take_length] at hx2 ⊢;refine S.exit rfl<|S.ej results225 fun w hw=>Holds.end_ hR hw ?_;exact pk ⟨hx2,rfl,rfl⟩
end Go.Proofs.YtojafegjlahajaaGreatDoor
