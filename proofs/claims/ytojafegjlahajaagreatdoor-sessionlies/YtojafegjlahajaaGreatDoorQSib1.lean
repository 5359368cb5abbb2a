/- Texts of this proof. -/
import Derived.Test.YtojafegjlahajaaGreatDoorQRec2
open Go Go.Sp Go.Proofs.Tryz
set_option maxRecDepth 100000
set_option maxHeartbeats 1000000
attribute [local irreducible] obj Own av
namespace Go.Proofs.YtojafegjlahajaaGreatDoor
def mB (x:aP):List (List UInt8):=[[1],bytesOf x.1,be x.2.1,be x.2.2.1,be x.2.2.2.1.length]
def o4 (l:List dn):List (List UInt8):=(l.map fun d=>[be d.1,be d.2.1]).flatten
theorem ND (l:List dn) (d:dn):o4 (l++[d])=o4 l++[be d.1,be d.2.1]:=by simp [o4]
theorem NC (l:List dn):(o4 l).flatten=o5 l:=by
 induction l with
 |nil=>rfl
 |cons d l ih=>rw [Cq,← ih];simp [o4]
theorem Xk (x:aP):(mB x++o4 x.2.2.2.1++[[nC x.2.2.2.2.1],bytesOf x.2.2.2.2.2.1]).flatten=jv x:=by
 simp [mB,jv,NC]
theorem XE {r:Fr} {cs:List Value} {x:aP} (h:cq.rel r cs x) (hs:shaped x=true):ay prog 354 #[.agg cs.toArray] r [] (aL fun v U=>∃ a c,v=.slice a (jv x).length c∧U=[av ag.u8 5 (.slice a (jv x).length c) (jv x)]):=by
 have hb:=yz.1 hs;have hl:=Kv hs;have hdl:=yp hb.2.2.2.1;obtain ⟨v3,v5,v6,rfl,k0,k1,k2,bg,fO,eG⟩:=cq.open h;refine ay.of (n:=60) _ rfl func354 rfl rfl rfl fun g hg R hR=>?_;have h:=h.mono hg;have bg:=bg.mono hg;have fO:=fO.mono hg;have eG:=eG.mono hg;obtain ⟨a3,c3,rfl⟩:=bg.shape;obtain ⟨a5,dP,rfl⟩:=fO.shape;obtain ⟨a6,dF,rfl⟩:=eG.shape;refine S.seq<|S.region rfl<|O.aM (.p rfl) (.box (cs:=[_,_,_,_,_,_,_]) rfl rfl) ?_;rintro _ _ ⟨b1,rfl,rfl⟩;refine O.q 1 rfl<|O.nil<|S.seq<|S.region rfl<|O.aM (.p rfl) (.ct (T:=ag.u8) (ys:=[0]) underlying24 eR aC rfl rfl ⟨rfl,trivial⟩ aC) ?_;rintro _ _ ⟨a7,iB,rfl,rfl⟩;refine O.q 1 rfl<|O.nil<|S.seq<|S.seq<|S.zc (fun (q:Option Addr × Nat)=>True) (fun (q:Option Addr × Nat)=>[(3,.slice q.1 1 q.2)]) [(1,_)] (fun (q:Option Addr × Nat)=>[obj b1 415 [.string (str x.1),.int .i64 x.2.1,.int .i64 x.2.2.1,.slice a3 x.2.2.2.1.length c3,.bool x.2.2.2.2.1,.slice a5 x.2.2.2.2.2.1.length dP,.slice a6 x.2.2.2.2.2.2.1.length dF],av ag.u8 5 (.slice q.1 1 q.2) [nC x.2.2.2.2.1]]) (.cons rfl (.nil)) (fun key=>?_) (fun q hx=>?_)
 ·have aX:=cL (g:=g)
  refine S.region rfl<|O.op (.p rfl) (.aD fH rfl)<|O.op (.p rfl) (.aD vf rfl)<|O.op (.p rfl) (.lo ji) ?_;refine O.nil ?_
  first|refine S.cc rfl (fun h10=>?_) (fun h10=>?_)|refine S.b7 rfl (fun h10=>?_) (fun h10=>?_)
  ·refine S.region rfl<|O.q 1 rfl<|O.aM (.p rfl) (.ot (T:=ag.u8) underlying24 fR rfl rfl (show _=(((0):Nat):Int) by omega) ai oM) ?_
   rintro _ _ ⟨J',rfl,fN,rfl⟩;refine O.bu rfl (.rj fR rfl fN rfl ai oM (show _=_ by rfl:ag.rel _ _ _ ((1:UInt8)))) ?_;refine O.nil<|S.jr (T:=ag.u8) (xs' :=[nC x.2.2.2.2.1]) ai rfl (by rw [h10];rfl) ?_;refine S.pk ?_ (S.weaken ?_ (key ((a7,iB)) (by trivial)))
   ·repeat (first|exact aS|exact aU|(apply aT;focus (repeat (first|exact aR|apply zt)))|apply aV)
   repeat (first|exact Sub.nil|refine Sub.cons rfl ?_)
  ·refine S.skip<|S.jr (T:=ag.u8) (xs' :=[nC x.2.2.2.2.1]) ai rfl (by rw [h10];rfl) ?_
   refine S.pk ?_ (S.weaken ?_ (key ((a7,iB)) (by trivial)))
   ·repeat (first|exact aS|exact aU|(apply aT;focus (repeat (first|exact aR|apply zt)))|apply aV)
   repeat (first|exact Sub.nil|refine Sub.cons rfl ?_)
 ·refine S.seq<|S.cW ai fun g hs hm e5=>?_
  replace hg:=Fr.aH hg hs;replace hR:=bp hR hm
  try replace h:=h.mono hs
  try replace bg:=bg.mono hs
  try replace fO:=fO.mono hs
  try replace eG:=eG.mono hs
  clear hs hm;refine S.Ft (L:=[1,2,3,6,7,8,10,11,12,14,15,16,17,0,4,5,9,13,18,19,20]) (fun (s:(Option Addr × Nat) × List Value)=>[(4,.slice s.1.1 s.2.length s.1.2)]) [(1,_),(3,_)] (fun (s:(Option Addr × Nat) × List Value)=>[sS ag.u8 5 s.2 (mB x),av ag.val 24 (.slice s.1.1 s.2.length s.1.2) s.2,av ag.u8 5 (.slice q.1 1 q.2) [nC x.2.2.2.2.1]]) (.cons rfl (.cons rfl (.nil))) bA aa (fun kk key=>?_) (fun s=>?_)
  ·refine .quiet (.p rfl) rfl (fun _=>.fieldAddr fH rfl)<|.quiet (.p rfl) rfl (fun _=>.fieldAddr e3 rfl)<|.quiet (.p rfl) rfl (fun _=>.loadAt bL rfl e5 rfl) ?_
   refine .quiet (.p rfl) rfl (fun _=>.fieldAddr fH rfl)<|.quiet (.p rfl) rfl (fun _=>.fieldAddr vc rfl)<|.quiet (.p rfl) rfl (fun _=>.loadAt cv rfl (e5.drop 1) rfl) ?_;refine .quiet (.p rfl) rfl (fun _=>.fieldAddr fH rfl)<|.quiet (.p rfl) rfl (fun _=>.fieldAddr ve rfl)<|.quiet (.p rfl) rfl (fun _=>.loadAt cv rfl (e5.drop 2) rfl) ?_;refine .quiet (.p rfl) rfl (fun _=>.fieldAddr fH rfl)<|.quiet (.p rfl) rfl (fun _=>.fieldAddr fF rfl)<|.quiet (.p rfl) rfl (fun _=>.loadAt eS rfl (e5.drop 3) rfl) ?_;refine .quiet (.p rfl) rfl (fun _=>.len rfl underlying100 rfl)<|af.eY 0 4 [4,5,9,13,18,19,20] [0,5,9,13,18,19,20] aa rfl rfl ?_ ?_
   ·refine bO.ct (T:=ag.u8) (ys:=[1]) (.p rfl) aa underlying24 eR aC rfl rfl ⟨rfl,trivial⟩ aC (fun iO iR=>?_)
    refine af.pR (.p rfl) aa underlying9 underlying24 underlying5 rfl (by first|assumption|omega|(simp;done)|(simp;omega)) (fun a17 qx=>?_);refine af.dw (.p rfl) aa rfl aa rfl rfl (bs:=[av ag.u8 5 (.slice a17 x.1.length qx) x.1]) bf (fun m hm hd=>v_ (hm.arr.right hd) ah) ?_;rintro _ _ ⟨j6,j8,rfl,rfl⟩
    try simp only [an,aq,au]
    refine af.aB (.p rfl) aa rfl aa rfl rfl (kq _) ?_;rintro _ _ ⟨a22,ec,rfl,rfl⟩
    try simp only [an,aq,au]
    refine af.aB (.p rfl) aa rfl aa rfl rfl (kq _) ?_;rintro _ _ ⟨a26,iA,rfl,rfl⟩
    try simp only [an,aq,au]
    refine af.aB (.p rfl) aa rfl aa rfl rfl (kq _) ?_;rintro _ _ ⟨a31,iS,rfl,rfl⟩
    try simp only [an,aq,au]
    refine af.ct (T:=ag.val) (ys:=[_,_,_,_,_]) (.p rfl) aa underlying109 iC aC rfl rfl ⟨⟨rfl,rfl⟩,⟨rfl,rfl⟩,⟨rfl,rfl⟩,⟨rfl,rfl⟩,⟨rfl,rfl⟩,trivial⟩ aC (fun a32 oW=>?_);refine af.q 1 rfl<|aI.nil<|S.u_ (av ag.u8 5) (bs:=[.slice iO 1 iR,.slice j6 (bytesOf x.1).length j8,.slice a22 8 ec,.slice a26 8 iA,.slice a31 8 iS]) (ys:=mB x) bf rfl ?_;refine S.pk ?_ (S.weaken (Sub.app (.cons rfl (.nil)) (.cons rfl (.cons rfl (.nil)))) (key ((a32,oW),[.slice iO 1 iR,.slice j6 (bytesOf x.1).length j8,.slice a22 8 ec,.slice a26 8 iA,.slice a31 8 iS])))
    try dsimp only
    repeat (first|exact aS|exact aU|(apply aT;focus (repeat (first|exact aR|apply zt)))|apply aV)
   ·refine bO.pR (.p rfl) aa underlying9 underlying24 underlying5 rfl (by first|assumption|omega|(simp;done)|(simp;omega)) (fun a17 qx=>?_)
    refine af.eY 0 5 [5,9,13,18,19,20] [0,9,13,18,19,20] aa rfl rfl ?_ ?_
    ·refine bO.ct (T:=ag.u8) (ys:=[1]) (.p rfl) aa underlying24 eR aC rfl rfl ⟨rfl,trivial⟩ aC (fun iO iR=>?_)
     refine af.dw (.p rfl) aa rfl aa rfl rfl (bs:=[av ag.u8 5 (.slice a17 x.1.length qx) x.1]) bf (fun m hm hd=>v_ (hm.arr.right hd) ah) ?_;rintro _ _ ⟨j6,j8,rfl,rfl⟩
     try simp only [an,aq,au]
     refine af.aB (.p rfl) aa rfl aa rfl rfl (kq _) ?_;rintro _ _ ⟨a22,ec,rfl,rfl⟩
     try simp only [an,aq,au]
     refine af.aB (.p rfl) aa rfl aa rfl rfl (kq _) ?_;rintro _ _ ⟨a26,iA,rfl,rfl⟩
     try simp only [an,aq,au]
     refine af.aB (.p rfl) aa rfl aa rfl rfl (kq _) ?_;rintro _ _ ⟨a31,iS,rfl,rfl⟩
     try simp only [an,aq,au]
     refine af.ct (T:=ag.val) (ys:=[_,_,_,_,_]) (.p rfl) aa underlying109 iC aC rfl rfl ⟨⟨rfl,rfl⟩,⟨rfl,rfl⟩,⟨rfl,rfl⟩,⟨rfl,rfl⟩,⟨rfl,rfl⟩,trivial⟩ aC (fun a32 oW=>?_);refine af.q 1 rfl<|aI.nil<|S.u_ (av ag.u8 5) (bs:=[.slice iO 1 iR,.slice j6 (bytesOf x.1).length j8,.slice a22 8 ec,.slice a26 8 iA,.slice a31 8 iS]) (ys:=mB x) bf rfl ?_;refine S.pk ?_ (S.weaken (Sub.app (.cons rfl (.nil)) (.cons rfl (.cons rfl (.nil)))) (key ((a32,oW),[.slice iO 1 iR,.slice j6 (bytesOf x.1).length j8,.slice a22 8 ec,.slice a26 8 iA,.slice a31 8 iS])))
     try dsimp only
     repeat (first|exact aS|exact aU|(apply aT;focus (repeat (first|exact aR|apply zt)))|apply aV)
    ·refine bO.dw (.p rfl) aa rfl aa rfl rfl (bs:=[av ag.u8 5 (.slice a17 x.1.length qx) x.1]) bf (fun m hm hd=>v_ (hm.arr.right hd) ah) ?_
     rintro _ _ ⟨j6,j8,rfl,rfl⟩
     try simp only [an,aq,au]
     refine af.eY 0 9 [9,13,18,19,20] [0,13,18,19,20] aa rfl rfl ?_ ?_
     ·refine bO.ct (T:=ag.u8) (ys:=[1]) (.p rfl) aa underlying24 eR aC rfl rfl ⟨rfl,trivial⟩ aC (fun iO iR=>?_)
      refine af.aB (.p rfl) aa rfl aa rfl rfl (kq _) ?_;rintro _ _ ⟨a22,ec,rfl,rfl⟩
      try simp only [an,aq,au]
      refine af.aB (.p rfl) aa rfl aa rfl rfl (kq _) ?_;rintro _ _ ⟨a26,iA,rfl,rfl⟩
      try simp only [an,aq,au]
      refine af.aB (.p rfl) aa rfl aa rfl rfl (kq _) ?_;rintro _ _ ⟨a31,iS,rfl,rfl⟩
      try simp only [an,aq,au]
      refine af.ct (T:=ag.val) (ys:=[_,_,_,_,_]) (.p rfl) aa underlying109 iC aC rfl rfl ⟨⟨rfl,rfl⟩,⟨rfl,rfl⟩,⟨rfl,rfl⟩,⟨rfl,rfl⟩,⟨rfl,rfl⟩,trivial⟩ aC (fun a32 oW=>?_);refine af.q 1 rfl<|aI.nil<|S.u_ (av ag.u8 5) (bs:=[.slice iO 1 iR,.slice j6 (bytesOf x.1).length j8,.slice a22 8 ec,.slice a26 8 iA,.slice a31 8 iS]) (ys:=mB x) bf rfl ?_;refine S.pk ?_ (S.weaken (Sub.app (.cons rfl (.nil)) (.cons rfl (.cons rfl (.nil)))) (key ((a32,oW),[.slice iO 1 iR,.slice j6 (bytesOf x.1).length j8,.slice a22 8 ec,.slice a26 8 iA,.slice a31 8 iS])))
      try dsimp only
      repeat (first|exact aS|exact aU|(apply aT;focus (repeat (first|exact aR|apply zt)))|apply aV)
     ·refine bO.aB (.p rfl) aa rfl aa rfl rfl (kq _) ?_
      rintro _ _ ⟨a22,ec,rfl,rfl⟩
      try simp only [an,aq,au]
      refine af.eY 0 13 [13,18,19,20] [0,18,19,20] aa rfl rfl ?_ ?_
      ·refine bO.ct (T:=ag.u8) (ys:=[1]) (.p rfl) aa underlying24 eR aC rfl rfl ⟨rfl,trivial⟩ aC (fun iO iR=>?_)
       refine af.aB (.p rfl) aa rfl aa rfl rfl (kq _) ?_;rintro _ _ ⟨a26,iA,rfl,rfl⟩
       try simp only [an,aq,au]
       refine af.aB (.p rfl) aa rfl aa rfl rfl (kq _) ?_;rintro _ _ ⟨a31,iS,rfl,rfl⟩
       try simp only [an,aq,au]
       refine af.ct (T:=ag.val) (ys:=[_,_,_,_,_]) (.p rfl) aa underlying109 iC aC rfl rfl ⟨⟨rfl,rfl⟩,⟨rfl,rfl⟩,⟨rfl,rfl⟩,⟨rfl,rfl⟩,⟨rfl,rfl⟩,trivial⟩ aC (fun a32 oW=>?_);refine af.q 1 rfl<|aI.nil<|S.u_ (av ag.u8 5) (bs:=[.slice iO 1 iR,.slice j6 (bytesOf x.1).length j8,.slice a22 8 ec,.slice a26 8 iA,.slice a31 8 iS]) (ys:=mB x) bf rfl ?_;refine S.pk ?_ (S.weaken (Sub.app (.cons rfl (.nil)) (.cons rfl (.cons rfl (.nil)))) (key ((a32,oW),[.slice iO 1 iR,.slice j6 (bytesOf x.1).length j8,.slice a22 8 ec,.slice a26 8 iA,.slice a31 8 iS])))
       try dsimp only
       repeat (first|exact aS|exact aU|(apply aT;focus (repeat (first|exact aR|apply zt)))|apply aV)
      ·refine bO.aB (.p rfl) aa rfl aa rfl rfl (kq _) ?_
       rintro _ _ ⟨a26,iA,rfl,rfl⟩
       try simp only [an,aq,au]
       refine af.eY 0 18 [18,19,20] [0,19,20] aa rfl rfl ?_ ?_
       ·refine bO.ct (T:=ag.u8) (ys:=[1]) (.p rfl) aa underlying24 eR aC rfl rfl ⟨rfl,trivial⟩ aC (fun iO iR=>?_)
        refine af.aB (.p rfl) aa rfl aa rfl rfl (kq _) ?_;rintro _ _ ⟨a31,iS,rfl,rfl⟩
        try simp only [an,aq,au]
        refine af.ct (T:=ag.val) (ys:=[_,_,_,_,_]) (.p rfl) aa underlying109 iC aC rfl rfl ⟨⟨rfl,rfl⟩,⟨rfl,rfl⟩,⟨rfl,rfl⟩,⟨rfl,rfl⟩,⟨rfl,rfl⟩,trivial⟩ aC (fun a32 oW=>?_);refine af.q 1 rfl<|aI.nil<|S.u_ (av ag.u8 5) (bs:=[.slice iO 1 iR,.slice j6 (bytesOf x.1).length j8,.slice a22 8 ec,.slice a26 8 iA,.slice a31 8 iS]) (ys:=mB x) bf rfl ?_;refine S.pk ?_ (S.weaken (Sub.app (.cons rfl (.nil)) (.cons rfl (.cons rfl (.nil)))) (key ((a32,oW),[.slice iO 1 iR,.slice j6 (bytesOf x.1).length j8,.slice a22 8 ec,.slice a26 8 iA,.slice a31 8 iS])))
        try dsimp only
        repeat (first|exact aS|exact aU|(apply aT;focus (repeat (first|exact aR|apply zt)))|apply aV)
       ·refine bO.aB (.p rfl) aa rfl aa rfl rfl (kq _) ?_
        rintro _ _ ⟨a31,iS,rfl,rfl⟩
        try simp only [an,aq,au]
        refine af.ct (T:=ag.u8) (ys:=[1]) (.p rfl) aa underlying24 eR aC rfl rfl ⟨rfl,trivial⟩ aC (fun iO iR=>?_);refine af.ct (T:=ag.val) (ys:=[_,_,_,_,_]) (.p rfl) aa underlying109 iC aC rfl rfl ⟨⟨rfl,rfl⟩,⟨rfl,rfl⟩,⟨rfl,rfl⟩,⟨rfl,rfl⟩,⟨rfl,rfl⟩,trivial⟩ aC (fun a32 oW=>?_);refine af.q 1 rfl<|aI.nil<|S.u_ (av ag.u8 5) (bs:=[.slice iO 1 iR,.slice j6 (bytesOf x.1).length j8,.slice a22 8 ec,.slice a26 8 iA,.slice a31 8 iS]) (ys:=mB x) bf rfl ?_;refine S.pk ?_ (S.weaken (Sub.app (.cons rfl (.nil)) (.cons rfl (.cons rfl (.nil)))) (key ((a32,oW),[.slice iO 1 iR,.slice j6 (bytesOf x.1).length j8,.slice a22 8 ec,.slice a26 8 iA,.slice a31 8 iS])))
        try dsimp only
        repeat (first|exact aS|exact aU|(apply aT;focus (repeat (first|exact aR|apply zt)))|apply aV)
  refine S.lV (B:=sS ag.u8 5 s.2 (mB x)) ai (fun _ z=>b6.len z) fun hs5=>?_;refine S.seq<|S.seq<|S.region rfl<|O.op (.p rfl) (.fieldAddr fH rfl)<|O.op (.p rfl) (.fieldAddr fF rfl)<|O.op (.p rfl) (.loadAt eS rfl (e5.drop 3) rfl) ?_;refine O.op (.p rfl) (.len rfl underlying100 rfl)<|O.q 1 rfl<|O.nil<|S.block<|S.jT (ι:=Nat) (dI:=(Option Addr × Nat) × List Value) (fun i p=>i≤x.2.2.2.1.length∧p.2.length=5+2*i) (fun i p=>[(37,.int .i64 (i:Int)),(4,.slice p.1.1 p.2.length p.1.2)]) [(1,_),(3,_),(35,_),(36,_)] (fun i p=>[sS ag.u8 5 p.2 (mB x++o4 (x.2.2.2.1.take i)),av ag.val 24 (.slice p.1.1 p.2.length p.1.2) p.2,av ag.u8 5 (.slice q.1 1 q.2) [nC x.2.2.2.2.1]]) (fun i p=>x.2.2.2.1.length - i) (0) (s) (by exact ⟨by simp,hs5⟩) (.cons rfl (.cons rfl (.nil))) (.cons rfl (.cons rfl (.cons rfl (.cons rfl (.nil))))) rfl fun i p hx ih=>?_;have aX:=cL (g:=g);obtain ⟨hx1,hx2⟩:=hx;refine S.seq<|S.region rfl<|O.op (.p rfl) (.lss rfl rfl)<|O.nil (S.seq ?_)
  first|refine S.cc rfl (fun th=>?_) (fun th=>?_)|refine S.b7 rfl (fun th=>?_) (fun th=>?_)
  ·have hi:i<x.2.2.2.1.length:=by omega
   have hrow:mB x++o4 (x.2.2.2.1.take i)++[be x.2.2.2.1[i].1]++[be x.2.2.2.1[i].2.1]=mB x++o4 (x.2.2.2.1.take (i+1)):=by rw [List.take_succ_eq_append_getElem hi,ND];simp
   refine S.skip<|S.seq<|S.block<|S.seq<|S.region rfl<|O.b8 (.p rfl) underlying100 oG rfl rfl rfl (by first|assumption|exact aj.mono hg zE|exact aj.left zE|exact aj.left (aj.mono hg zE)) (h:=fun aaa Yf DU Ed=>?_);obtain ⟨rfl,Y1,Y6⟩:=c5.open Ed;refine O.op (.p rfl) (.bz isAgg191 aa rfl DU) ?_;refine O.aM (.p rfl) (.alloc (cs:=[.int .i64 0,.int .i64 0]) zeroValue191 rfl) ?_;rintro _ _ ⟨fW,rfl,rfl⟩;refine O.bu rfl (.cZ aa rfl rfl rfl rfl ai aW) ?_;refine O.nil<|S.cW ai fun g hs hm Ip=>?_;replace hg:=Fr.aH hg hs;replace hR:=bp hR hm
   try replace h:=h.mono hs
   try replace bg:=bg.mono hs
   try replace fO:=fO.mono hs
   try replace eG:=eG.mono hs
   try replace e5:=e5.mono hs
   try replace DU:=DU.mono hs
   try replace Ed:=Ed.mono hs
   replace aX:=dH aX hm;clear hs hm;refine S.bB (L:=[0,1,2,4,5,3,6,7,8,9]) bA aa ?_;refine af.q 1 rfl<|.quiet (.p rfl) rfl (fun _=>.fieldAddr s_ rfl)<|.quiet (.p rfl) rfl (fun _=>.loadAt cv rfl Ip rfl) ?_;refine .quiet (.p rfl) rfl (fun _=>.fieldAddr wX rfl)<|.quiet (.p rfl) rfl (fun _=>.loadAt cv rfl (Ip.drop 1) rfl) ?_;refine af.aB (.p rfl) aa rfl aa rfl rfl (kq _) ?_;rintro _ _ ⟨a44,B1,rfl,rfl⟩
   try simp only [an,aq,au]
   refine af.aB (.p rfl) aa rfl aa rfl rfl (kq _) ?_;rintro _ _ ⟨wC,wM,rfl,rfl⟩
   try simp only [an,aq,au]
   refine af.ct (T:=ag.val) (ys:=[_,_]) (.p rfl) aa underlying109 iC aC rfl rfl ⟨⟨rfl,rfl⟩,⟨rfl,rfl⟩,trivial⟩ aC (fun rB rH=>?_);refine af.gT (.p rfl) aa (T:=ag.val) underlying109 iC aC rfl rfl ai ai bJ bJ (fun a49 u4=>?_);refine af.q 1 rfl<|aI.nil<|S.inBlock<|S.region rfl<|O.op (.p rfl) (.add rfl rfl (IntWalk.i64_in _ ah))<|O.q 1 rfl<|O.nil<|S.each (A:=av ag.u8 5) (bs:=p.2) (b:=.slice a44 8 B1) (a:=be x.2.2.2.1[i].1) ai ai ?_;refine S.each (A:=av ag.u8 5) (bs:=p.2++[.slice a44 8 B1]) (b:=.slice wC 8 wM) (a:=be x.2.2.2.1[i].2.1) ai ai ?_;rw [hrow,List.append_assoc,← List.length_append];exact S.ic aX (S.pw (ih (i+1) (((a49,u4),p.2++[.slice a44 8 B1,.slice wC 8 wM])) (by exact ⟨by omega,by simp;omega⟩) ah))
  ·clear ih
   have hi:i=x.2.2.2.1.length:=by omega
   subst hi;rw [List.take_length];have hrow:mB x++o4 x.2.2.2.1++[[nC x.2.2.2.2.1]]++[bytesOf x.2.2.2.2.2.1]=mB x++o4 x.2.2.2.1++[[nC x.2.2.2.2.1],bytesOf x.2.2.2.2.2.1]:=by simp
   have hfl:=Xk x;refine S.exit rfl<|S.seq<|S.region rfl<|O.q 2 rfl<|O.op (.p rfl) (.fieldAddr fH rfl)<|O.op (.p rfl) (.fieldAddr gl rfl)<|O.op (.p rfl) (.loadAt bc rfl (e5.drop 5) rfl) ?_;refine O.aB (.p rfl) rfl aa rfl rfl (v_ (by first|assumption|exact aj.mono hg zE|exact aj.left zE|exact aj.left (aj.mono hg zE)) bJ) ?_;rintro _ _ ⟨L3,MN,rfl,rfl⟩
   try simp only [an,aq,au]
   refine O.aM (.p rfl) (.ct (T:=ag.val) (ys:=[_,_]) underlying109 iC aC rfl rfl ⟨⟨rfl,rfl⟩,⟨rfl,rfl⟩,trivial⟩ aC) ?_;rintro _ _ ⟨a57,MO,rfl,rfl⟩;refine O.aM (.p rfl) (.gT (T:=ag.val) underlying109 iC aC rfl rfl ai ai bJ bJ) ?_;rintro _ _ ⟨a58,wN,rfl,rfl⟩;refine O.each (A:=av ag.u8 5) (bs:=p.2) (b:=.slice q.1 1 q.2) (a:=[nC x.2.2.2.2.1]) ai ai ?_;refine O.each (A:=av ag.u8 5) (bs:=p.2++[.slice q.1 1 q.2]) (b:=.slice L3 (bytesOf x.2.2.2.2.2.1).length MN) (a:=bytesOf x.2.2.2.2.2.1) ai ai ?_;rw [hrow,List.append_assoc];refine O.N_ ai ai fun g hs hm hall=>?_;replace hg:=Fr.aH hg hs;replace hR:=bp hR hm
   try replace h:=h.mono hs
   try replace bg:=bg.mono hs
   try replace fO:=fO.mono hs
   try replace eG:=eG.mono hs
   try replace e5:=e5.mono hs
   replace aX:=dH aX hm;clear hs hm;refine O.aB (.p rfl) rfl aa rfl rfl ((Bi hall (by rw [hfl];omega))) ?_;rintro _ _ ⟨a59,MP,rfl,rfl⟩
   try simp only [an,aq,au]
   refine O.q 1 rfl<|O.nil ?_;rw [hfl];exact S.rt results354 rfl hR ⟨a59,MP,rfl,rfl⟩
theorem Kn {r:Fr} {cs:List Value} {x:aP} (h:cq.rel r cs x):ay prog 328 #[.agg cs.toArray] r [] (aL fun v U=>v=.bool (ee x)∧U=[]):=by
 obtain ⟨gI,pU,oK,gJ,pV,oL,rfl,k0,k1,k2,bg,fO,eG⟩:=cq.sh h;refine ay.of (n:=12) _ rfl func328 rfl rfl rfl fun g hg R hR=>?_;have h:=h.mono hg;have eG:=eG.mono hg
 cases e:shaped x with
 |false =>
  refine S.seq<|S.region rfl<|O.aM (.p rfl) (.box (cs:=[_,_,_,_,_,_,_]) rfl rfl) ?_;rintro _ _ ⟨b1,rfl,rfl⟩;refine O.q 1 rfl<|O.nil<|S.seq<|S.region rfl<|O.op (.p rfl) (.ia (news:=[_,_,_,_,_,_,_]) isAgg102) ?_;refine O.op (.p rfl) (.build (cs:=[_,_,_,_,_,_,_]) underlying415 rfl rfl rfl rfl rfl)<|O.aB (.p rfl) rfl aa rfl rfl (sF h) ?_;rintro _ _ ⟨rfl,rfl⟩
  try simp only [an,aq,au]
  refine O.aN 5 rfl (by exact e) ?_;refine O.q 7 rfl<|O.nil ?_;exact S.rt results328 rfl hR ⟨by simp [ee,e],rfl⟩
 |true =>
  refine S.seq<|S.region rfl<|O.aM (.p rfl) (.box (cs:=[_,_,_,_,_,_,_]) rfl rfl) ?_;rintro _ _ ⟨b1,rfl,rfl⟩;refine O.q 1 rfl<|O.nil<|S.seq<|S.region rfl<|O.op (.p rfl) (.ia (news:=[_,_,_,_,_,_,_]) isAgg102) ?_;refine O.op (.p rfl) (.build (cs:=[_,_,_,_,_,_,_]) underlying415 rfl rfl rfl rfl rfl)<|O.aB (.p rfl) rfl aa rfl rfl (sF h) ?_;rintro _ _ ⟨rfl,rfl⟩
  try simp only [an,aq,au]
  refine O.sT 5 rfl (by exact e) ?_;refine O.q 1 rfl<|O.op (.g rfl rfl) (.aD iU rfl)<|O.op (.g rfl rfl) (.lo bc) ?_;refine O.op (.g rfl rfl) (.len rfl underlying24 rfl)<|O.op (.g rfl rfl) (.eql rfl rfl)<|O.q 2 rfl<|O.nil ?_;exact S.rt results328 rfl hR ⟨by simp [ee,e];omega,rfl⟩
theorem UD {r:Fr} {cs:List Value} {x:aP} (h:cq.rel r cs x) (hs:shaped x=true):ay prog 329 #[.agg cs.toArray] r [] (aL fun v U=>∃ a c,v=.slice a (jv x).length c∧U=[av ag.u8 5 (.slice a (jv x).length c) (jv x)]):=by
 obtain ⟨gI,pU,oK,gJ,pV,oL,rfl,k0,k1,k2,bg,fO,eG⟩:=cq.sh h;refine ay.of (n:=11) _ rfl func329 rfl rfl rfl fun g hg R hR=>?_;have h:=h.mono hg;refine S.seq<|S.region rfl<|O.aM (.p rfl) (.box (cs:=[_,_,_,_,_,_,_]) rfl rfl) ?_;rintro _ _ ⟨b1,rfl,rfl⟩;refine O.q 1 rfl<|O.nil<|S.seq<|S.region rfl<|O.op (.p rfl) (.ia (news:=[_,_,_,_,_,_,_]) isAgg102) ?_;refine O.op (.p rfl) (.build (cs:=[_,_,_,_,_,_,_]) underlying415 rfl rfl rfl rfl rfl)<|O.aM (.p rfl) (.alloc (cs:=[.string ⟨#[]⟩,.int .i64 0,.int .i64 0,.slice none 0 0,.bool false,.slice none 0 0,.slice none 0 0]) zeroValue415 rfl) ?_;rintro _ _ ⟨b3,rfl,rfl⟩;refine O.bu rfl (.cZ aa rfl rfl rfl rfl ai aW) ?_;refine O.nil<|S.seq<|S.seq<|S.region rfl<|O.op (.p rfl) (.ia (news:=[_,_,_,_,_,_,_]) isAgg415) ?_;refine O.aB (.p rfl) rfl aa rfl rfl (sF h) ?_;rintro _ _ ⟨rfl,rfl⟩
 try simp only [an,aq,au]
 refine O.sT 7 rfl (by exact hs) ?_;refine O.op (.p rfl) (.not rfl)<|O.nil<|S.aQ rfl<|S.skip<|S.seq<|S.region rfl<|O.op (.p rfl) (.ia (news:=[_,_,_,_,_,_,_]) isAgg415) ?_;refine O.aB (.p rfl) rfl aa rfl rfl (XE (by first|assumption|exact ag.rel.mono zE hg) zE) ?_;rintro _ _ ⟨oP,oV,rfl,rfl⟩
 try simp only [an,aq,au]
 refine O.q 1 rfl<|O.nil ?_;exact S.rt results329 rfl hR ⟨oP,oV,rfl,rfl⟩
def mA (x:aP):List UInt8:=if ee x then b9 x else []
def oC (x:aP):Int:=if ee x then 0 else 4
theorem Km {r:Fr} {cs:List Value} {x:aP} (h:cq.rel r cs x):ay prog 292 #[.agg cs.toArray] r [] (aL fun v U=>∃ a c,v=.tuple #[.slice a (mA x).length c,.int .i64 (oC x)]∧U=[av ag.u8 5 (.slice a (mA x).length c) (mA x)]):=by
 obtain ⟨gI,pU,oK,gJ,pV,oL,rfl,k0,k1,k2,bg,fO,eG⟩:=cq.sh h;refine ay.of (n:=13) _ rfl func292 rfl rfl rfl fun g hg R hR=>?_;have h:=h.mono hg;have eG:=eG.mono hg
 cases e:ee x with
 |false =>
  have e1:mA x=[]:=by simp [mA,e]
  have e2:oC x=4:=by simp [oC,e]
  rw [e1,e2] at hR;refine S.seq<|S.region rfl<|O.aM (.p rfl) (.box (cs:=[_,_,_,_,_,_,_]) rfl rfl) ?_;rintro _ _ ⟨b1,rfl,rfl⟩;refine O.q 2 rfl<|O.nil<|S.seq<|S.seq<|S.region rfl<|O.op (.p rfl) (.ia (news:=[_,_,_,_,_,_,_]) isAgg102) ?_;refine O.aB (.p rfl) rfl aa rfl rfl (Kn h) ?_;rintro _ _ ⟨rfl,rfl⟩
  try simp only [an,aq,au]
  refine O.aN 5 rfl (by exact e) ?_;refine O.op (.p rfl) (.not rfl)<|O.nil<|S.bx rfl<|S.seq<|S.region rfl<|O.q 2 rfl<|O.nil<|S.gh (T:=ag.u8) (e:=5) ?_;refine S.mW results292 rfl rfl fun w hw=>Holds.end_ hR hw ?_;exact pk ⟨none,0,rfl,rfl⟩
 |true =>
  have e1:mA x=b9 x:=by simp [mA,e]
  have e2:oC x=0:=by simp [oC,e]
  have hl:=AQ e;obtain ⟨hs,hs2⟩:=vW.1 e;have hfl:[jv x,x.2.2.2.2.2.2.1].flatten=b9 x:=by simp [b9]
  rw [e1,e2] at hR;refine S.seq<|S.region rfl<|O.aM (.p rfl) (.box (cs:=[_,_,_,_,_,_,_]) rfl rfl) ?_;rintro _ _ ⟨b1,rfl,rfl⟩;refine O.q 2 rfl<|O.nil<|S.seq<|S.seq<|S.region rfl<|O.op (.p rfl) (.ia (news:=[_,_,_,_,_,_,_]) isAgg102) ?_;refine O.aB (.p rfl) rfl aa rfl rfl (Kn h) ?_;rintro _ _ ⟨rfl,rfl⟩
  try simp only [an,aq,au]
  refine O.sT 5 rfl (by exact e) ?_;refine O.op (.p rfl) (.not rfl)<|O.nil<|S.aQ rfl<|S.skip<|S.seq<|S.cW ai fun g hs hm e5=>?_;replace hg:=Fr.aH hg hs;replace hR:=bp hR hm
  try replace h:=h.mono hs
  try replace eG:=eG.mono hs
  clear hs hm;refine S.bB (L:=[0,2,3,1,4,5,6,7]) bA aa ?_;refine .quiet (.p rfl) rfl (fun _=>.bz isAgg102 aa rfl e5) ?_;refine .quiet (.p rfl) rfl (fun _=>.fieldAddr iU rfl)<|.quiet (.p rfl) rfl (fun _=>.loadAt bc rfl (e5.drop 6) rfl) ?_;refine af.aB (.p rfl) aa rfl aa rfl rfl (UD (by first|assumption|exact ag.rel.mono zE hg) zE) ?_;rintro _ _ ⟨a8,n_,rfl,rfl⟩
  try simp only [an,aq,au]
  refine af.ct (T:=ag.val) (ys:=[_,_]) (.p rfl) aa underlying109 iC aC rfl rfl ⟨⟨rfl,rfl⟩,⟨rfl,rfl⟩,trivial⟩ aC (fun k9 nZ=>?_);refine af.dw (.p rfl) aa rfl aa rfl rfl (bs:=[av ag.val 24 (.slice k9 2 nZ) [.slice a8 (jv x).length n_,.slice oK x.2.2.2.2.2.2.1.length oL],av ag.u8 5 (.slice a8 (jv x).length n_) (jv x)]) bf (fun m hm hd=>Bi (xss:=[jv x,x.2.2.2.2.2.2.1]) ((hm.arr.right hd).rows ⟨hm.tail.arr.right hd,eG.left,trivial⟩) (by rw [hfl];omega)) ?_;rintro _ _ ⟨a12,jO,rfl,rfl⟩
  try simp only [an,aq,au]
  refine af.q 2 rfl<|aI.nil ?_;rw [hfl];refine S.mW results292 rfl rfl fun w hw=>Holds.end_ hR hw ?_;exact pk ⟨a12,jO,rfl,rfl⟩
theorem UC {r:Fr} {cs ds:List Value} {x y:aP} (h:cq.rel r cs x) (h' :cq.rel r ds y):ay prog 297 #[.agg cs.toArray,.agg ds.toArray] r [] (aL fun v U=>v=.bool (over x y)∧U=[]):=by
 obtain ⟨gI,pU,oK,gJ,pV,oL,rfl,k0,k1,k2,bg,fO,eG⟩:=cq.sh h;obtain ⟨sM,uC,uD,sN,uE,uF,rfl,l0,l1,l2,l3,Jo,Ag⟩:=cq.sh h';refine ay.of (n:=31) _ rfl func297 rfl rfl rfl fun g hg R hR=>?_;have h:=h.mono hg;have h' :=h'.mono hg;have bg:=bg.mono hg;refine S.seq<|S.region rfl<|O.aM (.p rfl) (.box (cs:=[_,_,_,_,_,_,_]) rfl rfl) ?_;rintro _ _ ⟨b2,rfl,rfl⟩;refine O.aM (.p rfl) (.box (cs:=[_,_,_,_,_,_,_]) rfl rfl) ?_;rintro _ _ ⟨b3,rfl,rfl⟩;refine O.q 1 rfl<|O.nil<|S.seq<|S.cW ai fun g hs hm e4=>?_;replace hg:=Fr.aH hg hs;replace hR:=bp hR hm
 try replace h:=h.mono hs
 try replace h' :=h'.mono hs
 try replace bg:=bg.mono hs
 clear hs hm;refine S.cW ai fun g hs hm iF=>?_;replace hg:=Fr.aH hg hs;replace hR:=bp hR hm
 try replace h:=h.mono hs
 try replace h' :=h'.mono hs
 try replace bg:=bg.mono hs
 try replace e4:=e4.mono hs
 clear hs hm;refine S.bB (L:=[0,1,2,3,4,5,6,7]) bA aa ?_;refine .quiet (.p rfl) rfl (fun _=>.bz isAgg102 aa rfl iF) ?_;refine .quiet (.p rfl) rfl (fun _=>.build (cs:=[_,_,_,_,_,_,_]) underlying415 rfl rfl rfl rfl rfl)<|.quiet (.p rfl) rfl (fun _=>.bz isAgg102 aa rfl e4) ?_;refine .quiet (.p rfl) rfl (fun _=>.build (cs:=[_,_,_,_,_,_,_]) underlying415 rfl rfl rfl rfl rfl)<|.lazy rfl aa rfl fun gU=>?_;refine .lazy rfl aa rfl fun fW=>?_;refine af.cZ rfl aa aa rfl rfl rfl rfl ai aW ?_;refine af.cZ rfl aa aa rfl rfl rfl rfl ai aW ?_;refine aI.nil<|S.seq<|S.c7 (b:=gU) (cs' :=[.string (str x.1),.int .i64 x.2.1,.int .i64 x.2.2.1,.slice gI x.2.2.2.1.length gJ,.bool x.2.2.2.2.1,.slice pU x.2.2.2.2.2.1.length pV,.slice oK x.2.2.2.2.2.2.1.length oL]) ai rfl ?_;refine S.c7 (b:=fW) (cs' :=[.string (str y.1),.int .i64 y.2.1,.int .i64 y.2.2.1,.slice sM y.2.2.2.1.length sN,.bool y.2.2.2.2.1,.slice uC y.2.2.2.2.2.1.length uE,.slice uD y.2.2.2.2.2.2.1.length uF]) ai rfl ?_;refine S.cW ai fun g hs hm ea=>?_;replace hg:=Fr.aH hg hs;replace hR:=bp hR hm
 try replace h:=h.mono hs
 try replace h' :=h'.mono hs
 try replace bg:=bg.mono hs
 try replace e4:=e4.mono hs
 try replace iF:=iF.mono hs
 clear hs hm;refine S.cW ai fun g hs hm zP=>?_;replace hg:=Fr.aH hg hs;replace hR:=bp hR hm
 try replace h:=h.mono hs
 try replace h' :=h'.mono hs
 try replace bg:=bg.mono hs
 try replace e4:=e4.mono hs
 try replace iF:=iF.mono hs
 try replace ea:=ea.mono hs
 clear hs hm
 by_cases e1:x.1=y.1
 ·cases e2:shaped x with
  |false =>
   refine S.bB (L:=[0,1,2,3,4,5,6,7,8,9,10,11,12,13,14,15,16,17,18,19,20]) bA aa ?_;refine .quiet (.p rfl) rfl (fun _=>.fieldAddr e3 rfl)<|.quiet (.p rfl) rfl (fun _=>.loadAt bL rfl iF rfl) ?_;refine .quiet (.p rfl) rfl (fun _=>.fieldAddr e3 rfl)<|.quiet (.p rfl) rfl (fun _=>.loadAt bL rfl e4 rfl) ?_;refine .quiet (.p rfl) rfl (fun _=>.kV rfl rfl)<|af.sT 15 rfl (by simp [e1]) ?_;refine af.q 1 rfl<|.quiet (.g rfl rfl) rfl (fun _=>.bz isAgg415 aa rfl zP) ?_;refine af.aB (.g rfl rfl) aa rfl aa rfl rfl (sF h) ?_;rintro _ _ ⟨rfl,rfl⟩
   try simp only [an,aq,au]
   refine af.aN 18 rfl (by exact e2) ?_;refine af.q 13 rfl<|aI.nil ?_;exact S.rt results297 rfl hR ⟨by simp [over,e2],rfl⟩
  |true =>
   cases bY:shaped y with
   |false =>
    refine S.bB (L:=[0,1,2,3,4,5,6,7,8,9,10,11,12,13,14,15,16,17,18,19,20]) bA aa ?_;refine .quiet (.p rfl) rfl (fun _=>.fieldAddr e3 rfl)<|.quiet (.p rfl) rfl (fun _=>.loadAt bL rfl iF rfl) ?_;refine .quiet (.p rfl) rfl (fun _=>.fieldAddr e3 rfl)<|.quiet (.p rfl) rfl (fun _=>.loadAt bL rfl e4 rfl) ?_;refine .quiet (.p rfl) rfl (fun _=>.kV rfl rfl)<|af.sT 15 rfl (by simp [e1]) ?_;refine af.q 1 rfl<|.quiet (.g rfl rfl) rfl (fun _=>.bz isAgg415 aa rfl zP) ?_;refine af.aB (.g rfl rfl) aa rfl aa rfl rfl (sF h) ?_;rintro _ _ ⟨rfl,rfl⟩
    try simp only [an,aq,au]
    refine af.sT 18 rfl (by exact e2) ?_;refine af.q 2 rfl<|.quiet (.g rfl rfl) rfl (fun _=>.bz isAgg415 aa rfl ea) ?_;refine af.aB (.g rfl rfl) aa rfl aa rfl rfl (sF h') ?_;rintro _ _ ⟨rfl,rfl⟩
    try simp only [an,aq,au]
    refine af.aN 22 rfl (by exact bY) ?_;refine af.q 9 rfl<|aI.nil ?_;exact S.rt results297 rfl hR ⟨by simp [over,bY],rfl⟩
   |true =>
    refine S.bB (L:=[0,1,2,3,4,5,6,7,8,9,10,11,12,13,14,15,16,17,18,19,20]) bA aa ?_;refine .quiet (.p rfl) rfl (fun _=>.fieldAddr e3 rfl)<|.quiet (.p rfl) rfl (fun _=>.loadAt bL rfl iF rfl) ?_;refine .quiet (.p rfl) rfl (fun _=>.fieldAddr e3 rfl)<|.quiet (.p rfl) rfl (fun _=>.loadAt bL rfl e4 rfl) ?_;refine .quiet (.p rfl) rfl (fun _=>.kV rfl rfl)<|af.sT 15 rfl (by simp [e1]) ?_;refine af.q 1 rfl<|.quiet (.g rfl rfl) rfl (fun _=>.bz isAgg415 aa rfl zP) ?_;refine af.aB (.g rfl rfl) aa rfl aa rfl rfl (sF h) ?_;rintro _ _ ⟨rfl,rfl⟩
    try simp only [an,aq,au]
    refine af.sT 18 rfl (by exact e2) ?_;refine af.q 2 rfl<|.quiet (.g rfl rfl) rfl (fun _=>.bz isAgg415 aa rfl ea) ?_;refine af.aB (.g rfl rfl) aa rfl aa rfl rfl (sF h') ?_;rintro _ _ ⟨rfl,rfl⟩
    try simp only [an,aq,au]
    refine af.sT 22 rfl (by exact bY) ?_;refine af.q 2 rfl<|.quiet (.g rfl rfl) rfl (fun _=>.fieldAddr fF rfl)<|.quiet (.g rfl rfl) rfl (fun _=>.loadAt eS rfl (iF.drop 3) rfl) ?_;refine .quiet (.g rfl rfl) rfl (fun _=>.bz isAgg415 aa rfl ea) ?_;refine af.aB (.g rfl rfl) aa rfl aa rfl rfl (ux h') ?_;rintro _ _ ⟨rfl,rfl⟩
    try simp only [an,aq,au]
    refine af.aB (.g rfl rfl) aa rfl aa rfl rfl (FY (iJ y) rfl bg) ?_;rintro _ _ ⟨rfl,rfl⟩
    try simp only [an,aq,au]
    refine af.q 2 rfl<|aI.nil ?_;exact S.rt results297 rfl hR ⟨by simp [over,e1,e2,bY],rfl⟩
 ·
  refine S.bB (L:=[0,1,2,3,4,5,6,7,8,9,10,11,12,13,14,15,16,17,18,19,20]) bA aa ?_;refine .quiet (.p rfl) rfl (fun _=>.fieldAddr e3 rfl)<|.quiet (.p rfl) rfl (fun _=>.loadAt bL rfl iF rfl) ?_;refine .quiet (.p rfl) rfl (fun _=>.fieldAddr e3 rfl)<|.quiet (.p rfl) rfl (fun _=>.loadAt bL rfl e4 rfl) ?_;refine .quiet (.p rfl) rfl (fun _=>.kV rfl rfl)<|af.aN 15 rfl (by simp [e1]) ?_;refine af.q 16 rfl<|aI.nil ?_;exact S.rt results297 rfl hR ⟨by simp [over,e1],rfl⟩
def FE:List PanicEntry:=[{ v:=.iface 44 (.int .i64 4),recovered:=false }]
theorem ql {r:Fr} (b:Bool):ay prog 226 #[.bool b] r [] (eL (fun v U=>b=true∧v=.tuple #[]∧U=[]) (fun ch U=>b=false∧ch=FE∧U=[])):=by
 refine ay.of (n:=5) _ rfl func226 rfl rfl rfl fun g hg R hR=>?_;refine S.seq<|S.region rfl<|O.q 1 rfl<|O.op (.p rfl) ((by first|exact .lH rfl|exact .not rfl)) ?_;refine O.nil ?_
 first|refine S.cc rfl (fun h3=>?_) (fun h3=>?_)|refine S.b7 rfl (fun h3=>?_) (fun h3=>?_)
 ·refine S.region rfl<|O.op (.p rfl) (.JK underlying44 rfl)<|O.panic rfl rfl (fun w hw=>?_)
  exact hR _ [] w ⟨by simpa using h3,rfl,rfl⟩ hw
 ·refine S.skip<|S.ev results226 fun w hw=>hR _ _ w ?_ hw
  exact ⟨by simpa using h3,rfl,rfl⟩
theorem um {r:Fr} {cs ds:List Value} {x y:aP} (h:bK.rel r cs x) (h' :bK.rel r ds y):ay prog 227 #[.agg cs.toArray,.agg ds.toArray] r [] (aL fun v U=>v=.int .i64 (dQ x y)∧U=[]):=by
 obtain ⟨gI,pU,oK,Bk,gJ,pV,oL,Bl,rfl,_,_⟩:=bK.sh h;obtain ⟨sM,uC,uD,Bn,sN,uE,uF,Bo,rfl,_,_⟩:=bK.sh h';refine ay.of (n:=21) _ rfl func227 rfl rfl rfl fun g hg R hR=>?_;have hc1:=Ca x.2.1 y.2.1;have tw:=Ca x.2.2.1 y.2.2.1;refine S.seq<|S.region rfl<|O.aM (.p rfl) (.box (cs:=[_,_,_,_,_,_,_,_]) rfl rfl) ?_;rintro _ _ ⟨b2,rfl,rfl⟩;refine O.aM (.p rfl) (.box (cs:=[_,_,_,_,_,_,_,_]) rfl rfl) ?_;rintro _ _ ⟨b3,rfl,rfl⟩;refine O.q 1 rfl<|O.nil<|S.seq<|S.cW ai fun g hs hm e4=>?_;replace hg:=Fr.aH hg hs;replace hR:=bp hR hm;clear hs hm;refine S.cW ai fun g hs hm iF=>?_;replace hg:=Fr.aH hg hs;replace hR:=bp hR hm
 try replace e4:=e4.mono hs
 clear hs hm;refine S.bB (L:=[0,1,2,3,4,5,7,8,9,10,11,12,6,13,14,15,16]) bA aa ?_;refine .quiet (.p rfl) rfl (fun _=>.fieldAddr rM rfl)<|.quiet (.p rfl) rfl (fun _=>.fieldAddr vc rfl)<|.quiet (.p rfl) rfl (fun _=>.loadAt cv rfl (iF.drop 1) rfl) ?_;refine .quiet (.p rfl) rfl (fun _=>.fieldAddr rM rfl)<|.quiet (.p rfl) rfl (fun _=>.fieldAddr vc rfl)<|.quiet (.p rfl) rfl (fun _=>.loadAt cv rfl (e4.drop 1) rfl) ?_;refine .quiet (.p rfl) rfl (fun _=>.fieldAddr rM rfl)<|.quiet (.p rfl) rfl (fun _=>.fieldAddr ve rfl)<|.quiet (.p rfl) rfl (fun _=>.loadAt cv rfl (iF.drop 2) rfl) ?_;refine .quiet (.p rfl) rfl (fun _=>.fieldAddr rM rfl)<|.quiet (.p rfl) rfl (fun _=>.fieldAddr ve rfl)<|.quiet (.p rfl) rfl (fun _=>.loadAt cv rfl (e4.drop 2) rfl) ?_;refine af.aB (.p rfl) aa rfl aa rfl rfl (Cf _ _) ?_;rintro _ _ ⟨rfl,rfl⟩
 try simp only [an,aq,au]
 refine af.aB (.p rfl) aa rfl aa rfl rfl (Cf _ _) ?_;rintro _ _ ⟨rfl,rfl⟩
 try simp only [an,aq,au]
 refine af.ct (T:=ag.i64) (ys:=[_,_]) (.p rfl) aa underlying104 wU aC rfl rfl ⟨⟨rfl,by first|assumption|(constructor<;>omega)⟩,⟨rfl,by first|assumption|(constructor<;>omega)⟩,trivial⟩ aC (fun yQ y2=>?_);refine af.bM (.p rfl) aa rfl aa rfl rfl ai G3 ?_;rintro _ _ ⟨rfl,rfl⟩
 try simp only [an,aq,au]
 refine af.q 1 rfl<|aI.nil<|S.ret results227 rfl fun w hw=>Holds.end_ hR hw ?_;refine ⟨_,⟨congrArg _ ?_,rfl⟩,by repeat (first|exact aS|exact aU|(apply aT;focus (repeat (first|exact aR|apply zt)))|apply aV)⟩;unfold dQ nx nx nx
 split
 ·rfl
 ·split
  ·rfl
  ·rename_i h2;exact (Classical.not_not.1 h2).symm
theorem KO {r:Fr} {tR:TypeId} {b:Nat} {va:Value} {xs ys:List aP} (ha:aj cq r va ys) (h1:gP xs=true) (hl:xs.length+ys.length≤100000000000) :
  ay prog 225 #[.pointer (some ⟨b,0,none⟩),va] r [ff r tR 220 5 b xs]
   (eL (fun v U=>gP (xs++ys)=true∧v=.tuple #[]∧U=[ff r tR 220 5 b (xs++ys)]) (fun ch U=>gP (xs++ys)=false∧ch=FE∧U=[])):=by
 have nJ:=ha;refine ay.of (n:=56) _ rfl func225 rfl rfl rfl fun g hg R hR=>?_;have ha:=ha.mono hg;obtain ⟨a1,c1,rfl⟩:=ha.shape;refine S.seq<|S.region rfl<|O.q 1 rfl<|O.op (.p rfl) (.len rfl underlying22 rfl)<|O.q 1 rfl<|O.nil<|S.block<|S.conv (B:=ff r tR 220 5 b xs) (C:=ff r tR 220 5 b (xs++ys.take 0)) ai (fun m x=>⟨m,Fr.bU _,by rw [List.take_zero,List.append_nil];exact x⟩) ?_;refine S.e6 (ι:=Nat) (fun i=>i≤ys.length∧gP (xs++ys.take i)=true) (fun i=>[(10,.int .i64 (i:Int))]) [(0,_),(8,_),(9,_)] (fun i=>[ff r tR 220 5 b (xs++ys.take i)]) (fun i=>ys.length - i) (0) (by exact ⟨by simp,by simpa using h1⟩) (.cons rfl (.nil)) (.cons rfl (.cons rfl (.cons rfl (.nil)))) rfl fun i hx ih=>?_;have aX:=cL (g:=g);obtain ⟨hx1,hx2⟩:=hx;refine S.seq<|S.region rfl<|O.op (.p rfl) (.lss rfl rfl)<|O.nil (S.seq ?_)
 first|refine S.cc rfl (fun h11=>?_) (fun h11=>?_)|refine S.b7 rfl (fun h11=>?_) (fun h11=>?_)
 ·have hi:i<ys.length:=by omega
  have htk:xs++ys.take (i+1)=(xs++ys.take i)++[ys[i]]:=by rw [List.take_succ_eq_append_getElem hi,List.append_assoc]
  have eU:=TJ (x:=ys[i]) hx2;rw [← htk] at eU;have Im:gP (xs++ys.take (i+1))=false→gP (xs++ys)=false:=fun q=>by
   rw [Bool.eq_false_iff];intro q2;have:=E3 (xs.length+(i+1)) q2;rw [List.take_append,List.take_of_length_le (Nat.le_add_right _ _),Nat.add_sub_cancel_left,q] at this
   cases this
  have hlen:(xs++ys.take i).length=xs.length+i:=by simp;omega
  generalize hzs:xs++ys.take i=zs at hx2 eU htk hlen ⊢;refine S.skip<|S.seq<|S.block<|S.seq<|S.region rfl<|O.ib (.p rfl) underlying22 nQ rfl rfl rfl nJ hg (h:=fun J' X8 fN Ej=>?_);have gO:=ag.rel.mono Ej hg;obtain ⟨mo,mq,mr,mu,mv,mw,rfl,Zb,Zk,Zm,gZ,g_,hM⟩:=cq.sh gO;refine O.op (.p rfl) (.bz isAgg102 aa rfl fN) ?_;refine O.aM (.p rfl) (.alloc (cs:=[.string ⟨#[]⟩,.int .i64 0,.int .i64 0,.slice none 0 0,.bool false,.slice none 0 0,.slice none 0 0]) zeroValue102 rfl) ?_;rintro _ _ ⟨gU,rfl,rfl⟩;refine O.bu rfl (.cZ aa rfl rfl rfl rfl ai aW) ?_;refine O.nil<|S.seq<|S.region rfl<|O.op (.p rfl) (.ia (news:=[_,_,_,_,_,_,_]) isAgg102) ?_;refine O.aB (.p rfl) rfl aa rfl rfl (Km (by first|assumption|exact ag.rel.mono zE hg)) ?_;rintro _ _ ⟨ei,ej,rfl,rfl⟩
  try simp only [an,aq,au]
  refine O.q 5 rfl<|O.nil<|S.seq<|S.c7 (b:=gU) (cs' :=[.string (str ys[i].1),.int .i64 ys[i].2.1,.int .i64 ys[i].2.2.1,.slice mo ys[i].2.2.2.1.length mu,.bool ys[i].2.2.2.2.1,.slice mq ys[i].2.2.2.2.2.1.length mv,.slice mr ys[i].2.2.2.2.2.2.1.length mw]) ai rfl ?_
  cases e:ee ys[i] with
  |false =>
   have hno:gP (xs++ys)=false:=Im (by rw [Bool.eq_false_iff];intro q;have:=(eU.1 q).1;rw [e] at this;cases this);refine S.bB (L:=[0,1,2,3,4,5,6,7,8,9,10,11,12,13,14,15,16,17,18,19,20,21,22,23]) bA aa ?_;refine af.q 1 rfl<|.quiet (.p rfl) rfl (fun _=>.eql rfl rfl)<|af.aN 20 rfl (by simp [oC,e]) ?_;refine af.q 21 rfl<|af.kS (.p rfl) aa rfl aa rfl rfl (ql _) (fun ch ax w hX hW=>by (obtain ⟨hb,rfl,rfl⟩:=hX;exact hR _ _ w ⟨hno,rfl,rfl⟩ hW.qE)) ?_;rintro _ _ ⟨nG,rfl,rfl⟩
   try simp only [an,aq,au]
   exact absurd nG bI
  |true =>
   have NQ:mA ys[i]=b9 ys[i]:=by simp [mA,e]
   rw [NQ]
   by_cases h0:zs.length=0
   ·have oo:=eU.2 ⟨e,fun h=>absurd h ah⟩
    refine S.cW ai fun g hs hm ea=>?_;replace hg:=Fr.aH hg hs;replace hR:=bp hR hm
    try replace ha:=ha.mono hs
    try replace fN:=fN.mono hs
    try replace gO:=gO.mono hs
    try replace gZ:=gZ.mono hs
    try replace g_:=g_.mono hs
    try replace hM:=hM.mono hs
    replace aX:=dH aX hm;clear hs hm;have gC:=hg;have gz:=hR
    try have vr:=ha
    try have zZ:=fN
    try have z8:=gO
    try have zJ:=gZ
    try have zK:=g_
    try have zL:=hM
    try have zO:=ea
    refine S.iD (B:=ff r tR 220 5 b zs) ai fun o_ dN ⟨q5,jQ,jR⟩ gp=>?_;replace hg:=Fr.aH hg dN;replace hR:=iy hR gp
    try replace ha:=ha.mono dN
    try replace fN:=fN.mono dN
    try replace gO:=gO.mono dN
    try replace gZ:=gZ.mono dN
    try replace g_:=g_.mono dN
    try replace hM:=hM.mono dN
    try replace ea:=ea.mono dN
    obtain ⟨oB,qg,i_,px⟩:=ff.read hg jR jQ;refine S.bB (L:=[0,1,2,3,4,5,6,7,8,9,10,11,12,13,14,15,16,17,18,19,20,21,22,23]) bA aa ?_;refine af.q 1 rfl<|.quiet (.p rfl) rfl (fun _=>.eql rfl rfl)<|af.sT 20 rfl (by simp [oC,e]) ?_;refine af.q 2 rfl<|.quiet (.g rfl rfl) rfl (fun _=>.nilCheck rfl)<|.quiet (.g rfl rfl) rfl (fun _=>.fieldAddr jj rfl)<|.quiet (.g rfl rfl) rfl (fun _=>.loadAt jh rfl i_ rfl) ?_;refine .quiet (.g rfl rfl) rfl (fun _=>.len rfl underlying216 rfl)<|.quiet (.g rfl rfl) rfl (fun _=>.eql rfl rfl)<|af.sT 27 rfl (by exact decide_eq_true ah) ?_;refine af.q 14 rfl<|af.kS (.p rfl) aa rfl aa rfl rfl (ql _) (fun ch ax w hX hW=>by (exact absurd hX.1 bI)) ?_;rintro _ _ ⟨nG,rfl,rfl⟩
    try simp only [an,aq,au]
    refine aI.nil<|S.back gp ?_;replace hg:=gC;replace hR:=gz
    try replace ha:=vr
    try replace fN:=zZ
    try replace gO:=z8
    try replace gZ:=zJ
    try replace g_:=zK
    try replace hM:=zL
    try replace ea:=zO
    clear gC gz;refine S.open (A:=ff r tR 220 5 b zs) ai (fun m x=>x) fun p=>?_;simp only [List.cons_append,List.nil_append];refine S.lV (B:=b6 (lP r 5) p.2 zs) ai (fun _ z=>b6.len z) fun eb=>?_;have mO:p.2.length≤100000000000:=by omega
    have fq:=hg;have fp:=hR
    try have nF:=ha
    try have DQ:=fN
    try have D9:=gO
    try have Dj:=gZ
    try have Dk:=g_
    try have Dl:=hM
    try have Ds:=ea
    refine S.iD (B:=obj b tR [.slice p.1.1 zs.length p.1.2]) ai fun go cI ⟨qf,hmo,jE⟩ eT=>?_;replace hg:=Fr.aH hg cI;replace hR:=iy hR eT
    try replace ha:=ha.mono cI
    try replace fN:=fN.mono cI
    try replace gO:=gO.mono cI
    try replace gZ:=gZ.mono cI
    try replace g_:=g_.mono cI
    try replace hM:=hM.mono cI
    try replace ea:=ea.mono cI
    have qN:=(gf hmo).mono jE;refine S.bB (L:=[0,1,2,3,4,5,6,7,8,9,10,11,12]) bA aa ?_;refine af.q 2 rfl<|.quiet (.p rfl) rfl (fun _=>.nilCheck rfl)<|.quiet (.p rfl) rfl (fun _=>.fieldAddr jj rfl)<|.quiet (.p rfl) rfl (fun _=>.loadAt jh rfl qN rfl) ?_;refine .quiet (.p rfl) rfl (fun _=>.bz isAgg102 aa rfl ea) ?_;refine af.q 1 rfl<|.quiet (.p rfl) rfl (fun _=>.build (cs:=[_,_,_,_,_,_,_,_]) underlying220 rfl rfl rfl rfl rfl)<|af.ct (T:=(ag.cells 8)) (ys:=[_]) (.p rfl) aa underlying216 s5 aC rfl rfl ⟨⟨rfl,rfl,by first|(simp;done)|(intro v hv;simp [Value.cells] at hv;rcases hv with rfl|rfl<;>rfl)|(refine List.forall_mem_cons.2 ⟨rfl,?_⟩;repeat (first|exact (fun _ h=>absurd h List.not_mem_nil)|refine List.forall_mem_cons.2 ⟨rfl,?_⟩))⟩,trivial⟩ aC (fun a51 y4=>?_);refine af.gT (.p rfl) aa (T:=(ag.cells 8)) underlying216 s5 aC rfl rfl ai ai bJ bJ (fun kD kE=>?_);refine .quiet (.p rfl) rfl (fun _=>.nilCheck rfl)<|.quiet (.p rfl) rfl (fun _=>.fieldAddr jj rfl)<|af.xX rfl aa (fun _ hw=>eT hw) jh rfl rfl bq ai yJ ?_;replace hg:=fq;replace hR:=fp
    try replace ha:=nF
    try replace fN:=DQ
    try replace gO:=D9
    try replace gZ:=Dj
    try replace g_:=Dk
    try replace hM:=Dl
    try replace ea:=Ds
    clear fq fp;refine S.inBlock<|S.region rfl<|O.op (.p rfl) (.add rfl rfl (IntWalk.i64_in _ ah))<|O.q 1 rfl<|O.nil<|S.jr (T:=ag.cells 8) (e:=220) (v' :=.slice kD (zs++[ys[i]]).length kE) (xs' :=p.2++[[.string (str ys[i].1),.int .i64 ys[i].2.1,.int .i64 ys[i].2.2.1,.slice mo ys[i].2.2.2.1.length mu,.bool ys[i].2.2.2.2.1,.slice mq ys[i].2.2.2.2.2.1.length mv,.slice mr ys[i].2.2.2.2.2.2.1.length mw,.slice ei (b9 ys[i]).length ej]]) ai (by simp [eb]) sO ?_;refine S.c7 (b:=b) (cs' :=[.slice kD (zs++[ys[i]]).length kE]) ai (by simp [eb]) ?_;refine S.conv (B:=av ag.u8 5 (.slice ei (b9 ys[i]).length ej) (b9 ys[i])) (C:=lP r 5 [.string (str ys[i].1),.int .i64 ys[i].2.1,.int .i64 ys[i].2.2.1,.slice mo ys[i].2.2.2.1.length mu,.bool ys[i].2.2.2.2.1,.slice mq ys[i].2.2.2.2.2.1.length mv,.slice mr ys[i].2.2.2.2.2.2.1.length mw,.slice ei (b9 ys[i]).length ej] ys[i]) ai (fun m x=>⟨m,Fr.bU _,[.string (str ys[i].1),.int .i64 ys[i].2.1,.int .i64 ys[i].2.2.1,.slice mo ys[i].2.2.2.1.length mu,.bool ys[i].2.2.2.2.1,.slice mq ys[i].2.2.2.2.2.1.length mv,.slice mr ys[i].2.2.2.2.2.2.1.length mw],ei,ej,rfl,Ej,x⟩) ?_
    refine S.each (A:=lP r 5) (bs:=p.2) (b:=[.string (str ys[i].1),.int .i64 ys[i].2.1,.int .i64 ys[i].2.2.1,.slice mo ys[i].2.2.2.1.length mu,.bool ys[i].2.2.2.2.1,.slice mq ys[i].2.2.2.2.2.1.length mv,.slice mr ys[i].2.2.2.2.2.2.1.length mw,.slice ei (b9 ys[i]).length ej]) (a:=ys[i]) ai ai ?_;refine S.cB (A:=ff r tR 220 5 b (zs++[ys[i]])) (bs:=[obj b tR [.slice kD (zs++[ys[i]]).length kE],av (ag.cells 8) 220 (.slice kD (zs++[ys[i]]).length kE) (p.2++[[.string (str ys[i].1),.int .i64 ys[i].2.1,.int .i64 ys[i].2.2.1,.slice mo ys[i].2.2.2.1.length mu,.bool ys[i].2.2.2.2.1,.slice mq ys[i].2.2.2.2.2.1.length mv,.slice mr ys[i].2.2.2.2.2.2.1.length mw,.slice ei (b9 ys[i]).length ej]]),b6 (lP r 5) (p.2++[[.string (str ys[i].1),.int .i64 ys[i].2.1,.int .i64 ys[i].2.2.1,.slice mo ys[i].2.2.2.1.length mu,.bool ys[i].2.2.2.2.1,.slice mq ys[i].2.2.2.2.2.1.length mv,.slice mr ys[i].2.2.2.2.2.2.1.length mw,.slice ei (b9 ys[i]).length ej]]) (zs++[ys[i]])]) bf (fun m x=>⟨((kD,kE),p.2++[[.string (str ys[i].1),.int .i64 ys[i].2.1,.int .i64 ys[i].2.2.1,.slice mo ys[i].2.2.2.1.length mu,.bool ys[i].2.2.2.2.1,.slice mq ys[i].2.2.2.2.2.1.length mv,.slice mr ys[i].2.2.2.2.2.2.1.length mw,.slice ei (b9 ys[i]).length ej]]),x⟩) ?_;rw [← htk];exact S.ic aX (S.pw (ih (i+1) (by exact ⟨by omega,oo⟩) ah))
   ·by_cases hk:ys[i].1=(zs[0]'ah).1
    ·have oo:=eU.2 ⟨e,fun h=>hk⟩
     refine S.cW ai fun g hs hm ea=>?_;replace hg:=Fr.aH hg hs;replace hR:=bp hR hm
     try replace ha:=ha.mono hs
     try replace fN:=fN.mono hs
     try replace gO:=gO.mono hs
     try replace gZ:=gZ.mono hs
     try replace g_:=g_.mono hs
     try replace hM:=hM.mono hs
     replace aX:=dH aX hm;clear hs hm;have gC:=hg;have gz:=hR
     try have vr:=ha
     try have zZ:=fN
     try have z8:=gO
     try have zJ:=gZ
     try have zK:=g_
     try have zL:=hM
     try have zO:=ea
     refine S.iD (B:=ff r tR 220 5 b zs) ai fun o_ dN ⟨q5,jQ,jR⟩ gp=>?_;replace hg:=Fr.aH hg dN;replace hR:=iy hR gp
     try replace ha:=ha.mono dN
     try replace fN:=fN.mono dN
     try replace gO:=gO.mono dN
     try replace gZ:=gZ.mono dN
     try replace g_:=g_.mono dN
     try replace hM:=hM.mono dN
     try replace ea:=ea.mono dN
     obtain ⟨oB,qg,i_,px⟩:=ff.read hg jR jQ;refine S.bB (L:=[0,1,2,3,4,5,6,7,8,9,10,11,12,13,14,15,16,17,18,19,20,21,22,23]) bA aa ?_;refine af.q 1 rfl<|.quiet (.p rfl) rfl (fun _=>.eql rfl rfl)<|af.sT 20 rfl (by simp [oC,e]) ?_;refine af.q 2 rfl<|.quiet (.g rfl rfl) rfl (fun _=>.nilCheck rfl)<|.quiet (.g rfl rfl) rfl (fun _=>.fieldAddr jj rfl)<|.quiet (.g rfl rfl) rfl (fun _=>.loadAt jh rfl i_ rfl) ?_;refine .quiet (.g rfl rfl) rfl (fun _=>.len rfl underlying216 rfl)<|.quiet (.g rfl rfl) rfl (fun _=>.eql rfl rfl)<|af.aN 27 rfl (by exact decide_eq_false ah) ?_;refine af.q 2 rfl<|.quiet (.g rfl rfl) rfl (fun _=>.nilCheck rfl)<|.quiet (.g rfl rfl) rfl (fun _=>.fieldAddr jj rfl)<|.quiet (.g rfl rfl) rfl (fun _=>.loadAt jh rfl i_ rfl) ?_;refine af.b8 (.g rfl rfl) underlying216 gF rfl rfl (show _=(((0):Nat):Int) by omega) (by first|assumption|exact aj.mono hg zE|exact aj.left zE|exact aj.left (aj.mono hg zE)) (h:=fun E7 Cj tK tN=>?_);obtain ⟨Rc,Rh,Rl,Rp,Ru,Ry,RC,RG,rfl,Qv,OY⟩:=bK.sh tN;refine .quiet (.g rfl rfl) rfl (fun _=>.fieldAddr rM rfl)<|.quiet (.g rfl rfl) rfl (fun _=>.fieldAddr e3 rfl)<|.quiet (.g rfl rfl) rfl (fun _=>.loadAt bL rfl tK rfl) ?_
     refine .quiet (.g rfl rfl) rfl (fun _=>.fieldAddr e3 rfl)<|.quiet (.g rfl rfl) rfl (fun _=>.loadAt bL rfl ea rfl) ?_;refine .quiet (.g rfl rfl) rfl (fun _=>.kV rfl rfl)<|af.sT 39 rfl (by simp [hk]) ?_;refine af.q 2 rfl<|af.kS (.p rfl) aa rfl aa rfl rfl (ql _) (fun ch ax w hX hW=>by (exact absurd hX.1 bI)) ?_;rintro _ _ ⟨nG,rfl,rfl⟩
     try simp only [an,aq,au]
     refine aI.nil<|S.back gp ?_;replace hg:=gC;replace hR:=gz
     try replace ha:=vr
     try replace fN:=zZ
     try replace gO:=z8
     try replace gZ:=zJ
     try replace g_:=zK
     try replace hM:=zL
     try replace ea:=zO
     clear gC gz;refine S.open (A:=ff r tR 220 5 b zs) ai (fun m x=>x) fun p=>?_;simp only [List.cons_append,List.nil_append];refine S.lV (B:=b6 (lP r 5) p.2 zs) ai (fun _ z=>b6.len z) fun eb=>?_;have mO:p.2.length≤100000000000:=by omega
     have fq:=hg;have fp:=hR
     try have nF:=ha
     try have DQ:=fN
     try have D9:=gO
     try have Dj:=gZ
     try have Dk:=g_
     try have Dl:=hM
     try have Ds:=ea
     refine S.iD (B:=obj b tR [.slice p.1.1 zs.length p.1.2]) ai fun go cI ⟨qf,hmo,jE⟩ eT=>?_;replace hg:=Fr.aH hg cI;replace hR:=iy hR eT
     try replace ha:=ha.mono cI
     try replace fN:=fN.mono cI
     try replace gO:=gO.mono cI
     try replace gZ:=gZ.mono cI
     try replace g_:=g_.mono cI
     try replace hM:=hM.mono cI
     try replace ea:=ea.mono cI
     have qN:=(gf hmo).mono jE;refine S.bB (L:=[0,1,2,3,4,5,6,7,8,9,10,11,12]) bA aa ?_;refine af.q 2 rfl<|.quiet (.p rfl) rfl (fun _=>.nilCheck rfl)<|.quiet (.p rfl) rfl (fun _=>.fieldAddr jj rfl)<|.quiet (.p rfl) rfl (fun _=>.loadAt jh rfl qN rfl) ?_;refine .quiet (.p rfl) rfl (fun _=>.bz isAgg102 aa rfl ea) ?_;refine af.q 1 rfl<|.quiet (.p rfl) rfl (fun _=>.build (cs:=[_,_,_,_,_,_,_,_]) underlying220 rfl rfl rfl rfl rfl)<|af.ct (T:=(ag.cells 8)) (ys:=[_]) (.p rfl) aa underlying216 s5 aC rfl rfl ⟨⟨rfl,rfl,by first|(simp;done)|(intro v hv;simp [Value.cells] at hv;rcases hv with rfl|rfl<;>rfl)|(refine List.forall_mem_cons.2 ⟨rfl,?_⟩;repeat (first|exact (fun _ h=>absurd h List.not_mem_nil)|refine List.forall_mem_cons.2 ⟨rfl,?_⟩))⟩,trivial⟩ aC (fun a51 y4=>?_);refine af.gT (.p rfl) aa (T:=(ag.cells 8)) underlying216 s5 aC rfl rfl ai ai bJ bJ (fun kD kE=>?_);refine .quiet (.p rfl) rfl (fun _=>.nilCheck rfl)<|.quiet (.p rfl) rfl (fun _=>.fieldAddr jj rfl)<|af.xX rfl aa (fun _ hw=>eT hw) jh rfl rfl bq ai yJ ?_;replace hg:=fq;replace hR:=fp
     try replace ha:=nF
     try replace fN:=DQ
     try replace gO:=D9
     try replace gZ:=Dj
     try replace g_:=Dk
     try replace hM:=Dl
     try replace ea:=Ds
     clear fq fp;refine S.inBlock<|S.region rfl<|O.op (.p rfl) (.add rfl rfl (IntWalk.i64_in _ ah))<|O.q 1 rfl<|O.nil<|S.jr (T:=ag.cells 8) (e:=220) (v' :=.slice kD (zs++[ys[i]]).length kE) (xs' :=p.2++[[.string (str ys[i].1),.int .i64 ys[i].2.1,.int .i64 ys[i].2.2.1,.slice mo ys[i].2.2.2.1.length mu,.bool ys[i].2.2.2.2.1,.slice mq ys[i].2.2.2.2.2.1.length mv,.slice mr ys[i].2.2.2.2.2.2.1.length mw,.slice ei (b9 ys[i]).length ej]]) ai (by simp [eb]) sO ?_;refine S.c7 (b:=b) (cs' :=[.slice kD (zs++[ys[i]]).length kE]) ai (by simp [eb]) ?_;refine S.conv (B:=av ag.u8 5 (.slice ei (b9 ys[i]).length ej) (b9 ys[i])) (C:=lP r 5 [.string (str ys[i].1),.int .i64 ys[i].2.1,.int .i64 ys[i].2.2.1,.slice mo ys[i].2.2.2.1.length mu,.bool ys[i].2.2.2.2.1,.slice mq ys[i].2.2.2.2.2.1.length mv,.slice mr ys[i].2.2.2.2.2.2.1.length mw,.slice ei (b9 ys[i]).length ej] ys[i]) ai (fun m x=>⟨m,Fr.bU _,[.string (str ys[i].1),.int .i64 ys[i].2.1,.int .i64 ys[i].2.2.1,.slice mo ys[i].2.2.2.1.length mu,.bool ys[i].2.2.2.2.1,.slice mq ys[i].2.2.2.2.2.1.length mv,.slice mr ys[i].2.2.2.2.2.2.1.length mw],ei,ej,rfl,Ej,x⟩) ?_
     refine S.each (A:=lP r 5) (bs:=p.2) (b:=[.string (str ys[i].1),.int .i64 ys[i].2.1,.int .i64 ys[i].2.2.1,.slice mo ys[i].2.2.2.1.length mu,.bool ys[i].2.2.2.2.1,.slice mq ys[i].2.2.2.2.2.1.length mv,.slice mr ys[i].2.2.2.2.2.2.1.length mw,.slice ei (b9 ys[i]).length ej]) (a:=ys[i]) ai ai ?_;refine S.cB (A:=ff r tR 220 5 b (zs++[ys[i]])) (bs:=[obj b tR [.slice kD (zs++[ys[i]]).length kE],av (ag.cells 8) 220 (.slice kD (zs++[ys[i]]).length kE) (p.2++[[.string (str ys[i].1),.int .i64 ys[i].2.1,.int .i64 ys[i].2.2.1,.slice mo ys[i].2.2.2.1.length mu,.bool ys[i].2.2.2.2.1,.slice mq ys[i].2.2.2.2.2.1.length mv,.slice mr ys[i].2.2.2.2.2.2.1.length mw,.slice ei (b9 ys[i]).length ej]]),b6 (lP r 5) (p.2++[[.string (str ys[i].1),.int .i64 ys[i].2.1,.int .i64 ys[i].2.2.1,.slice mo ys[i].2.2.2.1.length mu,.bool ys[i].2.2.2.2.1,.slice mq ys[i].2.2.2.2.2.1.length mv,.slice mr ys[i].2.2.2.2.2.2.1.length mw,.slice ei (b9 ys[i]).length ej]]) (zs++[ys[i]])]) bf (fun m x=>⟨((kD,kE),p.2++[[.string (str ys[i].1),.int .i64 ys[i].2.1,.int .i64 ys[i].2.2.1,.slice mo ys[i].2.2.2.1.length mu,.bool ys[i].2.2.2.2.1,.slice mq ys[i].2.2.2.2.2.1.length mv,.slice mr ys[i].2.2.2.2.2.2.1.length mw,.slice ei (b9 ys[i]).length ej]]),x⟩) ?_;rw [← htk];exact S.ic aX (S.pw (ih (i+1) (by exact ⟨by omega,oo⟩) ah))
    ·have hno:gP (xs++ys)=false:=Im (by rw [Bool.eq_false_iff];intro q;exact hk ((eU.1 q).2 ah))
     refine S.cW ai fun g hs hm ea=>?_;replace hg:=Fr.aH hg hs;replace hR:=bp hR hm
     try replace ha:=ha.mono hs
     try replace fN:=fN.mono hs
     try replace gO:=gO.mono hs
     try replace gZ:=gZ.mono hs
     try replace g_:=g_.mono hs
     try replace hM:=hM.mono hs
     replace aX:=dH aX hm;clear hs hm;have gC:=hg;have gz:=hR
     try have vr:=ha
     try have zZ:=fN
     try have z8:=gO
     try have zJ:=gZ
     try have zK:=g_
     try have zL:=hM
     try have zO:=ea
     refine S.iD (B:=ff r tR 220 5 b zs) ai fun o_ dN ⟨q5,jQ,jR⟩ gp=>?_;replace hg:=Fr.aH hg dN;replace hR:=iy hR gp
     try replace ha:=ha.mono dN
     try replace fN:=fN.mono dN
     try replace gO:=gO.mono dN
     try replace gZ:=gZ.mono dN
     try replace g_:=g_.mono dN
     try replace hM:=hM.mono dN
     try replace ea:=ea.mono dN
     obtain ⟨oB,qg,i_,px⟩:=ff.read hg jR jQ;refine S.bB (L:=[0,1,2,3,4,5,6,7,8,9,10,11,12,13,14,15,16,17,18,19,20,21,22,23]) bA aa ?_;refine af.q 1 rfl<|.quiet (.p rfl) rfl (fun _=>.eql rfl rfl)<|af.sT 20 rfl (by simp [oC,e]) ?_;refine af.q 2 rfl<|.quiet (.g rfl rfl) rfl (fun _=>.nilCheck rfl)<|.quiet (.g rfl rfl) rfl (fun _=>.fieldAddr jj rfl)<|.quiet (.g rfl rfl) rfl (fun _=>.loadAt jh rfl i_ rfl) ?_;refine .quiet (.g rfl rfl) rfl (fun _=>.len rfl underlying216 rfl)<|.quiet (.g rfl rfl) rfl (fun _=>.eql rfl rfl)<|af.aN 27 rfl (by exact decide_eq_false ah) ?_;refine af.q 2 rfl<|.quiet (.g rfl rfl) rfl (fun _=>.nilCheck rfl)<|.quiet (.g rfl rfl) rfl (fun _=>.fieldAddr jj rfl)<|.quiet (.g rfl rfl) rfl (fun _=>.loadAt jh rfl i_ rfl) ?_;refine af.b8 (.g rfl rfl) underlying216 gF rfl rfl (show _=(((0):Nat):Int) by omega) (by first|assumption|exact aj.mono hg zE|exact aj.left zE|exact aj.left (aj.mono hg zE)) (h:=fun E7 Cj tK tN=>?_);obtain ⟨Rc,Rh,Rl,Rp,Ru,Ry,RC,RG,rfl,Qv,OY⟩:=bK.sh tN;refine .quiet (.g rfl rfl) rfl (fun _=>.fieldAddr rM rfl)<|.quiet (.g rfl rfl) rfl (fun _=>.fieldAddr e3 rfl)<|.quiet (.g rfl rfl) rfl (fun _=>.loadAt bL rfl tK rfl) ?_
     refine .quiet (.g rfl rfl) rfl (fun _=>.fieldAddr e3 rfl)<|.quiet (.g rfl rfl) rfl (fun _=>.loadAt bL rfl ea rfl) ?_;refine .quiet (.g rfl rfl) rfl (fun _=>.kV rfl rfl)<|af.aN 39 rfl (by simp;exact fun q=>hk q.symm) ?_;refine af.q 2 rfl<|af.kS (.p rfl) aa rfl aa rfl rfl (ql _) (fun ch ax w hX hW=>by (obtain ⟨hb,rfl,rfl⟩:=hX;exact hR _ _ w ⟨hno,rfl,rfl⟩ hW.qE)) ?_;rintro _ _ ⟨nG,rfl,rfl⟩
     try simp only [an,aq,au]
     exact absurd nG bI
 ·clear ih
  have hi:i=ys.length:=by omega
  subst hi;rw [List.take_length] at hx2 ⊢;refine S.exit rfl<|S.ev results225 fun w hw=>Holds.end_ hR hw ?_;exact pk ⟨hx2,rfl,rfl⟩
end Go.Proofs.YtojafegjlahajaaGreatDoor
