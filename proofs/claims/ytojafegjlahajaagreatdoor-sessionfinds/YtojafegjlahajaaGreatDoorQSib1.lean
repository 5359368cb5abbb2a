/- Texts of this proof. -/
import Derived.Test.YtojafegjlahajaaGreatDoorQRec2
open Go Go.Sp Go.Proofs.Tryz
set_option maxRecDepth 100000
set_option maxHeartbeats 1000000
attribute [local irreducible] obj Own av
namespace Go.Proofs.YtojafegjlahajaaGreatDoor
def mA (x:aP):List (List UInt8):=[[1],bytesOf x.1,be x.2.1,be x.2.2.1,be x.2.2.2.1.length]
def oZ (l:List dz):List (List UInt8):=(l.map fun d=>[be d.1,be d.2.1]).flatten
theorem N4 (l:List dz) (d:dz):oZ (l++[d])=oZ l++[be d.1,be d.2.1]:=by simp [oZ]
theorem N3 (l:List dz):(oZ l).flatten=o3 l:=by
 induction l with
 |nil=>rfl
 |cons d l ih=>rw [CJ,← ih];simp [oZ]
theorem X1 (x:aP):(mA x++oZ x.2.2.2.1++[[nF x.2.2.2.2.1],bytesOf x.2.2.2.2.2.1]).flatten=jm x:=by
 simp [mA,jm,N3]
theorem Ym {r:Fr} {cs:List Value} {x:aP} (h:cv.rel r cs x) (hs:shaped x=true):ay prog 354 #[.agg cs.toArray] r [] (aL fun v U=>∃ a c,v=.slice a (jm x).length c∧U=[av ag.u8 5 (.slice a (jm x).length c) (jm x)]):=by
 have hb:=yA.1 hs;have hl:=K1 hs;have hdl:=yq hb.2.2.2.1;obtain ⟨v3,v5,v6,rfl,k0,k1,k2,bk,fM,eL⟩:=cv.open h;refine ay.of (n:=60) _ rfl func354 rfl rfl rfl fun g hg R hR=>?_;have h:=h.mono hg;have bk:=bk.mono hg;have fM:=fM.mono hg;have eL:=eL.mono hg;obtain ⟨a3,c3,rfl⟩:=bk.shape;obtain ⟨a5,dS,rfl⟩:=fM.shape;obtain ⟨a6,dH,rfl⟩:=eL.shape;refine S.seq<|S.region rfl<|O.aN (.p rfl) (.box (cs:=[_,_,_,_,_,_,_]) rfl rfl) ?_;rintro _ _ ⟨b1,rfl,rfl⟩;refine O.q 1 rfl<|O.nil<|S.seq<|S.region rfl<|O.aN (.p rfl) (.cA (T:=ag.u8) (ys:=[0]) underlying24 eT aB rfl rfl ⟨rfl,trivial⟩ aB) ?_;rintro _ _ ⟨a7,ir,rfl,rfl⟩;refine O.q 1 rfl<|O.nil<|S.seq<|S.seq<|S.vb (fun (q:Option Addr × Nat)=>True) (fun (q:Option Addr × Nat)=>[(3,.slice q.1 1 q.2)]) [(1,_)] (fun (q:Option Addr × Nat)=>[obj b1 415 [.string (str x.1),.int .i64 x.2.1,.int .i64 x.2.2.1,.slice a3 x.2.2.2.1.length c3,.bool x.2.2.2.2.1,.slice a5 x.2.2.2.2.2.1.length dS,.slice a6 x.2.2.2.2.2.2.1.length dH],av ag.u8 5 (.slice q.1 1 q.2) [nF x.2.2.2.2.1]]) (.cons rfl (.nil)) (fun key=>?_) (fun q hx=>?_)
 ·have bh:=cH (g:=g)
  refine S.region rfl<|O.op (.p rfl) (.aH fG rfl)<|O.op (.p rfl) (.aH vh rfl)<|O.op (.p rfl) (.lo iv) ?_;refine O.nil ?_
  first|refine S.cm rfl (fun h10=>?_) (fun h10=>?_)|refine S.b_ rfl (fun h10=>?_) (fun h10=>?_)
  ·refine S.region rfl<|O.q 1 rfl<|O.aN (.p rfl) (.ox (T:=ag.u8) underlying24 fO rfl rfl (show _=(((0):Nat):Int) by omega) ai oL) ?_
   rintro _ _ ⟨KC,rfl,fL,rfl⟩;refine O.bB rfl (.ru fO rfl fL rfl ai oL (show _=_ by rfl:ag.rel _ _ _ ((1:UInt8)))) ?_;refine O.nil<|S.jd (T:=ag.u8) (xs' :=[nF x.2.2.2.2.1]) ai rfl (by rw [h10];rfl) ?_;refine S.pk ?_ (S.weaken ?_ (key ((a7,ir)) (by trivial)))
   ·repeat (first|exact aS|exact aU|(apply aT;focus (repeat (first|exact aR|apply zt)))|apply aV)
   repeat (first|exact Sub.nil|refine Sub.cons rfl ?_)
  ·refine S.skip<|S.jd (T:=ag.u8) (xs' :=[nF x.2.2.2.2.1]) ai rfl (by rw [h10];rfl) ?_
   refine S.pk ?_ (S.weaken ?_ (key ((a7,ir)) (by trivial)))
   ·repeat (first|exact aS|exact aU|(apply aT;focus (repeat (first|exact aR|apply zt)))|apply aV)
   repeat (first|exact Sub.nil|refine Sub.cons rfl ?_)
 ·refine S.seq<|S.de ai fun g hs hm e8=>?_
  replace hg:=Fr.aI hg hs;replace hR:=bu hR hm
  try replace h:=h.mono hs
  try replace bk:=bk.mono hs
  try replace fM:=fM.mono hs
  try replace eL:=eL.mono hs
  clear hs hm;refine S.FN (L:=[1,2,3,6,7,8,10,11,12,14,15,16,17,0,4,5,9,13,18,19,20]) (fun (s:(Option Addr × Nat) × List Value)=>[(4,.slice s.1.1 s.2.length s.1.2)]) [(1,_),(3,_)] (fun (s:(Option Addr × Nat) × List Value)=>[sX ag.u8 5 s.2 (mA x),av ag.val 24 (.slice s.1.1 s.2.length s.1.2) s.2,av ag.u8 5 (.slice q.1 1 q.2) [nF x.2.2.2.2.1]]) (.cons rfl (.cons rfl (.nil))) bz aa (fun kk key=>?_) (fun s=>?_)
  ·refine .quiet (.p rfl) rfl (fun _=>.fieldAddr fG rfl)<|.quiet (.p rfl) rfl (fun _=>.fieldAddr e6 rfl)<|.quiet (.p rfl) rfl (fun _=>.loadAt bQ rfl e8 rfl) ?_
   refine .quiet (.p rfl) rfl (fun _=>.fieldAddr fG rfl)<|.quiet (.p rfl) rfl (fun _=>.fieldAddr vf rfl)<|.quiet (.p rfl) rfl (fun _=>.loadAt cz rfl (e8.drop 1) rfl) ?_;refine .quiet (.p rfl) rfl (fun _=>.fieldAddr fG rfl)<|.quiet (.p rfl) rfl (fun _=>.fieldAddr vg rfl)<|.quiet (.p rfl) rfl (fun _=>.loadAt cz rfl (e8.drop 2) rfl) ?_;refine .quiet (.p rfl) rfl (fun _=>.fieldAddr fG rfl)<|.quiet (.p rfl) rfl (fun _=>.fieldAddr fF rfl)<|.quiet (.p rfl) rfl (fun _=>.loadAt eU rfl (e8.drop 3) rfl) ?_;refine .quiet (.p rfl) rfl (fun _=>.len rfl underlying100 rfl)<|af.e4 0 4 [4,5,9,13,18,19,20] [0,5,9,13,18,19,20] aa rfl rfl ?_ ?_
   ·refine bT.cA (T:=ag.u8) (ys:=[1]) (.p rfl) aa underlying24 eT aB rfl rfl ⟨rfl,trivial⟩ aB (fun iM iQ=>?_)
    refine af.pS (.p rfl) aa underlying9 underlying24 underlying5 rfl (by first|assumption|omega|(simp;done)|(simp;omega)) (fun a17 qw=>?_);refine af.c4 (.p rfl) aa rfl aa rfl rfl (bs:=[av ag.u8 5 (.slice a17 x.1.length qw) x.1]) aW (fun m hm hd=>v_ (hm.arr.right hd) ah) ?_;rintro _ _ ⟨jY,j3,rfl,rfl⟩
    try simp only [an,aq,au]
    refine af.aC (.p rfl) aa rfl aa rfl rfl (ki _) ?_;rintro _ _ ⟨a22,ee,rfl,rfl⟩
    try simp only [an,aq,au]
    refine af.aC (.p rfl) aa rfl aa rfl rfl (ki _) ?_;rintro _ _ ⟨a26,gh,rfl,rfl⟩
    try simp only [an,aq,au]
    refine af.aC (.p rfl) aa rfl aa rfl rfl (ki _) ?_;rintro _ _ ⟨a31,iq,rfl,rfl⟩
    try simp only [an,aq,au]
    refine af.cA (T:=ag.val) (ys:=[_,_,_,_,_]) (.p rfl) aa underlying109 iu aB rfl rfl ⟨⟨rfl,rfl⟩,⟨rfl,rfl⟩,⟨rfl,rfl⟩,⟨rfl,rfl⟩,⟨rfl,rfl⟩,trivial⟩ aB (fun a32 lR=>?_);refine af.q 1 rfl<|aJ.nil<|S.vc (av ag.u8 5) (bs:=[.slice iM 1 iQ,.slice jY (bytesOf x.1).length j3,.slice a22 8 ee,.slice a26 8 gh,.slice a31 8 iq]) (ys:=mA x) aW rfl ?_;refine S.pk ?_ (S.weaken (Sub.app (.cons rfl (.nil)) (.cons rfl (.cons rfl (.nil)))) (key ((a32,lR),[.slice iM 1 iQ,.slice jY (bytesOf x.1).length j3,.slice a22 8 ee,.slice a26 8 gh,.slice a31 8 iq])))
    try dsimp only
    repeat (first|exact aS|exact aU|(apply aT;focus (repeat (first|exact aR|apply zt)))|apply aV)
   ·refine bT.pS (.p rfl) aa underlying9 underlying24 underlying5 rfl (by first|assumption|omega|(simp;done)|(simp;omega)) (fun a17 qw=>?_)
    refine af.e4 0 5 [5,9,13,18,19,20] [0,9,13,18,19,20] aa rfl rfl ?_ ?_
    ·refine bT.cA (T:=ag.u8) (ys:=[1]) (.p rfl) aa underlying24 eT aB rfl rfl ⟨rfl,trivial⟩ aB (fun iM iQ=>?_)
     refine af.c4 (.p rfl) aa rfl aa rfl rfl (bs:=[av ag.u8 5 (.slice a17 x.1.length qw) x.1]) aW (fun m hm hd=>v_ (hm.arr.right hd) ah) ?_;rintro _ _ ⟨jY,j3,rfl,rfl⟩
     try simp only [an,aq,au]
     refine af.aC (.p rfl) aa rfl aa rfl rfl (ki _) ?_;rintro _ _ ⟨a22,ee,rfl,rfl⟩
     try simp only [an,aq,au]
     refine af.aC (.p rfl) aa rfl aa rfl rfl (ki _) ?_;rintro _ _ ⟨a26,gh,rfl,rfl⟩
     try simp only [an,aq,au]
     refine af.aC (.p rfl) aa rfl aa rfl rfl (ki _) ?_;rintro _ _ ⟨a31,iq,rfl,rfl⟩
     try simp only [an,aq,au]
     refine af.cA (T:=ag.val) (ys:=[_,_,_,_,_]) (.p rfl) aa underlying109 iu aB rfl rfl ⟨⟨rfl,rfl⟩,⟨rfl,rfl⟩,⟨rfl,rfl⟩,⟨rfl,rfl⟩,⟨rfl,rfl⟩,trivial⟩ aB (fun a32 lR=>?_);refine af.q 1 rfl<|aJ.nil<|S.vc (av ag.u8 5) (bs:=[.slice iM 1 iQ,.slice jY (bytesOf x.1).length j3,.slice a22 8 ee,.slice a26 8 gh,.slice a31 8 iq]) (ys:=mA x) aW rfl ?_;refine S.pk ?_ (S.weaken (Sub.app (.cons rfl (.nil)) (.cons rfl (.cons rfl (.nil)))) (key ((a32,lR),[.slice iM 1 iQ,.slice jY (bytesOf x.1).length j3,.slice a22 8 ee,.slice a26 8 gh,.slice a31 8 iq])))
     try dsimp only
     repeat (first|exact aS|exact aU|(apply aT;focus (repeat (first|exact aR|apply zt)))|apply aV)
    ·refine bT.c4 (.p rfl) aa rfl aa rfl rfl (bs:=[av ag.u8 5 (.slice a17 x.1.length qw) x.1]) aW (fun m hm hd=>v_ (hm.arr.right hd) ah) ?_
     rintro _ _ ⟨jY,j3,rfl,rfl⟩
     try simp only [an,aq,au]
     refine af.e4 0 9 [9,13,18,19,20] [0,13,18,19,20] aa rfl rfl ?_ ?_
     ·refine bT.cA (T:=ag.u8) (ys:=[1]) (.p rfl) aa underlying24 eT aB rfl rfl ⟨rfl,trivial⟩ aB (fun iM iQ=>?_)
      refine af.aC (.p rfl) aa rfl aa rfl rfl (ki _) ?_;rintro _ _ ⟨a22,ee,rfl,rfl⟩
      try simp only [an,aq,au]
      refine af.aC (.p rfl) aa rfl aa rfl rfl (ki _) ?_;rintro _ _ ⟨a26,gh,rfl,rfl⟩
      try simp only [an,aq,au]
      refine af.aC (.p rfl) aa rfl aa rfl rfl (ki _) ?_;rintro _ _ ⟨a31,iq,rfl,rfl⟩
      try simp only [an,aq,au]
      refine af.cA (T:=ag.val) (ys:=[_,_,_,_,_]) (.p rfl) aa underlying109 iu aB rfl rfl ⟨⟨rfl,rfl⟩,⟨rfl,rfl⟩,⟨rfl,rfl⟩,⟨rfl,rfl⟩,⟨rfl,rfl⟩,trivial⟩ aB (fun a32 lR=>?_);refine af.q 1 rfl<|aJ.nil<|S.vc (av ag.u8 5) (bs:=[.slice iM 1 iQ,.slice jY (bytesOf x.1).length j3,.slice a22 8 ee,.slice a26 8 gh,.slice a31 8 iq]) (ys:=mA x) aW rfl ?_;refine S.pk ?_ (S.weaken (Sub.app (.cons rfl (.nil)) (.cons rfl (.cons rfl (.nil)))) (key ((a32,lR),[.slice iM 1 iQ,.slice jY (bytesOf x.1).length j3,.slice a22 8 ee,.slice a26 8 gh,.slice a31 8 iq])))
      try dsimp only
      repeat (first|exact aS|exact aU|(apply aT;focus (repeat (first|exact aR|apply zt)))|apply aV)
     ·refine bT.aC (.p rfl) aa rfl aa rfl rfl (ki _) ?_
      rintro _ _ ⟨a22,ee,rfl,rfl⟩
      try simp only [an,aq,au]
      refine af.e4 0 13 [13,18,19,20] [0,18,19,20] aa rfl rfl ?_ ?_
      ·refine bT.cA (T:=ag.u8) (ys:=[1]) (.p rfl) aa underlying24 eT aB rfl rfl ⟨rfl,trivial⟩ aB (fun iM iQ=>?_)
       refine af.aC (.p rfl) aa rfl aa rfl rfl (ki _) ?_;rintro _ _ ⟨a26,gh,rfl,rfl⟩
       try simp only [an,aq,au]
       refine af.aC (.p rfl) aa rfl aa rfl rfl (ki _) ?_;rintro _ _ ⟨a31,iq,rfl,rfl⟩
       try simp only [an,aq,au]
       refine af.cA (T:=ag.val) (ys:=[_,_,_,_,_]) (.p rfl) aa underlying109 iu aB rfl rfl ⟨⟨rfl,rfl⟩,⟨rfl,rfl⟩,⟨rfl,rfl⟩,⟨rfl,rfl⟩,⟨rfl,rfl⟩,trivial⟩ aB (fun a32 lR=>?_);refine af.q 1 rfl<|aJ.nil<|S.vc (av ag.u8 5) (bs:=[.slice iM 1 iQ,.slice jY (bytesOf x.1).length j3,.slice a22 8 ee,.slice a26 8 gh,.slice a31 8 iq]) (ys:=mA x) aW rfl ?_;refine S.pk ?_ (S.weaken (Sub.app (.cons rfl (.nil)) (.cons rfl (.cons rfl (.nil)))) (key ((a32,lR),[.slice iM 1 iQ,.slice jY (bytesOf x.1).length j3,.slice a22 8 ee,.slice a26 8 gh,.slice a31 8 iq])))
       try dsimp only
       repeat (first|exact aS|exact aU|(apply aT;focus (repeat (first|exact aR|apply zt)))|apply aV)
      ·refine bT.aC (.p rfl) aa rfl aa rfl rfl (ki _) ?_
       rintro _ _ ⟨a26,gh,rfl,rfl⟩
       try simp only [an,aq,au]
       refine af.e4 0 18 [18,19,20] [0,19,20] aa rfl rfl ?_ ?_
       ·refine bT.cA (T:=ag.u8) (ys:=[1]) (.p rfl) aa underlying24 eT aB rfl rfl ⟨rfl,trivial⟩ aB (fun iM iQ=>?_)
        refine af.aC (.p rfl) aa rfl aa rfl rfl (ki _) ?_;rintro _ _ ⟨a31,iq,rfl,rfl⟩
        try simp only [an,aq,au]
        refine af.cA (T:=ag.val) (ys:=[_,_,_,_,_]) (.p rfl) aa underlying109 iu aB rfl rfl ⟨⟨rfl,rfl⟩,⟨rfl,rfl⟩,⟨rfl,rfl⟩,⟨rfl,rfl⟩,⟨rfl,rfl⟩,trivial⟩ aB (fun a32 lR=>?_);refine af.q 1 rfl<|aJ.nil<|S.vc (av ag.u8 5) (bs:=[.slice iM 1 iQ,.slice jY (bytesOf x.1).length j3,.slice a22 8 ee,.slice a26 8 gh,.slice a31 8 iq]) (ys:=mA x) aW rfl ?_;refine S.pk ?_ (S.weaken (Sub.app (.cons rfl (.nil)) (.cons rfl (.cons rfl (.nil)))) (key ((a32,lR),[.slice iM 1 iQ,.slice jY (bytesOf x.1).length j3,.slice a22 8 ee,.slice a26 8 gh,.slice a31 8 iq])))
        try dsimp only
        repeat (first|exact aS|exact aU|(apply aT;focus (repeat (first|exact aR|apply zt)))|apply aV)
       ·refine bT.aC (.p rfl) aa rfl aa rfl rfl (ki _) ?_
        rintro _ _ ⟨a31,iq,rfl,rfl⟩
        try simp only [an,aq,au]
        refine af.cA (T:=ag.u8) (ys:=[1]) (.p rfl) aa underlying24 eT aB rfl rfl ⟨rfl,trivial⟩ aB (fun iM iQ=>?_);refine af.cA (T:=ag.val) (ys:=[_,_,_,_,_]) (.p rfl) aa underlying109 iu aB rfl rfl ⟨⟨rfl,rfl⟩,⟨rfl,rfl⟩,⟨rfl,rfl⟩,⟨rfl,rfl⟩,⟨rfl,rfl⟩,trivial⟩ aB (fun a32 lR=>?_);refine af.q 1 rfl<|aJ.nil<|S.vc (av ag.u8 5) (bs:=[.slice iM 1 iQ,.slice jY (bytesOf x.1).length j3,.slice a22 8 ee,.slice a26 8 gh,.slice a31 8 iq]) (ys:=mA x) aW rfl ?_;refine S.pk ?_ (S.weaken (Sub.app (.cons rfl (.nil)) (.cons rfl (.cons rfl (.nil)))) (key ((a32,lR),[.slice iM 1 iQ,.slice jY (bytesOf x.1).length j3,.slice a22 8 ee,.slice a26 8 gh,.slice a31 8 iq])))
        try dsimp only
        repeat (first|exact aS|exact aU|(apply aT;focus (repeat (first|exact aR|apply zt)))|apply aV)
  refine S.lV (B:=sX ag.u8 5 s.2 (mA x)) ai (fun _ z=>bX.len z) fun hs5=>?_;refine S.seq<|S.seq<|S.region rfl<|O.op (.p rfl) (.fieldAddr fG rfl)<|O.op (.p rfl) (.fieldAddr fF rfl)<|O.op (.p rfl) (.loadAt eU rfl (e8.drop 3) rfl) ?_;refine O.op (.p rfl) (.len rfl underlying100 rfl)<|O.q 1 rfl<|O.nil<|S.block<|S.jO (ι:=Nat) (dJ:=(Option Addr × Nat) × List Value) (fun i p=>i≤x.2.2.2.1.length∧p.2.length=5+2*i) (fun i p=>[(37,.int .i64 (i:Int)),(4,.slice p.1.1 p.2.length p.1.2)]) [(1,_),(3,_),(35,_),(36,_)] (fun i p=>[sX ag.u8 5 p.2 (mA x++oZ (x.2.2.2.1.take i)),av ag.val 24 (.slice p.1.1 p.2.length p.1.2) p.2,av ag.u8 5 (.slice q.1 1 q.2) [nF x.2.2.2.2.1]]) (fun i p=>x.2.2.2.1.length - i) (0) (s) (by exact ⟨by simp,hs5⟩) (.cons rfl (.cons rfl (.nil))) (.cons rfl (.cons rfl (.cons rfl (.cons rfl (.nil))))) rfl fun i p hx ih=>?_;have bh:=cH (g:=g);obtain ⟨hx1,hx2⟩:=hx;refine S.seq<|S.region rfl<|O.op (.p rfl) (.lss rfl rfl)<|O.nil (S.seq ?_)
  first|refine S.cm rfl (fun tu=>?_) (fun tu=>?_)|refine S.b_ rfl (fun tu=>?_) (fun tu=>?_)
  ·have hi:i<x.2.2.2.1.length:=by omega
   have hrow:mA x++oZ (x.2.2.2.1.take i)++[be x.2.2.2.1[i].1]++[be x.2.2.2.1[i].2.1]=mA x++oZ (x.2.2.2.1.take (i+1)):=by rw [List.take_succ_eq_append_getElem hi,N4];simp
   refine S.skip<|S.seq<|S.block<|S.seq<|S.region rfl<|O.bR (.p rfl) underlying100 oG rfl rfl rfl (by first|assumption|exact aj.mono hg zE|exact aj.left zE|exact aj.left (aj.mono hg zE)) (h:=fun aa3 Y1 Eb Ez=>?_);obtain ⟨rfl,ZL,ZQ⟩:=c_.open Ez;refine O.op (.p rfl) (.bE isAgg191 aa rfl Eb) ?_;refine O.aN (.p rfl) (.alloc (cs:=[.int .i64 0,.int .i64 0]) zeroValue191 rfl) ?_;rintro _ _ ⟨fU,rfl,rfl⟩;refine O.bB rfl (.c9 aa rfl rfl rfl rfl ai aX) ?_;refine O.nil<|S.de ai fun g hs hm IS=>?_;replace hg:=Fr.aI hg hs;replace hR:=bu hR hm
   try replace h:=h.mono hs
   try replace bk:=bk.mono hs
   try replace fM:=fM.mono hs
   try replace eL:=eL.mono hs
   try replace e8:=e8.mono hs
   try replace Eb:=Eb.mono hs
   try replace Ez:=Ez.mono hs
   replace bh:=dQ bh hm;clear hs hm;refine S.bC (L:=[0,1,2,4,5,3,6,7,8,9]) bz aa ?_;refine af.q 1 rfl<|.quiet (.p rfl) rfl (fun _=>.fieldAddr tq rfl)<|.quiet (.p rfl) rfl (fun _=>.loadAt cz rfl IS rfl) ?_;refine .quiet (.p rfl) rfl (fun _=>.fieldAddr wW rfl)<|.quiet (.p rfl) rfl (fun _=>.loadAt cz rfl (IS.drop 1) rfl) ?_;refine af.aC (.p rfl) aa rfl aa rfl rfl (ki _) ?_;rintro _ _ ⟨a44,Ch,rfl,rfl⟩
   try simp only [an,aq,au]
   refine af.aC (.p rfl) aa rfl aa rfl rfl (ki _) ?_;rintro _ _ ⟨wB,wK,rfl,rfl⟩
   try simp only [an,aq,au]
   refine af.cA (T:=ag.val) (ys:=[_,_]) (.p rfl) aa underlying109 iu aB rfl rfl ⟨⟨rfl,rfl⟩,⟨rfl,rfl⟩,trivial⟩ aB (fun rE rJ=>?_);refine af.gN (.p rfl) aa (T:=ag.val) underlying109 iu aB rfl rfl ai ai bD bD (fun a49 u6=>?_);refine af.q 1 rfl<|aJ.nil<|S.inBlock<|S.region rfl<|O.op (.p rfl) (.add rfl rfl (IntWalk.i64_in _ ah))<|O.q 1 rfl<|O.nil<|S.each (A:=av ag.u8 5) (bs:=p.2) (b:=.slice a44 8 Ch) (a:=be x.2.2.2.1[i].1) ai ai ?_;refine S.each (A:=av ag.u8 5) (bs:=p.2++[.slice a44 8 Ch]) (b:=.slice wB 8 wK) (a:=be x.2.2.2.1[i].2.1) ai ai ?_;rw [hrow,List.append_assoc,← List.length_append];exact S.iA bh (S.pw (ih (i+1) (((a49,u6),p.2++[.slice a44 8 Ch,.slice wB 8 wK])) (by exact ⟨by omega,by simp;omega⟩) ah))
  ·clear ih
   have hi:i=x.2.2.2.1.length:=by omega
   subst hi;rw [List.take_length];have hrow:mA x++oZ x.2.2.2.1++[[nF x.2.2.2.2.1]]++[bytesOf x.2.2.2.2.2.1]=mA x++oZ x.2.2.2.1++[[nF x.2.2.2.2.1],bytesOf x.2.2.2.2.2.1]:=by simp
   have hfl:=X1 x;refine S.exit rfl<|S.seq<|S.region rfl<|O.q 2 rfl<|O.op (.p rfl) (.fieldAddr fG rfl)<|O.op (.p rfl) (.fieldAddr gj rfl)<|O.op (.p rfl) (.loadAt bl rfl (e8.drop 5) rfl) ?_;refine O.aC (.p rfl) rfl aa rfl rfl (v_ (by first|assumption|exact aj.mono hg zE|exact aj.left zE|exact aj.left (aj.mono hg zE)) bD) ?_;rintro _ _ ⟨Mt,Na,rfl,rfl⟩
   try simp only [an,aq,au]
   refine O.aN (.p rfl) (.cA (T:=ag.val) (ys:=[_,_]) underlying109 iu aB rfl rfl ⟨⟨rfl,rfl⟩,⟨rfl,rfl⟩,trivial⟩ aB) ?_;rintro _ _ ⟨a57,Nb,rfl,rfl⟩;refine O.aN (.p rfl) (.gN (T:=ag.val) underlying109 iu aB rfl rfl ai ai bD bD) ?_;rintro _ _ ⟨a58,wL,rfl,rfl⟩;refine O.each (A:=av ag.u8 5) (bs:=p.2) (b:=.slice q.1 1 q.2) (a:=[nF x.2.2.2.2.1]) ai ai ?_;refine O.each (A:=av ag.u8 5) (bs:=p.2++[.slice q.1 1 q.2]) (b:=.slice Mt (bytesOf x.2.2.2.2.2.1).length Na) (a:=bytesOf x.2.2.2.2.2.1) ai ai ?_;rw [hrow,List.append_assoc];refine O.OE ai ai fun g hs hm hall=>?_;replace hg:=Fr.aI hg hs;replace hR:=bu hR hm
   try replace h:=h.mono hs
   try replace bk:=bk.mono hs
   try replace fM:=fM.mono hs
   try replace eL:=eL.mono hs
   try replace e8:=e8.mono hs
   replace bh:=dQ bh hm;clear hs hm;refine O.aC (.p rfl) rfl aa rfl rfl ((Bs hall (by rw [hfl];omega))) ?_;rintro _ _ ⟨a59,Nc,rfl,rfl⟩
   try simp only [an,aq,au]
   refine O.q 1 rfl<|O.nil ?_;rw [hfl];exact S.rt results354 rfl hR ⟨a59,Nc,rfl,rfl⟩
theorem KT {r:Fr} {cs:List Value} {x:aP} (h:cv.rel r cs x):ay prog 328 #[.agg cs.toArray] r [] (aL fun v U=>v=.bool (ej x)∧U=[]):=by
 obtain ⟨iH,pV,oJ,iI,pW,oK,rfl,k0,k1,k2,bk,fM,eL⟩:=cv.sh h;refine ay.of (n:=12) _ rfl func328 rfl rfl rfl fun g hg R hR=>?_;have h:=h.mono hg;have eL:=eL.mono hg
 cases e:shaped x with
 |false =>
  refine S.seq<|S.region rfl<|O.aN (.p rfl) (.box (cs:=[_,_,_,_,_,_,_]) rfl rfl) ?_;rintro _ _ ⟨b1,rfl,rfl⟩;refine O.q 1 rfl<|O.nil<|S.seq<|S.region rfl<|O.op (.p rfl) (.gZ (news:=[_,_,_,_,_,_,_]) isAgg102) ?_;refine O.op (.p rfl) (.build (cs:=[_,_,_,_,_,_,_]) underlying415 rfl rfl rfl rfl rfl)<|O.aC (.p rfl) rfl aa rfl rfl (sN h) ?_;rintro _ _ ⟨rfl,rfl⟩
  try simp only [an,aq,au]
  refine O.aM 5 rfl (by exact e) ?_;refine O.q 7 rfl<|O.nil ?_;exact S.rt results328 rfl hR ⟨by simp [ej,e],rfl⟩
 |true =>
  refine S.seq<|S.region rfl<|O.aN (.p rfl) (.box (cs:=[_,_,_,_,_,_,_]) rfl rfl) ?_;rintro _ _ ⟨b1,rfl,rfl⟩;refine O.q 1 rfl<|O.nil<|S.seq<|S.region rfl<|O.op (.p rfl) (.gZ (news:=[_,_,_,_,_,_,_]) isAgg102) ?_;refine O.op (.p rfl) (.build (cs:=[_,_,_,_,_,_,_]) underlying415 rfl rfl rfl rfl rfl)<|O.aC (.p rfl) rfl aa rfl rfl (sN h) ?_;rintro _ _ ⟨rfl,rfl⟩
  try simp only [an,aq,au]
  refine O.sT 5 rfl (by exact e) ?_;refine O.q 1 rfl<|O.op (.g rfl rfl) (.aH iS rfl)<|O.op (.g rfl rfl) (.lo bl) ?_;refine O.op (.g rfl rfl) (.len rfl underlying24 rfl)<|O.op (.g rfl rfl) (.eql rfl rfl)<|O.q 2 rfl<|O.nil ?_;exact S.rt results328 rfl hR ⟨by simp [ej,e];omega,rfl⟩
theorem Vh {r:Fr} {cs:List Value} {x:aP} (h:cv.rel r cs x) (hs:shaped x=true):ay prog 329 #[.agg cs.toArray] r [] (aL fun v U=>∃ a c,v=.slice a (jm x).length c∧U=[av ag.u8 5 (.slice a (jm x).length c) (jm x)]):=by
 obtain ⟨iH,pV,oJ,iI,pW,oK,rfl,k0,k1,k2,bk,fM,eL⟩:=cv.sh h;refine ay.of (n:=11) _ rfl func329 rfl rfl rfl fun g hg R hR=>?_;have h:=h.mono hg;refine S.seq<|S.region rfl<|O.aN (.p rfl) (.box (cs:=[_,_,_,_,_,_,_]) rfl rfl) ?_;rintro _ _ ⟨b1,rfl,rfl⟩;refine O.q 1 rfl<|O.nil<|S.seq<|S.region rfl<|O.op (.p rfl) (.gZ (news:=[_,_,_,_,_,_,_]) isAgg102) ?_;refine O.op (.p rfl) (.build (cs:=[_,_,_,_,_,_,_]) underlying415 rfl rfl rfl rfl rfl)<|O.aN (.p rfl) (.alloc (cs:=[.string ⟨#[]⟩,.int .i64 0,.int .i64 0,.slice none 0 0,.bool false,.slice none 0 0,.slice none 0 0]) zeroValue415 rfl) ?_;rintro _ _ ⟨b3,rfl,rfl⟩;refine O.bB rfl (.c9 aa rfl rfl rfl rfl ai aX) ?_;refine O.nil<|S.seq<|S.seq<|S.region rfl<|O.op (.p rfl) (.gZ (news:=[_,_,_,_,_,_,_]) isAgg415) ?_;refine O.aC (.p rfl) rfl aa rfl rfl (sN h) ?_;rintro _ _ ⟨rfl,rfl⟩
 try simp only [an,aq,au]
 refine O.sT 7 rfl (by exact hs) ?_;refine O.op (.p rfl) (.not rfl)<|O.nil<|S.aQ rfl<|S.skip<|S.seq<|S.region rfl<|O.op (.p rfl) (.gZ (news:=[_,_,_,_,_,_,_]) isAgg415) ?_;refine O.aC (.p rfl) rfl aa rfl rfl (Ym (by first|assumption|exact ag.rel.mono zE hg) zE) ?_;rintro _ _ ⟨oO,oU,rfl,rfl⟩
 try simp only [an,aq,au]
 refine O.q 1 rfl<|O.nil ?_;exact S.rt results329 rfl hR ⟨oO,oU,rfl,rfl⟩
def mw (x:aP):List UInt8:=if ej x then cn x else []
def oE (x:aP):Int:=if ej x then 0 else 4
theorem KS {r:Fr} {cs:List Value} {x:aP} (h:cv.rel r cs x):ay prog 292 #[.agg cs.toArray] r [] (aL fun v U=>∃ a c,v=.tuple #[.slice a (mw x).length c,.int .i64 (oE x)]∧U=[av ag.u8 5 (.slice a (mw x).length c) (mw x)]):=by
 obtain ⟨iH,pV,oJ,iI,pW,oK,rfl,k0,k1,k2,bk,fM,eL⟩:=cv.sh h;refine ay.of (n:=13) _ rfl func292 rfl rfl rfl fun g hg R hR=>?_;have h:=h.mono hg;have eL:=eL.mono hg
 cases e:ej x with
 |false =>
  have e1:mw x=[]:=by simp [mw,e]
  have e2:oE x=4:=by simp [oE,e]
  rw [e1,e2] at hR;refine S.seq<|S.region rfl<|O.aN (.p rfl) (.box (cs:=[_,_,_,_,_,_,_]) rfl rfl) ?_;rintro _ _ ⟨b1,rfl,rfl⟩;refine O.q 2 rfl<|O.nil<|S.seq<|S.seq<|S.region rfl<|O.op (.p rfl) (.gZ (news:=[_,_,_,_,_,_,_]) isAgg102) ?_;refine O.aC (.p rfl) rfl aa rfl rfl (KT h) ?_;rintro _ _ ⟨rfl,rfl⟩
  try simp only [an,aq,au]
  refine O.aM 5 rfl (by exact e) ?_;refine O.op (.p rfl) (.not rfl)<|O.nil<|S.bx rfl<|S.seq<|S.region rfl<|O.q 2 rfl<|O.nil<|S.gd (T:=ag.u8) (e:=5) ?_;refine S.mW results292 rfl rfl fun w hw=>Holds.end_ hR hw ?_;exact pk ⟨none,0,rfl,rfl⟩
 |true =>
  have e1:mw x=cn x:=by simp [mw,e]
  have e2:oE x=0:=by simp [oE,e]
  have hl:=A0 e;obtain ⟨hs,hs2⟩:=vW.1 e;have hfl:[jm x,x.2.2.2.2.2.2.1].flatten=cn x:=by simp [cn]
  rw [e1,e2] at hR;refine S.seq<|S.region rfl<|O.aN (.p rfl) (.box (cs:=[_,_,_,_,_,_,_]) rfl rfl) ?_;rintro _ _ ⟨b1,rfl,rfl⟩;refine O.q 2 rfl<|O.nil<|S.seq<|S.seq<|S.region rfl<|O.op (.p rfl) (.gZ (news:=[_,_,_,_,_,_,_]) isAgg102) ?_;refine O.aC (.p rfl) rfl aa rfl rfl (KT h) ?_;rintro _ _ ⟨rfl,rfl⟩
  try simp only [an,aq,au]
  refine O.sT 5 rfl (by exact e) ?_;refine O.op (.p rfl) (.not rfl)<|O.nil<|S.aQ rfl<|S.skip<|S.seq<|S.de ai fun g hs hm e8=>?_;replace hg:=Fr.aI hg hs;replace hR:=bu hR hm
  try replace h:=h.mono hs
  try replace eL:=eL.mono hs
  clear hs hm;refine S.bC (L:=[0,2,3,1,4,5,6,7]) bz aa ?_;refine .quiet (.p rfl) rfl (fun _=>.bE isAgg102 aa rfl e8) ?_;refine .quiet (.p rfl) rfl (fun _=>.fieldAddr iS rfl)<|.quiet (.p rfl) rfl (fun _=>.loadAt bl rfl (e8.drop 6) rfl) ?_;refine af.aC (.p rfl) aa rfl aa rfl rfl (Vh (by first|assumption|exact ag.rel.mono zE hg) zE) ?_;rintro _ _ ⟨a8,ob,rfl,rfl⟩
  try simp only [an,aq,au]
  refine af.cA (T:=ag.val) (ys:=[_,_]) (.p rfl) aa underlying109 iu aB rfl rfl ⟨⟨rfl,rfl⟩,⟨rfl,rfl⟩,trivial⟩ aB (fun k8 n_=>?_);refine af.c4 (.p rfl) aa rfl aa rfl rfl (bs:=[av ag.val 24 (.slice k8 2 n_) [.slice a8 (jm x).length ob,.slice oJ x.2.2.2.2.2.2.1.length oK],av ag.u8 5 (.slice a8 (jm x).length ob) (jm x)]) aW (fun m hm hd=>Bs (xss:=[jm x,x.2.2.2.2.2.2.1]) ((hm.arr.right hd).rows ⟨hm.tail.arr.right hd,eL.left,trivial⟩) (by rw [hfl];omega)) ?_;rintro _ _ ⟨a12,jI,rfl,rfl⟩
  try simp only [an,aq,au]
  refine af.q 2 rfl<|aJ.nil ?_;rw [hfl];refine S.mW results292 rfl rfl fun w hw=>Holds.end_ hR hw ?_;exact pk ⟨a12,jI,rfl,rfl⟩
theorem Vg {r:Fr} {cs ds:List Value} {x y:aP} (h:cv.rel r cs x) (h' :cv.rel r ds y):ay prog 297 #[.agg cs.toArray,.agg ds.toArray] r [] (aL fun v U=>v=.bool (over x y)∧U=[]):=by
 obtain ⟨iH,pV,oJ,iI,pW,oK,rfl,k0,k1,k2,bk,fM,eL⟩:=cv.sh h;obtain ⟨uH,uI,uJ,uK,uL,uM,rfl,l0,l1,l2,l3,JI,Ap⟩:=cv.sh h';refine ay.of (n:=31) _ rfl func297 rfl rfl rfl fun g hg R hR=>?_;have h:=h.mono hg;have h' :=h'.mono hg;have bk:=bk.mono hg;refine S.seq<|S.region rfl<|O.aN (.p rfl) (.box (cs:=[_,_,_,_,_,_,_]) rfl rfl) ?_;rintro _ _ ⟨b2,rfl,rfl⟩;refine O.aN (.p rfl) (.box (cs:=[_,_,_,_,_,_,_]) rfl rfl) ?_;rintro _ _ ⟨b3,rfl,rfl⟩;refine O.q 1 rfl<|O.nil<|S.seq<|S.de ai fun g hs hm e7=>?_;replace hg:=Fr.aI hg hs;replace hR:=bu hR hm
 try replace h:=h.mono hs
 try replace h' :=h'.mono hs
 try replace bk:=bk.mono hs
 clear hs hm;refine S.de ai fun g hs hm ix=>?_;replace hg:=Fr.aI hg hs;replace hR:=bu hR hm
 try replace h:=h.mono hs
 try replace h' :=h'.mono hs
 try replace bk:=bk.mono hs
 try replace e7:=e7.mono hs
 clear hs hm;refine S.bC (L:=[0,1,2,3,4,5,6,7]) bz aa ?_;refine .quiet (.p rfl) rfl (fun _=>.bE isAgg102 aa rfl ix) ?_;refine .quiet (.p rfl) rfl (fun _=>.build (cs:=[_,_,_,_,_,_,_]) underlying415 rfl rfl rfl rfl rfl)<|.quiet (.p rfl) rfl (fun _=>.bE isAgg102 aa rfl e7) ?_;refine .quiet (.p rfl) rfl (fun _=>.build (cs:=[_,_,_,_,_,_,_]) underlying415 rfl rfl rfl rfl rfl)<|.lazy rfl aa rfl fun iN=>?_;refine .lazy rfl aa rfl fun fU=>?_;refine af.c9 rfl aa aa rfl rfl rfl rfl ai aX ?_;refine af.c9 rfl aa aa rfl rfl rfl rfl ai aX ?_;refine aJ.nil<|S.seq<|S.dx (b:=iN) (cs' :=[.string (str x.1),.int .i64 x.2.1,.int .i64 x.2.2.1,.slice iH x.2.2.2.1.length iI,.bool x.2.2.2.2.1,.slice pV x.2.2.2.2.2.1.length pW,.slice oJ x.2.2.2.2.2.2.1.length oK]) ai rfl ?_;refine S.dx (b:=fU) (cs' :=[.string (str y.1),.int .i64 y.2.1,.int .i64 y.2.2.1,.slice uH y.2.2.2.1.length uK,.bool y.2.2.2.2.1,.slice uI y.2.2.2.2.2.1.length uL,.slice uJ y.2.2.2.2.2.2.1.length uM]) ai rfl ?_;refine S.de ai fun g hs hm eb=>?_;replace hg:=Fr.aI hg hs;replace hR:=bu hR hm
 try replace h:=h.mono hs
 try replace h' :=h'.mono hs
 try replace bk:=bk.mono hs
 try replace e7:=e7.mono hs
 try replace ix:=ix.mono hs
 clear hs hm;refine S.de ai fun g hs hm zU=>?_;replace hg:=Fr.aI hg hs;replace hR:=bu hR hm
 try replace h:=h.mono hs
 try replace h' :=h'.mono hs
 try replace bk:=bk.mono hs
 try replace e7:=e7.mono hs
 try replace ix:=ix.mono hs
 try replace eb:=eb.mono hs
 clear hs hm
 by_cases e1:x.1=y.1
 ·cases e2:shaped x with
  |false =>
   refine S.bC (L:=[0,1,2,3,4,5,6,7,8,9,10,11,12,13,14,15,16,17,18,19,20]) bz aa ?_;refine .quiet (.p rfl) rfl (fun _=>.fieldAddr e6 rfl)<|.quiet (.p rfl) rfl (fun _=>.loadAt bQ rfl ix rfl) ?_;refine .quiet (.p rfl) rfl (fun _=>.fieldAddr e6 rfl)<|.quiet (.p rfl) rfl (fun _=>.loadAt bQ rfl e7 rfl) ?_;refine .quiet (.p rfl) rfl (fun _=>.kU rfl rfl)<|af.sT 15 rfl (by simp [e1]) ?_;refine af.q 1 rfl<|.quiet (.g rfl rfl) rfl (fun _=>.bE isAgg415 aa rfl zU) ?_;refine af.aC (.g rfl rfl) aa rfl aa rfl rfl (sN h) ?_;rintro _ _ ⟨rfl,rfl⟩
   try simp only [an,aq,au]
   refine af.aM 18 rfl (by exact e2) ?_;refine af.q 13 rfl<|aJ.nil ?_;exact S.rt results297 rfl hR ⟨by simp [over,e2],rfl⟩
  |true =>
   cases ck:shaped y with
   |false =>
    refine S.bC (L:=[0,1,2,3,4,5,6,7,8,9,10,11,12,13,14,15,16,17,18,19,20]) bz aa ?_;refine .quiet (.p rfl) rfl (fun _=>.fieldAddr e6 rfl)<|.quiet (.p rfl) rfl (fun _=>.loadAt bQ rfl ix rfl) ?_;refine .quiet (.p rfl) rfl (fun _=>.fieldAddr e6 rfl)<|.quiet (.p rfl) rfl (fun _=>.loadAt bQ rfl e7 rfl) ?_;refine .quiet (.p rfl) rfl (fun _=>.kU rfl rfl)<|af.sT 15 rfl (by simp [e1]) ?_;refine af.q 1 rfl<|.quiet (.g rfl rfl) rfl (fun _=>.bE isAgg415 aa rfl zU) ?_;refine af.aC (.g rfl rfl) aa rfl aa rfl rfl (sN h) ?_;rintro _ _ ⟨rfl,rfl⟩
    try simp only [an,aq,au]
    refine af.sT 18 rfl (by exact e2) ?_;refine af.q 2 rfl<|.quiet (.g rfl rfl) rfl (fun _=>.bE isAgg415 aa rfl eb) ?_;refine af.aC (.g rfl rfl) aa rfl aa rfl rfl (sN h') ?_;rintro _ _ ⟨rfl,rfl⟩
    try simp only [an,aq,au]
    refine af.aM 22 rfl (by exact ck) ?_;refine af.q 9 rfl<|aJ.nil ?_;exact S.rt results297 rfl hR ⟨by simp [over,ck],rfl⟩
   |true =>
    refine S.bC (L:=[0,1,2,3,4,5,6,7,8,9,10,11,12,13,14,15,16,17,18,19,20]) bz aa ?_;refine .quiet (.p rfl) rfl (fun _=>.fieldAddr e6 rfl)<|.quiet (.p rfl) rfl (fun _=>.loadAt bQ rfl ix rfl) ?_;refine .quiet (.p rfl) rfl (fun _=>.fieldAddr e6 rfl)<|.quiet (.p rfl) rfl (fun _=>.loadAt bQ rfl e7 rfl) ?_;refine .quiet (.p rfl) rfl (fun _=>.kU rfl rfl)<|af.sT 15 rfl (by simp [e1]) ?_;refine af.q 1 rfl<|.quiet (.g rfl rfl) rfl (fun _=>.bE isAgg415 aa rfl zU) ?_;refine af.aC (.g rfl rfl) aa rfl aa rfl rfl (sN h) ?_;rintro _ _ ⟨rfl,rfl⟩
    try simp only [an,aq,au]
    refine af.sT 18 rfl (by exact e2) ?_;refine af.q 2 rfl<|.quiet (.g rfl rfl) rfl (fun _=>.bE isAgg415 aa rfl eb) ?_;refine af.aC (.g rfl rfl) aa rfl aa rfl rfl (sN h') ?_;rintro _ _ ⟨rfl,rfl⟩
    try simp only [an,aq,au]
    refine af.sT 22 rfl (by exact ck) ?_;refine af.q 2 rfl<|.quiet (.g rfl rfl) rfl (fun _=>.fieldAddr fF rfl)<|.quiet (.g rfl rfl) rfl (fun _=>.loadAt eU rfl (ix.drop 3) rfl) ?_;refine .quiet (.g rfl rfl) rfl (fun _=>.bE isAgg415 aa rfl eb) ?_;refine af.aC (.g rfl rfl) aa rfl aa rfl rfl (uE h') ?_;rintro _ _ ⟨rfl,rfl⟩
    try simp only [an,aq,au]
    refine af.aC (.g rfl rfl) aa rfl aa rfl rfl (Gi (iE y) rfl bk) ?_;rintro _ _ ⟨rfl,rfl⟩
    try simp only [an,aq,au]
    refine af.q 2 rfl<|aJ.nil ?_;exact S.rt results297 rfl hR ⟨by simp [over,e1,e2,ck],rfl⟩
 ·
  refine S.bC (L:=[0,1,2,3,4,5,6,7,8,9,10,11,12,13,14,15,16,17,18,19,20]) bz aa ?_;refine .quiet (.p rfl) rfl (fun _=>.fieldAddr e6 rfl)<|.quiet (.p rfl) rfl (fun _=>.loadAt bQ rfl ix rfl) ?_;refine .quiet (.p rfl) rfl (fun _=>.fieldAddr e6 rfl)<|.quiet (.p rfl) rfl (fun _=>.loadAt bQ rfl e7 rfl) ?_;refine .quiet (.p rfl) rfl (fun _=>.kU rfl rfl)<|af.aM 15 rfl (by simp [e1]) ?_;refine af.q 16 rfl<|aJ.nil ?_;exact S.rt results297 rfl hR ⟨by simp [over,e1],rfl⟩
def F0:List PanicEntry:=[{ v:=.iface 44 (.int .i64 4),recovered:=false }]
theorem qj {r:Fr} (b:Bool):ay prog 226 #[.bool b] r [] (eN (fun v U=>b=true∧v=.tuple #[]∧U=[]) (fun ch U=>b=false∧ch=F0∧U=[])):=by
 refine ay.of (n:=5) _ rfl func226 rfl rfl rfl fun g hg R hR=>?_;refine S.seq<|S.region rfl<|O.q 1 rfl<|O.op (.p rfl) ((by first|exact .mg rfl|exact .not rfl)) ?_;refine O.nil ?_
 first|refine S.cm rfl (fun h3=>?_) (fun h3=>?_)|refine S.b_ rfl (fun h3=>?_) (fun h3=>?_)
 ·refine S.region rfl<|O.op (.p rfl) (.J7 underlying44 rfl)<|O.panic rfl rfl (fun w hw=>?_)
  exact hR _ [] w ⟨by simpa using h3,rfl,rfl⟩ hw
 ·refine S.skip<|S.ez results226 fun w hw=>hR _ _ w ?_ hw
  exact ⟨by simpa using h3,rfl,rfl⟩
theorem uz {r:Fr} {cs ds:List Value} {x y:aP} (h:bO.rel r cs x) (h' :bO.rel r ds y):ay prog 227 #[.agg cs.toArray,.agg ds.toArray] r [] (aL fun v U=>v=.int .i64 (dU x y)∧U=[]):=by
 obtain ⟨iH,pV,oJ,Bv,iI,pW,oK,Bx,rfl,_,_⟩:=bO.sh h;obtain ⟨uH,uI,uJ,BA,uK,uL,uM,BB,rfl,_,_⟩:=bO.sh h';refine ay.of (n:=21) _ rfl func227 rfl rfl rfl fun g hg R hR=>?_;have hc1:=Ct x.2.1 y.2.1;have qP:=Ct x.2.2.1 y.2.2.1;refine S.seq<|S.region rfl<|O.aN (.p rfl) (.box (cs:=[_,_,_,_,_,_,_,_]) rfl rfl) ?_;rintro _ _ ⟨b2,rfl,rfl⟩;refine O.aN (.p rfl) (.box (cs:=[_,_,_,_,_,_,_,_]) rfl rfl) ?_;rintro _ _ ⟨b3,rfl,rfl⟩;refine O.q 1 rfl<|O.nil<|S.seq<|S.de ai fun g hs hm e7=>?_;replace hg:=Fr.aI hg hs;replace hR:=bu hR hm;clear hs hm;refine S.de ai fun g hs hm ix=>?_;replace hg:=Fr.aI hg hs;replace hR:=bu hR hm
 try replace e7:=e7.mono hs
 clear hs hm;refine S.bC (L:=[0,1,2,3,4,5,7,8,9,10,11,12,6,13,14,15,16]) bz aa ?_;refine .quiet (.p rfl) rfl (fun _=>.fieldAddr rP rfl)<|.quiet (.p rfl) rfl (fun _=>.fieldAddr vf rfl)<|.quiet (.p rfl) rfl (fun _=>.loadAt cz rfl (ix.drop 1) rfl) ?_;refine .quiet (.p rfl) rfl (fun _=>.fieldAddr rP rfl)<|.quiet (.p rfl) rfl (fun _=>.fieldAddr vf rfl)<|.quiet (.p rfl) rfl (fun _=>.loadAt cz rfl (e7.drop 1) rfl) ?_;refine .quiet (.p rfl) rfl (fun _=>.fieldAddr rP rfl)<|.quiet (.p rfl) rfl (fun _=>.fieldAddr vg rfl)<|.quiet (.p rfl) rfl (fun _=>.loadAt cz rfl (ix.drop 2) rfl) ?_;refine .quiet (.p rfl) rfl (fun _=>.fieldAddr rP rfl)<|.quiet (.p rfl) rfl (fun _=>.fieldAddr vg rfl)<|.quiet (.p rfl) rfl (fun _=>.loadAt cz rfl (e7.drop 2) rfl) ?_;refine af.aC (.p rfl) aa rfl aa rfl rfl (Cy _ _) ?_;rintro _ _ ⟨rfl,rfl⟩
 try simp only [an,aq,au]
 refine af.aC (.p rfl) aa rfl aa rfl rfl (Cy _ _) ?_;rintro _ _ ⟨rfl,rfl⟩
 try simp only [an,aq,au]
 refine af.cA (T:=ag.i64) (ys:=[_,_]) (.p rfl) aa underlying104 wT aB rfl rfl ⟨⟨rfl,by first|assumption|(constructor<;>omega)⟩,⟨rfl,by first|assumption|(constructor<;>omega)⟩,trivial⟩ aB (fun yW y8=>?_);refine af.bM (.p rfl) aa rfl aa rfl rfl ai Hw ?_;rintro _ _ ⟨rfl,rfl⟩
 try simp only [an,aq,au]
 refine af.q 1 rfl<|aJ.nil<|S.ret results227 rfl fun w hw=>Holds.end_ hR hw ?_;refine ⟨_,⟨congrArg _ ?_,rfl⟩,by repeat (first|exact aS|exact aU|(apply aT;focus (repeat (first|exact aR|apply zt)))|apply aV)⟩;unfold dU ny ny ny
 split
 ·rfl
 ·split
  ·rfl
  ·rename_i h2;exact (Classical.not_not.1 h2).symm
theorem Lj {r:Fr} {tR:TypeId} {b:Nat} {va:Value} {xs ys:List aP} (ha:aj cv r va ys) (h1:gI xs=true) (hl:xs.length+ys.length≤100000000000) :
  ay prog 225 #[.pointer (some ⟨b,0,none⟩),va] r [ff r tR 220 5 b xs]
   (eN (fun v U=>gI (xs++ys)=true∧v=.tuple #[]∧U=[ff r tR 220 5 b (xs++ys)]) (fun ch U=>gI (xs++ys)=false∧ch=F0∧U=[])):=by
 have pz:=ha;refine ay.of (n:=56) _ rfl func225 rfl rfl rfl fun g hg R hR=>?_;have ha:=ha.mono hg;obtain ⟨a1,c1,rfl⟩:=ha.shape;refine S.seq<|S.region rfl<|O.q 1 rfl<|O.op (.p rfl) (.len rfl underlying22 rfl)<|O.q 1 rfl<|O.nil<|S.block<|S.conv (B:=ff r tR 220 5 b xs) (C:=ff r tR 220 5 b (xs++ys.take 0)) ai (fun m x=>⟨m,Fr.bY _,by rw [List.take_zero,List.append_nil];exact x⟩) ?_;refine S.eM (ι:=Nat) (fun i=>i≤ys.length∧gI (xs++ys.take i)=true) (fun i=>[(10,.int .i64 (i:Int))]) [(0,_),(8,_),(9,_)] (fun i=>[ff r tR 220 5 b (xs++ys.take i)]) (fun i=>ys.length - i) (0) (by exact ⟨by simp,by simpa using h1⟩) (.cons rfl (.nil)) (.cons rfl (.cons rfl (.cons rfl (.nil)))) rfl fun i hx ih=>?_;have bh:=cH (g:=g);obtain ⟨hx1,hx2⟩:=hx;refine S.seq<|S.region rfl<|O.op (.p rfl) (.lss rfl rfl)<|O.nil (S.seq ?_)
 first|refine S.cm rfl (fun h11=>?_) (fun h11=>?_)|refine S.b_ rfl (fun h11=>?_) (fun h11=>?_)
 ·have hi:i<ys.length:=by omega
  have htk:xs++ys.take (i+1)=(xs++ys.take i)++[ys[i]]:=by rw [List.take_succ_eq_append_getElem hi,List.append_assoc]
  have eW:=Ug (x:=ys[i]) hx2;rw [← htk] at eW;have IN:gI (xs++ys.take (i+1))=false→gI (xs++ys)=false:=fun q=>by
   rw [Bool.eq_false_iff];intro q2;have:=Fp (xs.length+(i+1)) q2;rw [List.take_append,List.take_of_length_le (Nat.le_add_right _ _),Nat.add_sub_cancel_left,q] at this
   cases this
  have hlen:(xs++ys.take i).length=xs.length+i:=by simp;omega
  generalize hzs:xs++ys.take i=zs at hx2 eW htk hlen ⊢;refine S.skip<|S.seq<|S.block<|S.seq<|S.region rfl<|O.ib (.p rfl) underlying22 mz rfl rfl rfl pz hg (h:=fun KC YT fL EI=>?_);have gH:=ag.rel.mono EI hg;obtain ⟨mj,mm,mo,mq,mr,mu,rfl,ZW,Z5,Z7,gT,gU,gV⟩:=cv.sh gH;refine O.op (.p rfl) (.bE isAgg102 aa rfl fL) ?_;refine O.aN (.p rfl) (.alloc (cs:=[.string ⟨#[]⟩,.int .i64 0,.int .i64 0,.slice none 0 0,.bool false,.slice none 0 0,.slice none 0 0]) zeroValue102 rfl) ?_;rintro _ _ ⟨iN,rfl,rfl⟩;refine O.bB rfl (.c9 aa rfl rfl rfl rfl ai aX) ?_;refine O.nil<|S.seq<|S.region rfl<|O.op (.p rfl) (.gZ (news:=[_,_,_,_,_,_,_]) isAgg102) ?_;refine O.aC (.p rfl) rfl aa rfl rfl (KS (by first|assumption|exact ag.rel.mono zE hg)) ?_;rintro _ _ ⟨en,eo,rfl,rfl⟩
  try simp only [an,aq,au]
  refine O.q 5 rfl<|O.nil<|S.seq<|S.dx (b:=iN) (cs' :=[.string (str ys[i].1),.int .i64 ys[i].2.1,.int .i64 ys[i].2.2.1,.slice mj ys[i].2.2.2.1.length mq,.bool ys[i].2.2.2.2.1,.slice mm ys[i].2.2.2.2.2.1.length mr,.slice mo ys[i].2.2.2.2.2.2.1.length mu]) ai rfl ?_
  cases e:ej ys[i] with
  |false =>
   have hno:gI (xs++ys)=false:=IN (by rw [Bool.eq_false_iff];intro q;have:=(eW.1 q).1;rw [e] at this;cases this);refine S.bC (L:=[0,1,2,3,4,5,6,7,8,9,10,11,12,13,14,15,16,17,18,19,20,21,22,23]) bz aa ?_;refine af.q 1 rfl<|.quiet (.p rfl) rfl (fun _=>.eql rfl rfl)<|af.aM 20 rfl (by simp [oE,e]) ?_;refine af.q 21 rfl<|af.kQ (.p rfl) aa rfl aa rfl rfl (qj _) (fun ch ax w hX hW=>by (obtain ⟨hb,rfl,rfl⟩:=hX;exact hR _ _ w ⟨hno,rfl,rfl⟩ hW.qD)) ?_;rintro _ _ ⟨nL,rfl,rfl⟩
   try simp only [an,aq,au]
   exact absurd nL bL
  |true =>
   have Of:mw ys[i]=cn ys[i]:=by simp [mw,e]
   rw [Of]
   by_cases h0:zs.length=0
   ·have ow:=eW.2 ⟨e,fun h=>absurd h ah⟩
    refine S.de ai fun g hs hm eb=>?_;replace hg:=Fr.aI hg hs;replace hR:=bu hR hm
    try replace ha:=ha.mono hs
    try replace fL:=fL.mono hs
    try replace gH:=gH.mono hs
    try replace gT:=gT.mono hs
    try replace gU:=gU.mono hs
    try replace gV:=gV.mono hs
    replace bh:=dQ bh hm;clear hs hm;have gy:=hg;have gw:=hR
    try have vu:=ha
    try have Ab:=fL
    try have Af:=gH
    try have zO:=gT
    try have zP:=gU
    try have zQ:=gV
    try have zT:=eb
    refine S.iw (B:=ff r tR 220 5 b zs) ai fun o8 dP ⟨q7,jL,jM⟩ gm=>?_;replace hg:=Fr.aI hg dP;replace hR:=ig hR gm
    try replace ha:=ha.mono dP
    try replace fL:=fL.mono dP
    try replace gH:=gH.mono dP
    try replace gT:=gT.mono dP
    try replace gU:=gU.mono dP
    try replace gV:=gV.mono dP
    try replace eb:=eb.mono dP
    obtain ⟨qf,sA,i_,pn⟩:=ff.read hg jM jL;refine S.bC (L:=[0,1,2,3,4,5,6,7,8,9,10,11,12,13,14,15,16,17,18,19,20,21,22,23]) bz aa ?_;refine af.q 1 rfl<|.quiet (.p rfl) rfl (fun _=>.eql rfl rfl)<|af.sT 20 rfl (by simp [oE,e]) ?_;refine af.q 2 rfl<|.quiet (.g rfl rfl) rfl (fun _=>.nilCheck rfl)<|.quiet (.g rfl rfl) rfl (fun _=>.fieldAddr jj rfl)<|.quiet (.g rfl rfl) rfl (fun _=>.loadAt ji rfl i_ rfl) ?_;refine .quiet (.g rfl rfl) rfl (fun _=>.len rfl underlying216 rfl)<|.quiet (.g rfl rfl) rfl (fun _=>.eql rfl rfl)<|af.sT 27 rfl (by exact decide_eq_true ah) ?_;refine af.q 14 rfl<|af.kQ (.p rfl) aa rfl aa rfl rfl (qj _) (fun ch ax w hX hW=>by (exact absurd hX.1 bL)) ?_;rintro _ _ ⟨nL,rfl,rfl⟩
    try simp only [an,aq,au]
    refine aJ.nil<|S.back gm ?_;replace hg:=gy;replace hR:=gw
    try replace ha:=vu
    try replace fL:=Ab
    try replace gH:=Af
    try replace gT:=zO
    try replace gU:=zP
    try replace gV:=zQ
    try replace eb:=zT
    clear gy gw;refine S.open (A:=ff r tR 220 5 b zs) ai (fun m x=>x) fun p=>?_;simp only [List.cons_append,List.nil_append];refine S.lV (B:=bX (lN r 5) p.2 zs) ai (fun _ z=>bX.len z) fun ec=>?_;have nN:p.2.length≤100000000000:=by omega
    have fq:=hg;have fp:=hR
    try have nK:=ha
    try have D8:=fL
    try have Eu:=gH
    try have DA:=gT
    try have DB:=gU
    try have DC:=gV
    try have DJ:=eb
    refine S.iw (B:=obj b tR [.slice p.1.1 zs.length p.1.2]) ai fun go cN ⟨qd,hmo,jw⟩ eV=>?_;replace hg:=Fr.aI hg cN;replace hR:=ig hR eV
    try replace ha:=ha.mono cN
    try replace fL:=fL.mono cN
    try replace gH:=gH.mono cN
    try replace gT:=gT.mono cN
    try replace gU:=gU.mono cN
    try replace gV:=gV.mono cN
    try replace eb:=eb.mono cN
    have qO:=(ga hmo).mono jw;refine S.bC (L:=[0,1,2,3,4,5,6,7,8,9,10,11,12]) bz aa ?_;refine af.q 2 rfl<|.quiet (.p rfl) rfl (fun _=>.nilCheck rfl)<|.quiet (.p rfl) rfl (fun _=>.fieldAddr jj rfl)<|.quiet (.p rfl) rfl (fun _=>.loadAt ji rfl qO rfl) ?_;refine .quiet (.p rfl) rfl (fun _=>.bE isAgg102 aa rfl eb) ?_;refine af.q 1 rfl<|.quiet (.p rfl) rfl (fun _=>.build (cs:=[_,_,_,_,_,_,_,_]) underlying220 rfl rfl rfl rfl rfl)<|af.cA (T:=(ag.cells 8)) (ys:=[_]) (.p rfl) aa underlying216 tf aB rfl rfl ⟨⟨rfl,rfl,by first|(simp;done)|(intro v hv;simp [Value.cells] at hv;rcases hv with rfl|rfl<;>rfl)|(refine List.forall_mem_cons.2 ⟨rfl,?_⟩;repeat (first|exact (fun _ h=>absurd h List.not_mem_nil)|refine List.forall_mem_cons.2 ⟨rfl,?_⟩))⟩,trivial⟩ aB (fun a51 za=>?_);refine af.gN (.p rfl) aa (T:=(ag.cells 8)) underlying216 tf aB rfl rfl ai ai bD bD (fun ku kz=>?_);refine .quiet (.p rfl) rfl (fun _=>.nilCheck rfl)<|.quiet (.p rfl) rfl (fun _=>.fieldAddr jj rfl)<|af.xZ rfl aa (fun _ hw=>eV hw) ji rfl rfl bt ai yP ?_;replace hg:=fq;replace hR:=fp
    try replace ha:=nK
    try replace fL:=D8
    try replace gH:=Eu
    try replace gT:=DA
    try replace gU:=DB
    try replace gV:=DC
    try replace eb:=DJ
    clear fq fp;refine S.inBlock<|S.region rfl<|O.op (.p rfl) (.add rfl rfl (IntWalk.i64_in _ ah))<|O.q 1 rfl<|O.nil<|S.jd (T:=ag.cells 8) (e:=220) (v' :=.slice ku (zs++[ys[i]]).length kz) (xs' :=p.2++[[.string (str ys[i].1),.int .i64 ys[i].2.1,.int .i64 ys[i].2.2.1,.slice mj ys[i].2.2.2.1.length mq,.bool ys[i].2.2.2.2.1,.slice mm ys[i].2.2.2.2.2.1.length mr,.slice mo ys[i].2.2.2.2.2.2.1.length mu,.slice en (cn ys[i]).length eo]]) ai (by simp [ec]) sS ?_;refine S.dx (b:=b) (cs' :=[.slice ku (zs++[ys[i]]).length kz]) ai (by simp [ec]) ?_;refine S.conv (B:=av ag.u8 5 (.slice en (cn ys[i]).length eo) (cn ys[i])) (C:=lN r 5 [.string (str ys[i].1),.int .i64 ys[i].2.1,.int .i64 ys[i].2.2.1,.slice mj ys[i].2.2.2.1.length mq,.bool ys[i].2.2.2.2.1,.slice mm ys[i].2.2.2.2.2.1.length mr,.slice mo ys[i].2.2.2.2.2.2.1.length mu,.slice en (cn ys[i]).length eo] ys[i]) ai (fun m x=>⟨m,Fr.bY _,[.string (str ys[i].1),.int .i64 ys[i].2.1,.int .i64 ys[i].2.2.1,.slice mj ys[i].2.2.2.1.length mq,.bool ys[i].2.2.2.2.1,.slice mm ys[i].2.2.2.2.2.1.length mr,.slice mo ys[i].2.2.2.2.2.2.1.length mu],en,eo,rfl,EI,x⟩) ?_
    refine S.each (A:=lN r 5) (bs:=p.2) (b:=[.string (str ys[i].1),.int .i64 ys[i].2.1,.int .i64 ys[i].2.2.1,.slice mj ys[i].2.2.2.1.length mq,.bool ys[i].2.2.2.2.1,.slice mm ys[i].2.2.2.2.2.1.length mr,.slice mo ys[i].2.2.2.2.2.2.1.length mu,.slice en (cn ys[i]).length eo]) (a:=ys[i]) ai ai ?_;refine S.ct (A:=ff r tR 220 5 b (zs++[ys[i]])) (bs:=[obj b tR [.slice ku (zs++[ys[i]]).length kz],av (ag.cells 8) 220 (.slice ku (zs++[ys[i]]).length kz) (p.2++[[.string (str ys[i].1),.int .i64 ys[i].2.1,.int .i64 ys[i].2.2.1,.slice mj ys[i].2.2.2.1.length mq,.bool ys[i].2.2.2.2.1,.slice mm ys[i].2.2.2.2.2.1.length mr,.slice mo ys[i].2.2.2.2.2.2.1.length mu,.slice en (cn ys[i]).length eo]]),bX (lN r 5) (p.2++[[.string (str ys[i].1),.int .i64 ys[i].2.1,.int .i64 ys[i].2.2.1,.slice mj ys[i].2.2.2.1.length mq,.bool ys[i].2.2.2.2.1,.slice mm ys[i].2.2.2.2.2.1.length mr,.slice mo ys[i].2.2.2.2.2.2.1.length mu,.slice en (cn ys[i]).length eo]]) (zs++[ys[i]])]) aW (fun m x=>⟨((ku,kz),p.2++[[.string (str ys[i].1),.int .i64 ys[i].2.1,.int .i64 ys[i].2.2.1,.slice mj ys[i].2.2.2.1.length mq,.bool ys[i].2.2.2.2.1,.slice mm ys[i].2.2.2.2.2.1.length mr,.slice mo ys[i].2.2.2.2.2.2.1.length mu,.slice en (cn ys[i]).length eo]]),x⟩) ?_;rw [← htk];exact S.iA bh (S.pw (ih (i+1) (by exact ⟨by omega,ow⟩) ah))
   ·by_cases hk:ys[i].1=(zs[0]'ah).1
    ·have ow:=eW.2 ⟨e,fun h=>hk⟩
     refine S.de ai fun g hs hm eb=>?_;replace hg:=Fr.aI hg hs;replace hR:=bu hR hm
     try replace ha:=ha.mono hs
     try replace fL:=fL.mono hs
     try replace gH:=gH.mono hs
     try replace gT:=gT.mono hs
     try replace gU:=gU.mono hs
     try replace gV:=gV.mono hs
     replace bh:=dQ bh hm;clear hs hm;have gy:=hg;have gw:=hR
     try have vu:=ha
     try have Ab:=fL
     try have Af:=gH
     try have zO:=gT
     try have zP:=gU
     try have zQ:=gV
     try have zT:=eb
     refine S.iw (B:=ff r tR 220 5 b zs) ai fun o8 dP ⟨q7,jL,jM⟩ gm=>?_;replace hg:=Fr.aI hg dP;replace hR:=ig hR gm
     try replace ha:=ha.mono dP
     try replace fL:=fL.mono dP
     try replace gH:=gH.mono dP
     try replace gT:=gT.mono dP
     try replace gU:=gU.mono dP
     try replace gV:=gV.mono dP
     try replace eb:=eb.mono dP
     obtain ⟨qf,sA,i_,pn⟩:=ff.read hg jM jL;refine S.bC (L:=[0,1,2,3,4,5,6,7,8,9,10,11,12,13,14,15,16,17,18,19,20,21,22,23]) bz aa ?_;refine af.q 1 rfl<|.quiet (.p rfl) rfl (fun _=>.eql rfl rfl)<|af.sT 20 rfl (by simp [oE,e]) ?_;refine af.q 2 rfl<|.quiet (.g rfl rfl) rfl (fun _=>.nilCheck rfl)<|.quiet (.g rfl rfl) rfl (fun _=>.fieldAddr jj rfl)<|.quiet (.g rfl rfl) rfl (fun _=>.loadAt ji rfl i_ rfl) ?_;refine .quiet (.g rfl rfl) rfl (fun _=>.len rfl underlying216 rfl)<|.quiet (.g rfl rfl) rfl (fun _=>.eql rfl rfl)<|af.aM 27 rfl (by exact decide_eq_false ah) ?_;refine af.q 2 rfl<|.quiet (.g rfl rfl) rfl (fun _=>.nilCheck rfl)<|.quiet (.g rfl rfl) rfl (fun _=>.fieldAddr jj rfl)<|.quiet (.g rfl rfl) rfl (fun _=>.loadAt ji rfl i_ rfl) ?_;refine af.bR (.g rfl rfl) underlying216 gC rfl rfl (show _=(((0):Nat):Int) by omega) (by first|assumption|exact aj.mono hg zE|exact aj.left zE|exact aj.left (aj.mono hg zE)) (h:=fun Fu CC tQ tW=>?_);obtain ⟨RJ,RN,RR,RW,R2,R6,R_,Sd,rfl,Q2,Ps⟩:=bO.sh tW;refine .quiet (.g rfl rfl) rfl (fun _=>.fieldAddr rP rfl)<|.quiet (.g rfl rfl) rfl (fun _=>.fieldAddr e6 rfl)<|.quiet (.g rfl rfl) rfl (fun _=>.loadAt bQ rfl tQ rfl) ?_
     refine .quiet (.g rfl rfl) rfl (fun _=>.fieldAddr e6 rfl)<|.quiet (.g rfl rfl) rfl (fun _=>.loadAt bQ rfl eb rfl) ?_;refine .quiet (.g rfl rfl) rfl (fun _=>.kU rfl rfl)<|af.sT 39 rfl (by simp [hk]) ?_;refine af.q 2 rfl<|af.kQ (.p rfl) aa rfl aa rfl rfl (qj _) (fun ch ax w hX hW=>by (exact absurd hX.1 bL)) ?_;rintro _ _ ⟨nL,rfl,rfl⟩
     try simp only [an,aq,au]
     refine aJ.nil<|S.back gm ?_;replace hg:=gy;replace hR:=gw
     try replace ha:=vu
     try replace fL:=Ab
     try replace gH:=Af
     try replace gT:=zO
     try replace gU:=zP
     try replace gV:=zQ
     try replace eb:=zT
     clear gy gw;refine S.open (A:=ff r tR 220 5 b zs) ai (fun m x=>x) fun p=>?_;simp only [List.cons_append,List.nil_append];refine S.lV (B:=bX (lN r 5) p.2 zs) ai (fun _ z=>bX.len z) fun ec=>?_;have nN:p.2.length≤100000000000:=by omega
     have fq:=hg;have fp:=hR
     try have nK:=ha
     try have D8:=fL
     try have Eu:=gH
     try have DA:=gT
     try have DB:=gU
     try have DC:=gV
     try have DJ:=eb
     refine S.iw (B:=obj b tR [.slice p.1.1 zs.length p.1.2]) ai fun go cN ⟨qd,hmo,jw⟩ eV=>?_;replace hg:=Fr.aI hg cN;replace hR:=ig hR eV
     try replace ha:=ha.mono cN
     try replace fL:=fL.mono cN
     try replace gH:=gH.mono cN
     try replace gT:=gT.mono cN
     try replace gU:=gU.mono cN
     try replace gV:=gV.mono cN
     try replace eb:=eb.mono cN
     have qO:=(ga hmo).mono jw;refine S.bC (L:=[0,1,2,3,4,5,6,7,8,9,10,11,12]) bz aa ?_;refine af.q 2 rfl<|.quiet (.p rfl) rfl (fun _=>.nilCheck rfl)<|.quiet (.p rfl) rfl (fun _=>.fieldAddr jj rfl)<|.quiet (.p rfl) rfl (fun _=>.loadAt ji rfl qO rfl) ?_;refine .quiet (.p rfl) rfl (fun _=>.bE isAgg102 aa rfl eb) ?_;refine af.q 1 rfl<|.quiet (.p rfl) rfl (fun _=>.build (cs:=[_,_,_,_,_,_,_,_]) underlying220 rfl rfl rfl rfl rfl)<|af.cA (T:=(ag.cells 8)) (ys:=[_]) (.p rfl) aa underlying216 tf aB rfl rfl ⟨⟨rfl,rfl,by first|(simp;done)|(intro v hv;simp [Value.cells] at hv;rcases hv with rfl|rfl<;>rfl)|(refine List.forall_mem_cons.2 ⟨rfl,?_⟩;repeat (first|exact (fun _ h=>absurd h List.not_mem_nil)|refine List.forall_mem_cons.2 ⟨rfl,?_⟩))⟩,trivial⟩ aB (fun a51 za=>?_);refine af.gN (.p rfl) aa (T:=(ag.cells 8)) underlying216 tf aB rfl rfl ai ai bD bD (fun ku kz=>?_);refine .quiet (.p rfl) rfl (fun _=>.nilCheck rfl)<|.quiet (.p rfl) rfl (fun _=>.fieldAddr jj rfl)<|af.xZ rfl aa (fun _ hw=>eV hw) ji rfl rfl bt ai yP ?_;replace hg:=fq;replace hR:=fp
     try replace ha:=nK
     try replace fL:=D8
     try replace gH:=Eu
     try replace gT:=DA
     try replace gU:=DB
     try replace gV:=DC
     try replace eb:=DJ
     clear fq fp;refine S.inBlock<|S.region rfl<|O.op (.p rfl) (.add rfl rfl (IntWalk.i64_in _ ah))<|O.q 1 rfl<|O.nil<|S.jd (T:=ag.cells 8) (e:=220) (v' :=.slice ku (zs++[ys[i]]).length kz) (xs' :=p.2++[[.string (str ys[i].1),.int .i64 ys[i].2.1,.int .i64 ys[i].2.2.1,.slice mj ys[i].2.2.2.1.length mq,.bool ys[i].2.2.2.2.1,.slice mm ys[i].2.2.2.2.2.1.length mr,.slice mo ys[i].2.2.2.2.2.2.1.length mu,.slice en (cn ys[i]).length eo]]) ai (by simp [ec]) sS ?_;refine S.dx (b:=b) (cs' :=[.slice ku (zs++[ys[i]]).length kz]) ai (by simp [ec]) ?_;refine S.conv (B:=av ag.u8 5 (.slice en (cn ys[i]).length eo) (cn ys[i])) (C:=lN r 5 [.string (str ys[i].1),.int .i64 ys[i].2.1,.int .i64 ys[i].2.2.1,.slice mj ys[i].2.2.2.1.length mq,.bool ys[i].2.2.2.2.1,.slice mm ys[i].2.2.2.2.2.1.length mr,.slice mo ys[i].2.2.2.2.2.2.1.length mu,.slice en (cn ys[i]).length eo] ys[i]) ai (fun m x=>⟨m,Fr.bY _,[.string (str ys[i].1),.int .i64 ys[i].2.1,.int .i64 ys[i].2.2.1,.slice mj ys[i].2.2.2.1.length mq,.bool ys[i].2.2.2.2.1,.slice mm ys[i].2.2.2.2.2.1.length mr,.slice mo ys[i].2.2.2.2.2.2.1.length mu],en,eo,rfl,EI,x⟩) ?_
     refine S.each (A:=lN r 5) (bs:=p.2) (b:=[.string (str ys[i].1),.int .i64 ys[i].2.1,.int .i64 ys[i].2.2.1,.slice mj ys[i].2.2.2.1.length mq,.bool ys[i].2.2.2.2.1,.slice mm ys[i].2.2.2.2.2.1.length mr,.slice mo ys[i].2.2.2.2.2.2.1.length mu,.slice en (cn ys[i]).length eo]) (a:=ys[i]) ai ai ?_;refine S.ct (A:=ff r tR 220 5 b (zs++[ys[i]])) (bs:=[obj b tR [.slice ku (zs++[ys[i]]).length kz],av (ag.cells 8) 220 (.slice ku (zs++[ys[i]]).length kz) (p.2++[[.string (str ys[i].1),.int .i64 ys[i].2.1,.int .i64 ys[i].2.2.1,.slice mj ys[i].2.2.2.1.length mq,.bool ys[i].2.2.2.2.1,.slice mm ys[i].2.2.2.2.2.1.length mr,.slice mo ys[i].2.2.2.2.2.2.1.length mu,.slice en (cn ys[i]).length eo]]),bX (lN r 5) (p.2++[[.string (str ys[i].1),.int .i64 ys[i].2.1,.int .i64 ys[i].2.2.1,.slice mj ys[i].2.2.2.1.length mq,.bool ys[i].2.2.2.2.1,.slice mm ys[i].2.2.2.2.2.1.length mr,.slice mo ys[i].2.2.2.2.2.2.1.length mu,.slice en (cn ys[i]).length eo]]) (zs++[ys[i]])]) aW (fun m x=>⟨((ku,kz),p.2++[[.string (str ys[i].1),.int .i64 ys[i].2.1,.int .i64 ys[i].2.2.1,.slice mj ys[i].2.2.2.1.length mq,.bool ys[i].2.2.2.2.1,.slice mm ys[i].2.2.2.2.2.1.length mr,.slice mo ys[i].2.2.2.2.2.2.1.length mu,.slice en (cn ys[i]).length eo]]),x⟩) ?_;rw [← htk];exact S.iA bh (S.pw (ih (i+1) (by exact ⟨by omega,ow⟩) ah))
    ·have hno:gI (xs++ys)=false:=IN (by rw [Bool.eq_false_iff];intro q;exact hk ((eW.1 q).2 ah))
     refine S.de ai fun g hs hm eb=>?_;replace hg:=Fr.aI hg hs;replace hR:=bu hR hm
     try replace ha:=ha.mono hs
     try replace fL:=fL.mono hs
     try replace gH:=gH.mono hs
     try replace gT:=gT.mono hs
     try replace gU:=gU.mono hs
     try replace gV:=gV.mono hs
     replace bh:=dQ bh hm;clear hs hm;have gy:=hg;have gw:=hR
     try have vu:=ha
     try have Ab:=fL
     try have Af:=gH
     try have zO:=gT
     try have zP:=gU
     try have zQ:=gV
     try have zT:=eb
     refine S.iw (B:=ff r tR 220 5 b zs) ai fun o8 dP ⟨q7,jL,jM⟩ gm=>?_;replace hg:=Fr.aI hg dP;replace hR:=ig hR gm
     try replace ha:=ha.mono dP
     try replace fL:=fL.mono dP
     try replace gH:=gH.mono dP
     try replace gT:=gT.mono dP
     try replace gU:=gU.mono dP
     try replace gV:=gV.mono dP
     try replace eb:=eb.mono dP
     obtain ⟨qf,sA,i_,pn⟩:=ff.read hg jM jL;refine S.bC (L:=[0,1,2,3,4,5,6,7,8,9,10,11,12,13,14,15,16,17,18,19,20,21,22,23]) bz aa ?_;refine af.q 1 rfl<|.quiet (.p rfl) rfl (fun _=>.eql rfl rfl)<|af.sT 20 rfl (by simp [oE,e]) ?_;refine af.q 2 rfl<|.quiet (.g rfl rfl) rfl (fun _=>.nilCheck rfl)<|.quiet (.g rfl rfl) rfl (fun _=>.fieldAddr jj rfl)<|.quiet (.g rfl rfl) rfl (fun _=>.loadAt ji rfl i_ rfl) ?_;refine .quiet (.g rfl rfl) rfl (fun _=>.len rfl underlying216 rfl)<|.quiet (.g rfl rfl) rfl (fun _=>.eql rfl rfl)<|af.aM 27 rfl (by exact decide_eq_false ah) ?_;refine af.q 2 rfl<|.quiet (.g rfl rfl) rfl (fun _=>.nilCheck rfl)<|.quiet (.g rfl rfl) rfl (fun _=>.fieldAddr jj rfl)<|.quiet (.g rfl rfl) rfl (fun _=>.loadAt ji rfl i_ rfl) ?_;refine af.bR (.g rfl rfl) underlying216 gC rfl rfl (show _=(((0):Nat):Int) by omega) (by first|assumption|exact aj.mono hg zE|exact aj.left zE|exact aj.left (aj.mono hg zE)) (h:=fun Fu CC tQ tW=>?_);obtain ⟨RJ,RN,RR,RW,R2,R6,R_,Sd,rfl,Q2,Ps⟩:=bO.sh tW;refine .quiet (.g rfl rfl) rfl (fun _=>.fieldAddr rP rfl)<|.quiet (.g rfl rfl) rfl (fun _=>.fieldAddr e6 rfl)<|.quiet (.g rfl rfl) rfl (fun _=>.loadAt bQ rfl tQ rfl) ?_
     refine .quiet (.g rfl rfl) rfl (fun _=>.fieldAddr e6 rfl)<|.quiet (.g rfl rfl) rfl (fun _=>.loadAt bQ rfl eb rfl) ?_;refine .quiet (.g rfl rfl) rfl (fun _=>.kU rfl rfl)<|af.aM 39 rfl (by simp;exact fun q=>hk q.symm) ?_;refine af.q 2 rfl<|af.kQ (.p rfl) aa rfl aa rfl rfl (qj _) (fun ch ax w hX hW=>by (obtain ⟨hb,rfl,rfl⟩:=hX;exact hR _ _ w ⟨hno,rfl,rfl⟩ hW.qD)) ?_;rintro _ _ ⟨nL,rfl,rfl⟩
     try simp only [an,aq,au]
     exact absurd nL bL
 ·clear ih
  have hi:i=ys.length:=by omega
  subst hi;rw [List.take_length] at hx2 ⊢;refine S.exit rfl<|S.ez results225 fun w hw=>Holds.end_ hR hw ?_;exact pk ⟨hx2,rfl,rfl⟩
end Go.Proofs.YtojafegjlahajaaGreatDoor
