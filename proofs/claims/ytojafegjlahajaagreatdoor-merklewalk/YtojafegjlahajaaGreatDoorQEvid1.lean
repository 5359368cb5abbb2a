/- Texts of this proof. -/
import Derived.Test.YtojafegjlahajaaGreatDoorQRec2
open Go Go.Sp Go.Proofs.Tryz
set_option maxRecDepth 100000
set_option maxHeartbeats 1000000
attribute [local irreducible] obj Own OwnP
namespace Go.Proofs.YtojafegjlahajaaGreatDoor
def txtRows (x:RecT):List (List UInt8):=[[1],bytesOf x.1,be x.2.1,be x.2.2.1,be x.2.2.2.1.length]
def dotRows (l:List DotT):List (List UInt8):=(l.map fun d=>[be d.1,be d.2.1]).flatten
theorem dotRows_snoc (l:List DotT) (d:DotT):dotRows (l++[d])=dotRows l++[be d.1,be d.2.1]:=by simp [dotRows]
theorem dotRows_flat (l:List DotT):(dotRows l).flatten=dotsB l:=by
 induction l with
 |nil=>rfl
 |cons d l ih=>rw [dotsB_cons,← ih];simp [dotRows]
theorem txt_all (x:RecT):(txtRows x++dotRows x.2.2.2.1++[[goneB x.2.2.2.2.1],bytesOf x.2.2.2.2.2.1]).flatten=recText x:=by
 simp [txtRows,recText,dotRows_flat]
theorem wtext_c {r:Fr} {cs:List Value} {x:RecT} (h:RecRp.rel r cs x) (hs:shaped x=true):Con prog 354 #[.agg cs.toArray] r [] (Ret fun v η=>∃ a c,v=.slice a (recText x).length c∧η=[OwnP Rp.u8 5 (.slice a (recText x).length c) (recText x)]):=by
 have hb:=shaped_iff.1 hs;have hl:=recText_le hs;have hdl:=rises_len hb.2.2.2.1;obtain ⟨v3,v5,v6,rfl,k0,k1,k2,k3,k5,k6⟩:=RecRp.open h;refine Con.o func354 fun g hg R hR=>?_;have h:=h.mono hg;have k3:=k3.mono hg;have k5:=k5.mono hg;have k6:=k6.mono hg;obtain ⟨a3,c3,rfl⟩:=k3.shape;obtain ⟨a5,c5,rfl⟩:=k5.shape;obtain ⟨a6,c6,rfl⟩:=k6.shape;refine S.seq<|S.region rfl<|O.opE (.p rfl) (.box (cs:=[_,_,_,_,_,_,_]) rfl rfl) ?_;rintro _ _ ⟨b1,rfl,rfl⟩;refine zz 4 ?_;refine O.opE (.p rfl) (.litP (T:=Rp.u8) (ys:=[0]) underlying24 elem5 zE rfl rfl ⟨rfl,trivial⟩ zE) ?_;rintro _ _ ⟨a7,c7,rfl,rfl⟩;refine zz 4 ?_;refine S.cut2 (fun (q:Option Addr × Nat)=>True) (fun (q:Option Addr × Nat)=>[(3,.slice q.1 1 q.2)]) [(1,_)] (fun (q:Option Addr × Nat)=>[obj b1 415 [.string (str x.1),.int .i64 x.2.1,.int .i64 x.2.2.1,.slice a3 x.2.2.2.1.length c3,.bool x.2.2.2.2.1,.slice a5 x.2.2.2.2.2.1.length c5,.slice a6 x.2.2.2.2.2.2.1.length c6],OwnP Rp.u8 5 (.slice q.1 1 q.2) [goneB x.2.2.2.2.1]]) zq (fun key=>?_) (fun q hx=>?_)
 ·have hm1:=meltRefl (g:=g)
  refine zz 5 ?_;refine S.cd rfl (fun h10=>?_) fun h10=>?_
  ·refine zz 2 ?_
   refine O.opE (.p rfl) (.idxOwn (T:=Rp.u8) underlying24 size5 rfl rfl (show _=(((0):Nat):Int) by omega) zD zQ) ?_;rintro _ _ ⟨p12,rfl,hp12,rfl⟩;refine O.opU rfl (.storeOwn size5 rfl hp12 rfl zD zQ (show _=_ by rfl:Rp.rel _ _ _ ((1:UInt8)))) ?_;refine O.nil<|S.ownIs (T:=Rp.u8) (xs' :=[goneB x.2.2.2.2.1]) zD rfl (by rw [h10];rfl) ?_;refine S.pk ?_ (S.weaken ?_ (key ((a7,c7)) (by trivial)))
   ·exact zP
   repeat (first|exact Sub.nil|refine Sub.cons rfl ?_)
  ·refine S.skip<|S.ownIs (T:=Rp.u8) (xs' :=[goneB x.2.2.2.2.1]) zD rfl (by rw [h10];rfl) ?_
   refine S.pk ?_ (S.weaken ?_ (key ((a7,c7)) (by trivial)))
   ·exact zP
   repeat (first|exact Sub.nil|refine Sub.cons rfl ?_)
 ·refine S.seq<|S.frzO zD fun g hs hm hbx=>?_
  replace hg:=zfs hg hs;replace hR:=melted hR hm
  try replace h:=h.mono hs
  try replace k3:=k3.mono hs
  try replace k5:=k5.mono hs
  try replace k6:=k6.mono hs
  clear hs hm;refine S.regionJ (L:=[1,2,3,6,7,8,10,11,12,14,15,16,17,0,4,5,9,13,18,19,20]) (fun (s:(Option Addr × Nat) × List Value)=>[(4,.slice s.1.1 s.2.length s.1.2)]) [(1,_),(3,_)] (fun (s:(Option Addr × Nat) × List Value)=>[RowsP Rp.u8 5 s.2 (txtRows x),OwnP Rp.val 24 (.slice s.1.1 s.2.length s.1.2) s.2,OwnP Rp.u8 5 (.slice q.1 1 q.2) [goneB x.2.2.2.2.1]]) zq F.mixed zC (fun kk key=>?_) (fun s=>?_)
  ·refine zz 13 ?_
   refine OD.alt2 0 4 [4,5,9,13,18,19,20] [0,5,9,13,18,19,20] zC rfl rfl ?_ ?_
   ·refine ODt.litP (T:=Rp.u8) (ys:=[1]) (.p rfl) zC underlying24 elem5 zE rfl rfl ⟨rfl,trivial⟩ zE (fun a13 c13=>?_)
    refine OD.strBytesO (.p rfl) zC underlying9 underlying24 underlying5 rfl (by first|assumption|omega|(simp;done)|(simp;omega)) (fun a17 c17=>?_);refine OD.callB (.p rfl) zC rfl zC rfl rfl (bs:=[OwnP Rp.u8 5 (.slice a17 x.1.length c17) x.1]) zG (fun m hm hd=>wBytes_c (hm.arr.right hd) zB) ?_;rintro _ _ ⟨a18,c18,rfl,rfl⟩;refine OD.call0 (.p rfl) zC rfl zC rfl rfl (wNumber_c _) ?_;rintro _ _ ⟨a22,c22,rfl,rfl⟩;refine OD.call0 (.p rfl) zC rfl zC rfl rfl (wNumber_c _) ?_;rintro _ _ ⟨a26,c26,rfl,rfl⟩;refine OD.call0 (.p rfl) zC rfl zC rfl rfl (wNumber_c _) ?_;rintro _ _ ⟨a31,c31,rfl,rfl⟩;refine OD.litP (T:=Rp.val) (ys:=[_,_,_,_,_]) (.p rfl) zC underlying109 elem24 zE rfl rfl ⟨⟨rfl,rfl⟩,⟨rfl,rfl⟩,⟨rfl,rfl⟩,⟨rfl,rfl⟩,⟨rfl,rfl⟩,trivial⟩ zE (fun a32 c32=>?_);refine OD.q 1 rfl<|ODx.nil<|S.eachOf (OwnP Rp.u8 5) (bs:=[.slice a13 1 c13,.slice a18 (bytesOf x.1).length c18,.slice a22 8 c22,.slice a26 8 c26,.slice a31 8 c31]) (ys:=txtRows x) zG rfl ?_;refine S.pk ?_ (S.weaken (Sub.app zq zq) (key ((a32,c32),[.slice a13 1 c13,.slice a18 (bytesOf x.1).length c18,.slice a22 8 c22,.slice a26 8 c26,.slice a31 8 c31])))
    try dsimp only
    repeat (first|exact zpa|exact zpn|(apply zpc;focus (repeat (first|exact zh|apply zt)))|apply zps)
   ·refine ODt.strBytesO (.p rfl) zC underlying9 underlying24 underlying5 rfl (by first|assumption|omega|(simp;done)|(simp;omega)) (fun a17 c17=>?_)
    refine OD.alt2 0 5 [5,9,13,18,19,20] [0,9,13,18,19,20] zC rfl rfl ?_ ?_
    ·refine ODt.litP (T:=Rp.u8) (ys:=[1]) (.p rfl) zC underlying24 elem5 zE rfl rfl ⟨rfl,trivial⟩ zE (fun a13 c13=>?_)
     refine OD.callB (.p rfl) zC rfl zC rfl rfl (bs:=[OwnP Rp.u8 5 (.slice a17 x.1.length c17) x.1]) zG (fun m hm hd=>wBytes_c (hm.arr.right hd) zB) ?_;rintro _ _ ⟨a18,c18,rfl,rfl⟩;refine OD.call0 (.p rfl) zC rfl zC rfl rfl (wNumber_c _) ?_;rintro _ _ ⟨a22,c22,rfl,rfl⟩;refine OD.call0 (.p rfl) zC rfl zC rfl rfl (wNumber_c _) ?_;rintro _ _ ⟨a26,c26,rfl,rfl⟩;refine OD.call0 (.p rfl) zC rfl zC rfl rfl (wNumber_c _) ?_;rintro _ _ ⟨a31,c31,rfl,rfl⟩;refine OD.litP (T:=Rp.val) (ys:=[_,_,_,_,_]) (.p rfl) zC underlying109 elem24 zE rfl rfl ⟨⟨rfl,rfl⟩,⟨rfl,rfl⟩,⟨rfl,rfl⟩,⟨rfl,rfl⟩,⟨rfl,rfl⟩,trivial⟩ zE (fun a32 c32=>?_);refine OD.q 1 rfl<|ODx.nil<|S.eachOf (OwnP Rp.u8 5) (bs:=[.slice a13 1 c13,.slice a18 (bytesOf x.1).length c18,.slice a22 8 c22,.slice a26 8 c26,.slice a31 8 c31]) (ys:=txtRows x) zG rfl ?_;refine S.pk ?_ (S.weaken (Sub.app zq zq) (key ((a32,c32),[.slice a13 1 c13,.slice a18 (bytesOf x.1).length c18,.slice a22 8 c22,.slice a26 8 c26,.slice a31 8 c31])))
     try dsimp only
     repeat (first|exact zpa|exact zpn|(apply zpc;focus (repeat (first|exact zh|apply zt)))|apply zps)
    ·refine ODt.callB (.p rfl) zC rfl zC rfl rfl (bs:=[OwnP Rp.u8 5 (.slice a17 x.1.length c17) x.1]) zG (fun m hm hd=>wBytes_c (hm.arr.right hd) zB) ?_
     rintro _ _ ⟨a18,c18,rfl,rfl⟩;refine OD.alt2 0 9 [9,13,18,19,20] [0,13,18,19,20] zC rfl rfl ?_ ?_
     ·refine ODt.litP (T:=Rp.u8) (ys:=[1]) (.p rfl) zC underlying24 elem5 zE rfl rfl ⟨rfl,trivial⟩ zE (fun a13 c13=>?_)
      refine OD.call0 (.p rfl) zC rfl zC rfl rfl (wNumber_c _) ?_;rintro _ _ ⟨a22,c22,rfl,rfl⟩;refine OD.call0 (.p rfl) zC rfl zC rfl rfl (wNumber_c _) ?_;rintro _ _ ⟨a26,c26,rfl,rfl⟩;refine OD.call0 (.p rfl) zC rfl zC rfl rfl (wNumber_c _) ?_;rintro _ _ ⟨a31,c31,rfl,rfl⟩;refine OD.litP (T:=Rp.val) (ys:=[_,_,_,_,_]) (.p rfl) zC underlying109 elem24 zE rfl rfl ⟨⟨rfl,rfl⟩,⟨rfl,rfl⟩,⟨rfl,rfl⟩,⟨rfl,rfl⟩,⟨rfl,rfl⟩,trivial⟩ zE (fun a32 c32=>?_);refine OD.q 1 rfl<|ODx.nil<|S.eachOf (OwnP Rp.u8 5) (bs:=[.slice a13 1 c13,.slice a18 (bytesOf x.1).length c18,.slice a22 8 c22,.slice a26 8 c26,.slice a31 8 c31]) (ys:=txtRows x) zG rfl ?_;refine S.pk ?_ (S.weaken (Sub.app zq zq) (key ((a32,c32),[.slice a13 1 c13,.slice a18 (bytesOf x.1).length c18,.slice a22 8 c22,.slice a26 8 c26,.slice a31 8 c31])))
      try dsimp only
      repeat (first|exact zpa|exact zpn|(apply zpc;focus (repeat (first|exact zh|apply zt)))|apply zps)
     ·refine ODt.call0 (.p rfl) zC rfl zC rfl rfl (wNumber_c _) ?_
      rintro _ _ ⟨a22,c22,rfl,rfl⟩;refine OD.alt2 0 13 [13,18,19,20] [0,18,19,20] zC rfl rfl ?_ ?_
      ·refine ODt.litP (T:=Rp.u8) (ys:=[1]) (.p rfl) zC underlying24 elem5 zE rfl rfl ⟨rfl,trivial⟩ zE (fun a13 c13=>?_)
       refine OD.call0 (.p rfl) zC rfl zC rfl rfl (wNumber_c _) ?_;rintro _ _ ⟨a26,c26,rfl,rfl⟩;refine OD.call0 (.p rfl) zC rfl zC rfl rfl (wNumber_c _) ?_;rintro _ _ ⟨a31,c31,rfl,rfl⟩;refine OD.litP (T:=Rp.val) (ys:=[_,_,_,_,_]) (.p rfl) zC underlying109 elem24 zE rfl rfl ⟨⟨rfl,rfl⟩,⟨rfl,rfl⟩,⟨rfl,rfl⟩,⟨rfl,rfl⟩,⟨rfl,rfl⟩,trivial⟩ zE (fun a32 c32=>?_);refine OD.q 1 rfl<|ODx.nil<|S.eachOf (OwnP Rp.u8 5) (bs:=[.slice a13 1 c13,.slice a18 (bytesOf x.1).length c18,.slice a22 8 c22,.slice a26 8 c26,.slice a31 8 c31]) (ys:=txtRows x) zG rfl ?_;refine S.pk ?_ (S.weaken (Sub.app zq zq) (key ((a32,c32),[.slice a13 1 c13,.slice a18 (bytesOf x.1).length c18,.slice a22 8 c22,.slice a26 8 c26,.slice a31 8 c31])))
       try dsimp only
       repeat (first|exact zpa|exact zpn|(apply zpc;focus (repeat (first|exact zh|apply zt)))|apply zps)
      ·refine ODt.call0 (.p rfl) zC rfl zC rfl rfl (wNumber_c _) ?_
       rintro _ _ ⟨a26,c26,rfl,rfl⟩;refine OD.alt2 0 18 [18,19,20] [0,19,20] zC rfl rfl ?_ ?_
       ·refine ODt.litP (T:=Rp.u8) (ys:=[1]) (.p rfl) zC underlying24 elem5 zE rfl rfl ⟨rfl,trivial⟩ zE (fun a13 c13=>?_)
        refine OD.call0 (.p rfl) zC rfl zC rfl rfl (wNumber_c _) ?_;rintro _ _ ⟨a31,c31,rfl,rfl⟩;refine OD.litP (T:=Rp.val) (ys:=[_,_,_,_,_]) (.p rfl) zC underlying109 elem24 zE rfl rfl ⟨⟨rfl,rfl⟩,⟨rfl,rfl⟩,⟨rfl,rfl⟩,⟨rfl,rfl⟩,⟨rfl,rfl⟩,trivial⟩ zE (fun a32 c32=>?_);refine OD.q 1 rfl<|ODx.nil<|S.eachOf (OwnP Rp.u8 5) (bs:=[.slice a13 1 c13,.slice a18 (bytesOf x.1).length c18,.slice a22 8 c22,.slice a26 8 c26,.slice a31 8 c31]) (ys:=txtRows x) zG rfl ?_;refine S.pk ?_ (S.weaken (Sub.app zq zq) (key ((a32,c32),[.slice a13 1 c13,.slice a18 (bytesOf x.1).length c18,.slice a22 8 c22,.slice a26 8 c26,.slice a31 8 c31])))
        try dsimp only
        repeat (first|exact zpa|exact zpn|(apply zpc;focus (repeat (first|exact zh|apply zt)))|apply zps)
       ·refine ODt.call0 (.p rfl) zC rfl zC rfl rfl (wNumber_c _) ?_
        rintro _ _ ⟨a31,c31,rfl,rfl⟩;refine OD.litP (T:=Rp.u8) (ys:=[1]) (.p rfl) zC underlying24 elem5 zE rfl rfl ⟨rfl,trivial⟩ zE (fun a13 c13=>?_);refine OD.litP (T:=Rp.val) (ys:=[_,_,_,_,_]) (.p rfl) zC underlying109 elem24 zE rfl rfl ⟨⟨rfl,rfl⟩,⟨rfl,rfl⟩,⟨rfl,rfl⟩,⟨rfl,rfl⟩,⟨rfl,rfl⟩,trivial⟩ zE (fun a32 c32=>?_);refine OD.q 1 rfl<|ODx.nil<|S.eachOf (OwnP Rp.u8 5) (bs:=[.slice a13 1 c13,.slice a18 (bytesOf x.1).length c18,.slice a22 8 c22,.slice a26 8 c26,.slice a31 8 c31]) (ys:=txtRows x) zG rfl ?_;refine S.pk ?_ (S.weaken (Sub.app zq zq) (key ((a32,c32),[.slice a13 1 c13,.slice a18 (bytesOf x.1).length c18,.slice a22 8 c22,.slice a26 8 c26,.slice a31 8 c31])))
        try dsimp only
        repeat (first|exact zpa|exact zpn|(apply zpc;focus (repeat (first|exact zh|apply zt)))|apply zps)
  refine S.factS (B:=RowsP Rp.u8 5 s.2 (txtRows x)) zD (fun _ z=>EachP.len z) fun hs5=>?_;refine zz 10 ?_;refine S.loopK2 (ι:=Nat) (κ:=(Option Addr × Nat) × List Value) (fun i p=>i≤x.2.2.2.1.length∧p.2.length=5+2*i) (fun i p=>[(37,.int .i64 (i:Int)),(4,.slice p.1.1 p.2.length p.1.2)]) [(1,_),(3,_),(35,_),(36,_)] (fun i p=>[RowsP Rp.u8 5 p.2 (txtRows x++dotRows (x.2.2.2.1.take i)),OwnP Rp.val 24 (.slice p.1.1 p.2.length p.1.2) p.2,OwnP Rp.u8 5 (.slice q.1 1 q.2) [goneB x.2.2.2.2.1]]) (fun i p=>x.2.2.2.1.length - i) (0) (s) (by exact ⟨by simp,hs5⟩) zq zq rfl fun i p hx ih=>?_;have hm1:=meltRefl (g:=g);obtain ⟨hx1,hx2⟩:=hx;refine zz 5 ?_;refine S.cd rfl (fun h38=>?_) fun h38=>?_
  ·have hi:i<x.2.2.2.1.length:=by omega
   have hrow:txtRows x++dotRows (x.2.2.2.1.take i)++[be x.2.2.2.1[i].1]++[be x.2.2.2.1[i].2.1]=txtRows x++dotRows (x.2.2.2.1.take (i+1)):=by rw [ztg hi,dotRows_snoc];simp
   refine zz 5 ?_;refine O.ia (.p rfl) underlying100 size191 rfl rfl rfl zA (h:=fun p39 cs39 hp39 hr39=>?_);obtain ⟨rfl,hi39,hj39⟩:=DotRp.open hr39;refine O.op (.p rfl) (.loadAgg isAgg191 zC rfl hp39) ?_;refine O.opE (.p rfl) (.alloc (cs:=[.int .i64 0,.int .i64 0]) zeroValue191 rfl) ?_;rintro _ _ ⟨b6,rfl,rfl⟩;refine zz 1 ?_;refine O.nil<|S.frzO zD fun g hs hm hd6=>?_;replace hg:=zfs hg hs;replace hR:=melted hR hm
   try replace h:=h.mono hs
   try replace k3:=k3.mono hs
   try replace k5:=k5.mono hs
   try replace k6:=k6.mono hs
   try replace hbx:=hbx.mono hs
   try replace hp39:=hp39.mono hs
   try replace hr39:=hr39.mono hs
   replace hm1:=meltTrans hm1 hm;clear hs hm;refine S.regionD (L:=[0,1,2,4,5,3,6,7,8,9]) F.mixed zC ?_;refine zz 5 ?_;refine OD.call0 (.p rfl) zC rfl zC rfl rfl (wNumber_c _) ?_;rintro _ _ ⟨a44,c44,rfl,rfl⟩;refine OD.call0 (.p rfl) zC rfl zC rfl rfl (wNumber_c _) ?_;rintro _ _ ⟨a47,c47,rfl,rfl⟩;refine OD.litP (T:=Rp.val) (ys:=[_,_]) (.p rfl) zC underlying109 elem24 zE rfl rfl ⟨⟨rfl,rfl⟩,⟨rfl,rfl⟩,trivial⟩ zE (fun a48 c48=>?_);refine OD.appendO (.p rfl) zC (T:=Rp.val) underlying109 elem24 zE rfl rfl zD zD zH zH (fun a49 c49=>?_);refine zz 7 ?_;refine S.each (A:=OwnP Rp.u8 5) (bs:=p.2) (b:=.slice a44 8 c44) (a:=be x.2.2.2.1[i].1) zD zD ?_;refine S.each (A:=OwnP Rp.u8 5) (bs:=p.2++[.slice a44 8 c44]) (b:=.slice a47 8 c47) (a:=be x.2.2.2.1[i].2.1) zD zD ?_;rw [hrow,zaa,← zla];exact S.melt hm1 (S.pw (ih (i+1) (((a49,c49),p.2++[.slice a44 8 c44,.slice a47 8 c47])) (by exact ⟨by omega,by simp;omega⟩) zB))
  ·clear ih
   have hi:i=x.2.2.2.1.length:=by omega
   subst hi;rw [List.take_length];have hrow:txtRows x++dotRows x.2.2.2.1++[[goneB x.2.2.2.2.1]]++[bytesOf x.2.2.2.2.2.1]=txtRows x++dotRows x.2.2.2.1++[[goneB x.2.2.2.2.1],bytesOf x.2.2.2.2.2.1]:=by simp
   have hfl:=txt_all x;refine zz 8 ?_;refine O.call0 (.p rfl) rfl zC rfl rfl (wBytes_c zA zH) ?_;rintro _ _ ⟨a56,c56,rfl,rfl⟩;refine O.opE (.p rfl) (.litP (T:=Rp.val) (ys:=[_,_]) underlying109 elem24 zE rfl rfl ⟨⟨rfl,rfl⟩,⟨rfl,rfl⟩,trivial⟩ zE) ?_;rintro _ _ ⟨a57,c57,rfl,rfl⟩;refine O.opE (.p rfl) (.appendO (T:=Rp.val) underlying109 elem24 zE rfl rfl zD zD zH zH) ?_;rintro _ _ ⟨a58,c58,rfl,rfl⟩;refine O.each (A:=OwnP Rp.u8 5) (bs:=p.2) (b:=.slice q.1 1 q.2) (a:=[goneB x.2.2.2.2.1]) zD zD ?_;refine O.each (A:=OwnP Rp.u8 5) (bs:=p.2++[.slice q.1 1 q.2]) (b:=.slice a56 (bytesOf x.2.2.2.2.2.1).length c56) (a:=bytesOf x.2.2.2.2.2.1) zD zD ?_;rw [hrow,zaa];refine O.frzR zD zD fun g hs hm hall=>?_;replace hg:=zfs hg hs;replace hR:=melted hR hm
   try replace h:=h.mono hs
   try replace k3:=k3.mono hs
   try replace k5:=k5.mono hs
   try replace k6:=k6.mono hs
   try replace hbx:=hbx.mono hs
   replace hm1:=meltTrans hm1 hm;clear hs hm;refine O.call0 (.p rfl) rfl zC rfl rfl ((wJoin_c hall (by rw [hfl];omega))) ?_;rintro _ _ ⟨a59,c59,rfl,rfl⟩;refine zz 2 ?_;rw [hfl];exact S.rt results354 rfl hR ⟨a59,c59,rfl,rfl⟩
theorem rRight_c {r:Fr} {cs:List Value} {x:RecT} (h:RecRp.rel r cs x):Con prog 328 #[.agg cs.toArray] r [] (Ret fun v η=>v=.bool (recOk x)∧η=[]):=by
 obtain ⟨xa3,xa5,xa6,xc3,xc5,xc6,rfl,k0,k1,k2,k3,k5,k6⟩:=RecRp.sh h;refine Con.o func328 fun g hg R hR=>?_;have h:=h.mono hg;have k6:=k6.mono hg
 cases e:shaped x with
 |false =>
  refine S.seq<|S.region rfl<|O.opE (.p rfl) (.box (cs:=[_,_,_,_,_,_,_]) rfl rfl) ?_;rintro _ _ ⟨b1,rfl,rfl⟩;refine zz 5 ?_;refine O.op (.p rfl) (.build (cs:=[_,_,_,_,_,_,_]) underlying415 rfl rfl rfl rfl rfl)<|O.v0 (.p rfl) rfl zC rfl rfl (wshaped_c h) ?_;refine O.sF 5 rfl (by exact e)<|zz 8 ?_;exact S.rt results328 rfl hR ⟨by simp [recOk,e],rfl⟩
 |true =>
  refine S.seq<|S.region rfl<|O.opE (.p rfl) (.box (cs:=[_,_,_,_,_,_,_]) rfl rfl) ?_;rintro _ _ ⟨b1,rfl,rfl⟩;refine zz 5 ?_;refine O.op (.p rfl) (.build (cs:=[_,_,_,_,_,_,_]) underlying415 rfl rfl rfl rfl rfl)<|O.v0 (.p rfl) rfl zC rfl rfl (wshaped_c h) ?_;refine O.sT 5 rfl (by exact e)<|zz 8 ?_;exact S.rt results328 rfl hR ⟨by simp [recOk,e];omega,rfl⟩
theorem rText_c {r:Fr} {cs:List Value} {x:RecT} (h:RecRp.rel r cs x) (hs:shaped x=true):Con prog 329 #[.agg cs.toArray] r [] (Ret fun v η=>∃ a c,v=.slice a (recText x).length c∧η=[OwnP Rp.u8 5 (.slice a (recText x).length c) (recText x)]):=by
 obtain ⟨xa3,xa5,xa6,xc3,xc5,xc6,rfl,k0,k1,k2,k3,k5,k6⟩:=RecRp.sh h;refine Con.o func329 fun g hg R hR=>?_;have h:=h.mono hg;refine S.seq<|S.region rfl<|O.opE (.p rfl) (.box (cs:=[_,_,_,_,_,_,_]) rfl rfl) ?_;rintro _ _ ⟨b1,rfl,rfl⟩;refine zz 5 ?_;refine O.op (.p rfl) (.build (cs:=[_,_,_,_,_,_,_]) underlying415 rfl rfl rfl rfl rfl)<|O.opE (.p rfl) (.alloc (cs:=[.string ⟨#[]⟩,.int .i64 0,.int .i64 0,.slice none 0 0,.bool false,.slice none 0 0,.slice none 0 0]) zeroValue415 rfl) ?_;rintro _ _ ⟨b3,rfl,rfl⟩;refine zz 6 ?_;refine O.v0 (.p rfl) rfl zC rfl rfl (wshaped_c h) ?_;refine O.sT 7 rfl (by exact hs) ?_;refine zz 7 ?_;refine O.call0 (.p rfl) rfl zC rfl rfl (wtext_c (by first|assumption|exact Rp.rel.mono zK hg) zK) ?_;rintro _ _ ⟨a10,c10,rfl,rfl⟩;refine zz 2 ?_;exact S.rt results329 rfl hR ⟨a10,c10,rfl,rfl⟩
def recOut (x:RecT):List UInt8:=if recOk x then recB x else []
def recErr (x:RecT):Int:=if recOk x then 0 else 4
theorem rPut_c {r:Fr} {cs:List Value} {x:RecT} (h:RecRp.rel r cs x):Con prog 292 #[.agg cs.toArray] r [] (Ret fun v η=>∃ a c,v=.tuple #[.slice a (recOut x).length c,.int .i64 (recErr x)]∧η=[OwnP Rp.u8 5 (.slice a (recOut x).length c) (recOut x)]):=by
 obtain ⟨xa3,xa5,xa6,xc3,xc5,xc6,rfl,k0,k1,k2,k3,k5,k6⟩:=RecRp.sh h;refine Con.o func292 fun g hg R hR=>?_;have h:=h.mono hg;have k6:=k6.mono hg
 cases e:recOk x with
 |false =>
  have e1:recOut x=[]:=by simp [recOut,e]
  have e2:recErr x=4:=by simp [recErr,e]
  rw [e1,e2] at hR;refine S.seq<|S.region rfl<|O.opE (.p rfl) (.box (cs:=[_,_,_,_,_,_,_]) rfl rfl) ?_;rintro _ _ ⟨b1,rfl,rfl⟩;refine zz 7 ?_;refine O.v0 (.p rfl) rfl zC rfl rfl (rRight_c h) ?_;refine O.sF 5 rfl (by exact e) ?_;refine zz 8 ?_;refine S.addNil (T:=Rp.u8) (e:=5) ?_;refine S.ret2 results292 rfl rfl fun w hw=>Holds.end_ hR hw ?_;exact pk ⟨none,0,rfl,rfl⟩
 |true =>
  have e1:recOut x=recB x:=by simp [recOut,e]
  have e2:recErr x=0:=by simp [recErr,e]
  have hl:=recB_le e;obtain ⟨hs,hs2⟩:=recOk_iff.1 e;have hfl:[recText x,x.2.2.2.2.2.2.1].flatten=recB x:=by simp [recB]
  rw [e1,e2] at hR;refine S.seq<|S.region rfl<|O.opE (.p rfl) (.box (cs:=[_,_,_,_,_,_,_]) rfl rfl) ?_;rintro _ _ ⟨b1,rfl,rfl⟩;refine zz 7 ?_;refine O.v0 (.p rfl) rfl zC rfl rfl (rRight_c h) ?_;refine O.sT 5 rfl (by exact e) ?_;refine zz 5 ?_;refine S.frzO zD fun g hs hm hbx=>?_;replace hg:=zfs hg hs;replace hR:=melted hR hm
  try replace h:=h.mono hs
  try replace k6:=k6.mono hs
  clear hs hm;refine S.regionD (L:=[0,2,3,1,4,5,6,7]) F.mixed zC ?_;refine .quiet (.p rfl) rfl (fun _=>.loadAgg isAgg102 zC rfl hbx) ?_;refine zz 2 ?_;refine OD.call0 (.p rfl) zC rfl zC rfl rfl (rText_c (by first|assumption|exact Rp.rel.mono zK hg) zK) ?_;rintro _ _ ⟨a8,c8,rfl,rfl⟩;refine OD.litP (T:=Rp.val) (ys:=[_,_]) (.p rfl) zC underlying109 elem24 zE rfl rfl ⟨⟨rfl,rfl⟩,⟨rfl,rfl⟩,trivial⟩ zE (fun a11 c11=>?_);refine OD.callB (.p rfl) zC rfl zC rfl rfl (bs:=[OwnP Rp.val 24 (.slice a11 2 c11) [.slice a8 (recText x).length c8,.slice xa6 x.2.2.2.2.2.2.1.length xc6],OwnP Rp.u8 5 (.slice a8 (recText x).length c8) (recText x)]) zG (fun m hm hd=>wJoin_c (xss:=[recText x,x.2.2.2.2.2.2.1]) ((hm.arr.right hd).rows ⟨hm.tail.arr.right hd,k6.left,trivial⟩) (by rw [hfl];omega)) ?_;rintro _ _ ⟨a12,c12,rfl,rfl⟩;refine zz 3 ?_;rw [hfl];refine S.ret2 results292 rfl rfl fun w hw=>Holds.end_ hR hw ?_;exact pk ⟨a12,c12,rfl,rfl⟩
theorem rOver_c {r:Fr} {cs ds:List Value} {x y:RecT} (h:RecRp.rel r cs x) (h' :RecRp.rel r ds y):Con prog 297 #[.agg cs.toArray,.agg ds.toArray] r [] (Ret fun v η=>v=.bool (over x y)∧η=[]):=by
 obtain ⟨xa3,xa5,xa6,xc3,xc5,xc6,rfl,k0,k1,k2,k3,k5,k6⟩:=RecRp.sh h;obtain ⟨ya3,ya5,ya6,yc3,yc5,yc6,rfl,l0,l1,l2,l3,l5,l6⟩:=RecRp.sh h';refine Con.o func297 fun g hg R hR=>?_;have h:=h.mono hg;have h' :=h'.mono hg;have k3:=k3.mono hg;refine S.seq<|S.region rfl<|O.opE (.p rfl) (.box (cs:=[_,_,_,_,_,_,_]) rfl rfl) ?_;rintro _ _ ⟨b2,rfl,rfl⟩;refine O.opE (.p rfl) (.box (cs:=[_,_,_,_,_,_,_]) rfl rfl) ?_;rintro _ _ ⟨b3,rfl,rfl⟩;refine zz 3 ?_;refine S.frzO zD fun g hs hm hb3=>?_;replace hg:=zfs hg hs;replace hR:=melted hR hm
 try replace h:=h.mono hs
 try replace h' :=h'.mono hs
 try replace k3:=k3.mono hs
 clear hs hm;refine S.frzO zD fun g hs hm hb2=>?_;replace hg:=zfs hg hs;replace hR:=melted hR hm
 try replace h:=h.mono hs
 try replace h' :=h'.mono hs
 try replace k3:=k3.mono hs
 try replace hb3:=hb3.mono hs
 clear hs hm;refine S.regionD (L:=.range 8) F.mixed zC ?_;refine .quiet (.p rfl) rfl (fun _=>.loadAgg isAgg102 zC rfl hb2) ?_;refine .quiet (.p rfl) rfl (fun _=>.build (cs:=[_,_,_,_,_,_,_]) underlying415 rfl rfl rfl rfl rfl)<|.quiet (.p rfl) rfl (fun _=>.loadAgg isAgg102 zC rfl hb3) ?_;refine .quiet (.p rfl) rfl (fun _=>.build (cs:=[_,_,_,_,_,_,_]) underlying415 rfl rfl rfl rfl rfl)<|.lazy rfl zC rfl fun b5=>?_;refine .lazy rfl zC rfl fun b6=>?_;refine OD.storeObj rfl zC zC rfl rfl rfl rfl zD zM ?_;refine OD.storeObj rfl zC zC rfl rfl rfl rfl zD zM ?_;refine ODx.nil<|S.seq<|S.objIs (b:=b5) (cs' :=[.string (str x.1),.int .i64 x.2.1,.int .i64 x.2.2.1,.slice xa3 x.2.2.2.1.length xc3,.bool x.2.2.2.2.1,.slice xa5 x.2.2.2.2.2.1.length xc5,.slice xa6 x.2.2.2.2.2.2.1.length xc6]) zD rfl ?_;refine S.objIs (b:=b6) (cs' :=[.string (str y.1),.int .i64 y.2.1,.int .i64 y.2.2.1,.slice ya3 y.2.2.2.1.length yc3,.bool y.2.2.2.2.1,.slice ya5 y.2.2.2.2.2.1.length yc5,.slice ya6 y.2.2.2.2.2.2.1.length yc6]) zD rfl ?_;refine S.frzO zD fun g hs hm hb5=>?_;replace hg:=zfs hg hs;replace hR:=melted hR hm
 try replace h:=h.mono hs
 try replace h' :=h'.mono hs
 try replace k3:=k3.mono hs
 try replace hb3:=hb3.mono hs
 try replace hb2:=hb2.mono hs
 clear hs hm;refine S.frzO zD fun g hs hm hb6=>?_;replace hg:=zfs hg hs;replace hR:=melted hR hm
 try replace h:=h.mono hs
 try replace h' :=h'.mono hs
 try replace k3:=k3.mono hs
 try replace hb3:=hb3.mono hs
 try replace hb2:=hb2.mono hs
 try replace hb5:=hb5.mono hs
 clear hs hm
 by_cases e1:x.1=y.1
 ·cases e2:shaped x with
  |false =>
   refine S.regionD (L:=.range 21) F.mixed zC ?_;refine zz 4 ?_;refine .quiet (.p rfl) rfl (fun _=>.eqlS rfl rfl)<|OD.sT 15 rfl (by simp [e1]) ?_;refine OD.q 1 rfl<|.quiet (.g rfl rfl) rfl (fun _=>.loadAgg isAgg415 zC rfl hb6) ?_;refine OD.v0 (.g rfl rfl) zC rfl zC rfl rfl (wshaped_c h) ?_;refine OD.sF 18 rfl (by exact e2)<|zz 14 ?_;exact S.rt results297 rfl hR ⟨by simp [over,e2],rfl⟩
  |true =>
   cases e3:shaped y with
   |false =>
    refine S.regionD (L:=.range 21) F.mixed zC ?_;refine zz 4 ?_;refine .quiet (.p rfl) rfl (fun _=>.eqlS rfl rfl)<|OD.sT 15 rfl (by simp [e1]) ?_;refine OD.q 1 rfl<|.quiet (.g rfl rfl) rfl (fun _=>.loadAgg isAgg415 zC rfl hb6) ?_;refine OD.v0 (.g rfl rfl) zC rfl zC rfl rfl (wshaped_c h) ?_;refine OD.sT 18 rfl (by exact e2) ?_;refine OD.q 2 rfl<|.quiet (.g rfl rfl) rfl (fun _=>.loadAgg isAgg415 zC rfl hb5) ?_;refine OD.v0 (.g rfl rfl) zC rfl zC rfl rfl (wshaped_c h') ?_;refine OD.sF 22 rfl (by exact e3)<|zz 10 ?_;exact S.rt results297 rfl hR ⟨by simp [over,e3],rfl⟩
   |true =>
    refine S.regionD (L:=.range 21) F.mixed zC ?_;refine zz 4 ?_;refine .quiet (.p rfl) rfl (fun _=>.eqlS rfl rfl)<|OD.sT 15 rfl (by simp [e1]) ?_;refine OD.q 1 rfl<|.quiet (.g rfl rfl) rfl (fun _=>.loadAgg isAgg415 zC rfl hb6) ?_;refine OD.v0 (.g rfl rfl) zC rfl zC rfl rfl (wshaped_c h) ?_;refine OD.sT 18 rfl (by exact e2) ?_;refine OD.q 2 rfl<|.quiet (.g rfl rfl) rfl (fun _=>.loadAgg isAgg415 zC rfl hb5) ?_;refine OD.v0 (.g rfl rfl) zC rfl zC rfl rfl (wshaped_c h') ?_;refine OD.sT 22 rfl (by exact e3)<|zz 4 ?_;refine .quiet (.g rfl rfl) rfl (fun _=>.loadAgg isAgg415 zC rfl hb5) ?_;refine OD.v0 (.g rfl rfl) zC rfl zC rfl rfl (wdot_c h') ?_;refine OD.v0 (.g rfl rfl) zC rfl zC rfl rfl (vHas_c (rDot y) rfl k3)<|zz 3 ?_;exact S.rt results297 rfl hR ⟨by simp [over,e1,e2,e3],rfl⟩
 ·
  refine S.regionD (L:=.range 21) F.mixed zC ?_;refine zz 4 ?_;refine .quiet (.p rfl) rfl (fun _=>.eqlS rfl rfl)<|OD.sF 15 rfl (by simp [e1]) ?_;refine zz 17 ?_;exact S.rt results297 rfl hR ⟨by simp [over,e1],rfl⟩
def shp:List PanicEntry:=[{ v:=.iface 44 (.int .i64 4),recovered:=false }]
theorem smust_c {r:Fr} (b:Bool):Con prog 226 #[.bool b] r [] (RetP (fun v η=>b=true∧v=.tuple #[]∧η=[]) (fun ch η=>b=false∧ch=shp∧η=[])):=by
 refine Con.o func226 fun g hg R hR=>?_;refine zz 3 ?_;refine O.op (.p rfl) ((by first|exact .notD rfl|exact .not rfl))<|zz 1 ?_;refine S.cd rfl (fun h3=>?_) fun h3=>?_
 ·refine S.region rfl<|O.op (.p rfl) (.mkIface underlying44 rfl)<|O.panic rfl rfl (fun w hw=>?_)
  exact hR _ [] w ⟨by simpa using h3,rfl,rfl⟩ hw
 ·refine S.skip<|S.end0 results226 fun w hw=>hR _ _ w ?_ hw
  exact ⟨by simpa using h3,rfl,rfl⟩
theorem scompare_c {r:Fr} {cs ds:List Value} {x y:RecT} (h:ItRp.rel r cs x) (h' :ItRp.rel r ds y):Con prog 227 #[.agg cs.toArray,.agg ds.toArray] r [] (Ret fun v η=>v=.int .i64 (cmpR x y)∧η=[]):=by
 obtain ⟨xa3,xa5,xa6,xa7,xc3,xc5,xc6,xc7,rfl,_,_⟩:=ItRp.sh h;obtain ⟨ya3,ya5,ya6,ya7,yc3,yc5,yc6,yc7,rfl,_,_⟩:=ItRp.sh h';refine Con.o func227 fun g hg R hR=>?_;have hc1:=cmpZ_in x.2.1 y.2.1;have hc2:=cmpZ_in x.2.2.1 y.2.2.1;refine S.seq<|S.region rfl<|O.opE (.p rfl) (.box (cs:=[_,_,_,_,_,_,_,_]) rfl rfl) ?_;rintro _ _ ⟨b2,rfl,rfl⟩;refine O.opE (.p rfl) (.box (cs:=[_,_,_,_,_,_,_,_]) rfl rfl) ?_;rintro _ _ ⟨b3,rfl,rfl⟩;refine zz 3 ?_;refine S.frzO zD fun g hs hm hb3=>?_;replace hg:=zfs hg hs;replace hR:=melted hR hm;clear hs hm;refine S.frzO zD fun g hs hm hb2=>?_;replace hg:=zfs hg hs;replace hR:=melted hR hm
 try replace hb3:=hb3.mono hs
 clear hs hm;refine S.regionD (L:=[0,1,2,3,4,5,7,8,9,10,11,12,6,13,14,15,16]) F.mixed zC ?_;refine zz 12 ?_;refine OD.v0 (.p rfl) zC rfl zC rfl rfl (compare_c _ _) ?_;refine OD.v0 (.p rfl) zC rfl zC rfl rfl (compare_c _ _) ?_;refine OD.litP (T:=Rp.i64) (ys:=[_,_]) (.p rfl) zC underlying104 elem3 zE rfl rfl ⟨⟨rfl,by first|assumption|(constructor<;>omega)⟩,⟨rfl,by first|assumption|(constructor<;>omega)⟩,trivial⟩ zE (fun a19 c19=>?_);refine OD.callS (.p rfl) zC rfl zC rfl rfl zD cmpOr_d ?_;rintro _ _ ⟨rfl,rfl⟩;refine OD.q 1 rfl<|ODx.nil<|S.ret results227 rfl fun w hw=>Holds.end_ hR hw ?_;refine ⟨_,⟨congrArg _ ?_,rfl⟩,zP⟩;unfold cmpR firstNZ firstNZ firstNZ
 split
 ·rfl
 ·split
  ·rfl
  ·rename_i h2;exact (Classical.not_not.1 h2).symm
theorem sadd_c {r:Fr} {tR:TypeId} {b:Nat} {va:Value} {xs ys:List RecT} (ha:Arr RecRp r va ys) (h1:oneK xs=true) (hl:xs.length+ys.length≤100000000000) :
  Con prog 225 #[.pointer (some ⟨b,0,none⟩),va] r [RowP r tR 220 5 b xs]
   (RetP (fun v η=>oneK (xs++ys)=true∧v=.tuple #[]∧η=[RowP r tR 220 5 b (xs++ys)]) (fun ch η=>oneK (xs++ys)=false∧ch=shp∧η=[])):=by
 have hrec:=ha;refine Con.o func225 fun g hg R hR=>?_;have ha:=ha.mono hg;obtain ⟨a1,c1,rfl⟩:=ha.shape;refine zz 7 ?_;refine S.conv (B:=RowP r tR 220 5 b xs) (C:=RowP r tR 220 5 b (xs++ys.take 0)) zD (fun m x=>⟨m,Fr.sub_refl _,by rw [List.take_zero,List.append_nil];exact x⟩) ?_;refine S.loopK (ι:=Nat) (fun i=>i≤ys.length∧oneK (xs++ys.take i)=true) (fun i=>[(10,.int .i64 (i:Int))]) [(0,_),(8,_),(9,_)] (fun i=>[RowP r tR 220 5 b (xs++ys.take i)]) (fun i=>ys.length - i) (0) (by exact ⟨by simp,by simpa using h1⟩) zq zq rfl fun i hx ih=>?_;have hm1:=meltRefl (g:=g);obtain ⟨hx1,hx2⟩:=hx;refine zz 5 ?_;refine S.cd rfl (fun h11=>?_) fun h11=>?_
 ·have hi:i<ys.length:=by omega
  have htk:xs++ys.take (i+1)=(xs++ys.take i)++[ys[i]]:=by rw [ztg hi,zaa]
  have hsn:=oneK_snoc (x:=ys[i]) hx2;rw [← htk] at hsn;have hbad:oneK (xs++ys.take (i+1))=false→oneK (xs++ys)=false:=fun q=>by
   rw [Bool.eq_false_iff];intro q2;have:=oneK_take (xs.length+(i+1)) q2;rw [List.take_append,List.take_of_length_le (Nat.le_add_right _ _),Nat.add_sub_cancel_left,q] at this
   cases this
  have hlen:(xs++ys.take i).length=xs.length+i:=by simp;omega
  generalize hzs:xs++ys.take i=zs at hx2 hsn htk hlen ⊢;refine zz 5 ?_;refine O.iy hrec hg (h:=fun p12 cs12 hp12 hrr12=>?_);have hr12:=Rp.rel.mono hrr12 hg;obtain ⟨ra3_12,ra5_12,ra6_12,rc3_12,rc5_12,rc6_12,rfl,ho0_12,ho1_12,ho2_12,ha3_12,ha5_12,ha6_12⟩:=RecRp.sh hr12;refine O.op (.p rfl) (.loadAgg isAgg102 zC rfl hp12) ?_;refine O.opE (.p rfl) (.alloc (cs:=[.string ⟨#[]⟩,.int .i64 0,.int .i64 0,.slice none 0 0,.bool false,.slice none 0 0,.slice none 0 0]) zeroValue102 rfl) ?_;rintro _ _ ⟨b5,rfl,rfl⟩;refine zz 5 ?_;refine O.call0 (.p rfl) rfl zC rfl rfl (rPut_c (by first|assumption|exact Rp.rel.mono zK hg)) ?_;rintro _ _ ⟨a16,c16,rfl,rfl⟩;refine zz 7 ?_;refine S.objIs (b:=b5) (cs' :=[.string (str ys[i].1),.int .i64 ys[i].2.1,.int .i64 ys[i].2.2.1,.slice ra3_12 ys[i].2.2.2.1.length rc3_12,.bool ys[i].2.2.2.2.1,.slice ra5_12 ys[i].2.2.2.2.2.1.length rc5_12,.slice ra6_12 ys[i].2.2.2.2.2.2.1.length rc6_12]) zD rfl ?_
  cases e:recOk ys[i] with
  |false =>
   have hno:oneK (xs++ys)=false:=hbad (by rw [Bool.eq_false_iff];intro q;have:=(hsn.1 q).1;rw [e] at this;cases this);refine S.regionD (L:=.range 24) F.mixed zC ?_;refine zz 2 ?_;refine OD.sF 20 rfl (by simp [recErr,e]) ?_;refine OD.q 21 rfl<|OD.callP0 (.p rfl) zC rfl zC rfl rfl (smust_c _) (fun ch η' w hX hW=>by (obtain ⟨hb,rfl,rfl⟩:=hX;exact hR _ _ w ⟨hno,rfl,rfl⟩ hW.drop_all)) ?_;rintro _ _ ⟨hb42,rfl,rfl⟩;exact absurd hb42 zI
  |true =>
   have eo:recOut ys[i]=recB ys[i]:=by simp [recOut,e]
   rw [eo]
   by_cases h0:zs.length=0
   ·have hyes:=hsn.2 ⟨e,fun h=>absurd h zB⟩
    refine S.frzO zD fun g hs hm hb5=>?_;replace hg:=zfs hg hs;replace hR:=melted hR hm
    try replace ha:=ha.mono hs
    try replace hp12:=hp12.mono hs
    try replace hr12:=hr12.mono hs
    try replace ha3_12:=ha3_12.mono hs
    try replace ha5_12:=ha5_12.mono hs
    try replace ha6_12:=ha6_12.mono hs
    replace hm1:=meltTrans hm1 hm;clear hs hm;have hg_q:=hg;have hR_q:=hR
    try have ha_q:=ha
    try have hp12_q:=hp12
    try have hr12_q:=hr12
    try have ha3_12_q:=ha3_12
    try have ha5_12_q:=ha5_12
    try have ha6_12_q:=ha6_12
    try have hb5_q:=hb5
    refine S.frzH (B:=RowP r tR 220 5 b zs) zD fun gq hsq ⟨mq,hmq,hsmq⟩ hbq=>?_;replace hg:=zfs hg hsq;replace hR:=backR hR hbq
    try replace ha:=ha.mono hsq
    try replace hp12:=hp12.mono hsq
    try replace hr12:=hr12.mono hsq
    try replace ha3_12:=ha3_12.mono hsq
    try replace ha5_12:=ha5_12.mono hsq
    try replace ha6_12:=ha6_12.mono hsq
    try replace hb5:=hb5.mono hsq
    obtain ⟨qa,qc,hqat,hqar⟩:=RowP.read hg hsmq hmq;refine S.regionD (L:=.range 24) F.mixed zC ?_;refine zz 2 ?_;refine OD.sT 20 rfl (by simp [recErr,e]) ?_;refine zz 7 ?_;refine OD.sT 27 rfl (by exact zdt zB) ?_;refine OD.q 14 rfl<|OD.callP0 (.p rfl) zC rfl zC rfl rfl (smust_c _) (fun ch η' w hX hW=>by (exact absurd hX.1 zI)) ?_;rintro _ _ ⟨hb42,rfl,rfl⟩;refine ODx.nil<|S.back hbq ?_;replace hg:=hg_q;replace hR:=hR_q
    try replace ha:=ha_q
    try replace hp12:=hp12_q
    try replace hr12:=hr12_q
    try replace ha3_12:=ha3_12_q
    try replace ha5_12:=ha5_12_q
    try replace ha6_12:=ha6_12_q
    try replace hb5:=hb5_q
    clear hg_q hR_q;refine S.open (A:=RowP r tR 220 5 b zs) zD (fun m x=>x) fun p=>?_;simp only [List.cons_append,List.nil_append];refine S.factS (B:=EachP (ItO r 5) p.2 zs) zD (fun _ z=>EachP.len z) fun hcl=>?_;have hpl:p.2.length≤100000000000:=by omega
    have hg_o:=hg;have hR_o:=hR
    try have ha_o:=ha
    try have hp12_o:=hp12
    try have hr12_o:=hr12
    try have ha3_12_o:=ha3_12
    try have ha5_12_o:=ha5_12
    try have ha6_12_o:=ha6_12
    try have hb5_o:=hb5
    refine S.frzH (B:=obj b tR [.slice p.1.1 zs.length p.1.2]) zD fun go hso ⟨mo,hmo,hsmo⟩ hbo=>?_;replace hg:=zfs hg hso;replace hR:=backR hR hbo
    try replace ha:=ha.mono hso
    try replace hp12:=hp12.mono hso
    try replace hr12:=hr12.mono hso
    try replace ha3_12:=ha3_12.mono hso
    try replace ha5_12:=ha5_12.mono hso
    try replace ha6_12:=ha6_12.mono hso
    try replace hb5:=hb5.mono hso
    have hato:=(obj_at hmo).mono hsmo;refine S.regionD (L:=.range 13) F.mixed zC ?_;refine zz 5 ?_;refine .quiet (.p rfl) rfl (fun _=>.loadAgg isAgg102 zC rfl hb5) ?_;refine OD.q 1 rfl<|.quiet (.p rfl) rfl (fun _=>.build (cs:=[_,_,_,_,_,_,_,_]) underlying220 rfl rfl rfl rfl rfl)<|OD.litP (T:=(Rp.cells 8)) (ys:=[_]) (.p rfl) zC underlying216 elem220 zE rfl rfl ⟨⟨rfl,rfl,by first|(simp;done)|(intro v hv;simp [Value.cells] at hv;rcases hv with rfl|rfl<;>rfl)|(refine List.forall_mem_cons.2 ⟨rfl,?_⟩;repeat (first|exact (fun _ h=>absurd h List.not_mem_nil)|refine List.forall_mem_cons.2 ⟨rfl,?_⟩))⟩,trivial⟩ zE (fun a51 c51=>?_);refine OD.appendO (.p rfl) zC (T:=(Rp.cells 8)) underlying216 elem220 zE rfl rfl zD zD zH zH (fun a52 c52=>?_);refine zz 2 ?_;refine OD.last1 rfl zC (fun _ hw=>hbo hw) flat216 rfl rfl zN zD zX ?_;replace hg:=hg_o;replace hR:=hR_o
    try replace ha:=ha_o
    try replace hp12:=hp12_o
    try replace hr12:=hr12_o
    try replace ha3_12:=ha3_12_o
    try replace ha5_12:=ha5_12_o
    try replace ha6_12:=ha6_12_o
    try replace hb5:=hb5_o
    clear hg_o hR_o;refine zz 5 ?_;refine S.ownIs (T:=Rp.cells 8) (e:=220) (v' :=.slice a52 (zs++[ys[i]]).length c52) (xs' :=p.2++[[.string (str ys[i].1),.int .i64 ys[i].2.1,.int .i64 ys[i].2.2.1,.slice ra3_12 ys[i].2.2.2.1.length rc3_12,.bool ys[i].2.2.2.2.1,.slice ra5_12 ys[i].2.2.2.2.2.1.length rc5_12,.slice ra6_12 ys[i].2.2.2.2.2.2.1.length rc6_12,.slice a16 (recB ys[i]).length c16]]) zD (by simp [hcl]) zV ?_;refine S.objIs (b:=b) (cs' :=[.slice a52 (zs++[ys[i]]).length c52]) zD (by simp [hcl]) ?_;refine S.conv (B:=OwnP Rp.u8 5 (.slice a16 (recB ys[i]).length c16) (recB ys[i])) (C:=ItO r 5 [.string (str ys[i].1),.int .i64 ys[i].2.1,.int .i64 ys[i].2.2.1,.slice ra3_12 ys[i].2.2.2.1.length rc3_12,.bool ys[i].2.2.2.2.1,.slice ra5_12 ys[i].2.2.2.2.2.1.length rc5_12,.slice ra6_12 ys[i].2.2.2.2.2.2.1.length rc6_12,.slice a16 (recB ys[i]).length c16] ys[i]) zD (fun m x=>⟨m,Fr.sub_refl _,[.string (str ys[i].1),.int .i64 ys[i].2.1,.int .i64 ys[i].2.2.1,.slice ra3_12 ys[i].2.2.2.1.length rc3_12,.bool ys[i].2.2.2.2.1,.slice ra5_12 ys[i].2.2.2.2.2.1.length rc5_12,.slice ra6_12 ys[i].2.2.2.2.2.2.1.length rc6_12],a16,c16,rfl,hrr12,x⟩) ?_
    refine S.each (A:=ItO r 5) (bs:=p.2) (b:=[.string (str ys[i].1),.int .i64 ys[i].2.1,.int .i64 ys[i].2.2.1,.slice ra3_12 ys[i].2.2.2.1.length rc3_12,.bool ys[i].2.2.2.2.1,.slice ra5_12 ys[i].2.2.2.2.2.1.length rc5_12,.slice ra6_12 ys[i].2.2.2.2.2.2.1.length rc6_12,.slice a16 (recB ys[i]).length c16]) (a:=ys[i]) zD zD ?_;refine S.foldS (A:=RowP r tR 220 5 b (zs++[ys[i]])) (bs:=[obj b tR [.slice a52 (zs++[ys[i]]).length c52],OwnP (Rp.cells 8) 220 (.slice a52 (zs++[ys[i]]).length c52) (p.2++[[.string (str ys[i].1),.int .i64 ys[i].2.1,.int .i64 ys[i].2.2.1,.slice ra3_12 ys[i].2.2.2.1.length rc3_12,.bool ys[i].2.2.2.2.1,.slice ra5_12 ys[i].2.2.2.2.2.1.length rc5_12,.slice ra6_12 ys[i].2.2.2.2.2.2.1.length rc6_12,.slice a16 (recB ys[i]).length c16]]),EachP (ItO r 5) (p.2++[[.string (str ys[i].1),.int .i64 ys[i].2.1,.int .i64 ys[i].2.2.1,.slice ra3_12 ys[i].2.2.2.1.length rc3_12,.bool ys[i].2.2.2.2.1,.slice ra5_12 ys[i].2.2.2.2.2.1.length rc5_12,.slice ra6_12 ys[i].2.2.2.2.2.2.1.length rc6_12,.slice a16 (recB ys[i]).length c16]]) (zs++[ys[i]])]) zG (fun m x=>⟨((a52,c52),p.2++[[.string (str ys[i].1),.int .i64 ys[i].2.1,.int .i64 ys[i].2.2.1,.slice ra3_12 ys[i].2.2.2.1.length rc3_12,.bool ys[i].2.2.2.2.1,.slice ra5_12 ys[i].2.2.2.2.2.1.length rc5_12,.slice ra6_12 ys[i].2.2.2.2.2.2.1.length rc6_12,.slice a16 (recB ys[i]).length c16]]),x⟩) ?_;rw [← htk];exact S.melt hm1 (S.pw (ih (i+1) (by exact ⟨by omega,hyes⟩) zB))
   ·by_cases hk:ys[i].1=(zs[0]'zB).1
    ·have hyes:=hsn.2 ⟨e,fun h=>hk⟩
     refine S.frzO zD fun g hs hm hb5=>?_;replace hg:=zfs hg hs;replace hR:=melted hR hm
     try replace ha:=ha.mono hs
     try replace hp12:=hp12.mono hs
     try replace hr12:=hr12.mono hs
     try replace ha3_12:=ha3_12.mono hs
     try replace ha5_12:=ha5_12.mono hs
     try replace ha6_12:=ha6_12.mono hs
     replace hm1:=meltTrans hm1 hm;clear hs hm;have hg_q:=hg;have hR_q:=hR
     try have ha_q:=ha
     try have hp12_q:=hp12
     try have hr12_q:=hr12
     try have ha3_12_q:=ha3_12
     try have ha5_12_q:=ha5_12
     try have ha6_12_q:=ha6_12
     try have hb5_q:=hb5
     refine S.frzH (B:=RowP r tR 220 5 b zs) zD fun gq hsq ⟨mq,hmq,hsmq⟩ hbq=>?_;replace hg:=zfs hg hsq;replace hR:=backR hR hbq
     try replace ha:=ha.mono hsq
     try replace hp12:=hp12.mono hsq
     try replace hr12:=hr12.mono hsq
     try replace ha3_12:=ha3_12.mono hsq
     try replace ha5_12:=ha5_12.mono hsq
     try replace ha6_12:=ha6_12.mono hsq
     try replace hb5:=hb5.mono hsq
     obtain ⟨qa,qc,hqat,hqar⟩:=RowP.read hg hsmq hmq;refine S.regionD (L:=.range 24) F.mixed zC ?_;refine zz 2 ?_;refine OD.sT 20 rfl (by simp [recErr,e]) ?_;refine zz 7 ?_;refine OD.sF 27 rfl (by exact zdf zB) ?_;refine zz 5 ?_;refine OD.ia (.g rfl rfl) underlying216 size220 rfl rfl (show _=(((0):Nat):Int) by omega) zA (h:=fun p33 cs33 hp33 hr33=>?_);obtain ⟨ia3_33,ia5_33,ia6_33,ia7_33,ic3_33,ic5_33,ic6_33,ic7_33,rfl,hr1_33,ha7_33⟩:=ItRp.sh hr33;refine zz 5 ?_;refine .quiet (.g rfl rfl) rfl (fun _=>.eqlS rfl rfl)<|OD.sT 39 rfl (by simp [hk]) ?_;refine OD.q 2 rfl<|OD.callP0 (.p rfl) zC rfl zC rfl rfl (smust_c _) (fun ch η' w hX hW=>by (exact absurd hX.1 zI)) ?_;rintro _ _ ⟨hb42,rfl,rfl⟩;refine ODx.nil<|S.back hbq ?_;replace hg:=hg_q;replace hR:=hR_q
     try replace ha:=ha_q
     try replace hp12:=hp12_q
     try replace hr12:=hr12_q
     try replace ha3_12:=ha3_12_q
     try replace ha5_12:=ha5_12_q
     try replace ha6_12:=ha6_12_q
     try replace hb5:=hb5_q
     clear hg_q hR_q;refine S.open (A:=RowP r tR 220 5 b zs) zD (fun m x=>x) fun p=>?_;simp only [List.cons_append,List.nil_append];refine S.factS (B:=EachP (ItO r 5) p.2 zs) zD (fun _ z=>EachP.len z) fun hcl=>?_;have hpl:p.2.length≤100000000000:=by omega
     have hg_o:=hg;have hR_o:=hR
     try have ha_o:=ha
     try have hp12_o:=hp12
     try have hr12_o:=hr12
     try have ha3_12_o:=ha3_12
     try have ha5_12_o:=ha5_12
     try have ha6_12_o:=ha6_12
     try have hb5_o:=hb5
     refine S.frzH (B:=obj b tR [.slice p.1.1 zs.length p.1.2]) zD fun go hso ⟨mo,hmo,hsmo⟩ hbo=>?_;replace hg:=zfs hg hso;replace hR:=backR hR hbo
     try replace ha:=ha.mono hso
     try replace hp12:=hp12.mono hso
     try replace hr12:=hr12.mono hso
     try replace ha3_12:=ha3_12.mono hso
     try replace ha5_12:=ha5_12.mono hso
     try replace ha6_12:=ha6_12.mono hso
     try replace hb5:=hb5.mono hso
     have hato:=(obj_at hmo).mono hsmo;refine S.regionD (L:=.range 13) F.mixed zC ?_;refine zz 5 ?_;refine .quiet (.p rfl) rfl (fun _=>.loadAgg isAgg102 zC rfl hb5) ?_;refine OD.q 1 rfl<|.quiet (.p rfl) rfl (fun _=>.build (cs:=[_,_,_,_,_,_,_,_]) underlying220 rfl rfl rfl rfl rfl)<|OD.litP (T:=(Rp.cells 8)) (ys:=[_]) (.p rfl) zC underlying216 elem220 zE rfl rfl ⟨⟨rfl,rfl,by first|(simp;done)|(intro v hv;simp [Value.cells] at hv;rcases hv with rfl|rfl<;>rfl)|(refine List.forall_mem_cons.2 ⟨rfl,?_⟩;repeat (first|exact (fun _ h=>absurd h List.not_mem_nil)|refine List.forall_mem_cons.2 ⟨rfl,?_⟩))⟩,trivial⟩ zE (fun a51 c51=>?_);refine OD.appendO (.p rfl) zC (T:=(Rp.cells 8)) underlying216 elem220 zE rfl rfl zD zD zH zH (fun a52 c52=>?_);refine zz 2 ?_;refine OD.last1 rfl zC (fun _ hw=>hbo hw) flat216 rfl rfl zN zD zX ?_;replace hg:=hg_o;replace hR:=hR_o
     try replace ha:=ha_o
     try replace hp12:=hp12_o
     try replace hr12:=hr12_o
     try replace ha3_12:=ha3_12_o
     try replace ha5_12:=ha5_12_o
     try replace ha6_12:=ha6_12_o
     try replace hb5:=hb5_o
     clear hg_o hR_o;refine zz 5 ?_;refine S.ownIs (T:=Rp.cells 8) (e:=220) (v' :=.slice a52 (zs++[ys[i]]).length c52) (xs' :=p.2++[[.string (str ys[i].1),.int .i64 ys[i].2.1,.int .i64 ys[i].2.2.1,.slice ra3_12 ys[i].2.2.2.1.length rc3_12,.bool ys[i].2.2.2.2.1,.slice ra5_12 ys[i].2.2.2.2.2.1.length rc5_12,.slice ra6_12 ys[i].2.2.2.2.2.2.1.length rc6_12,.slice a16 (recB ys[i]).length c16]]) zD (by simp [hcl]) zV ?_;refine S.objIs (b:=b) (cs' :=[.slice a52 (zs++[ys[i]]).length c52]) zD (by simp [hcl]) ?_;refine S.conv (B:=OwnP Rp.u8 5 (.slice a16 (recB ys[i]).length c16) (recB ys[i])) (C:=ItO r 5 [.string (str ys[i].1),.int .i64 ys[i].2.1,.int .i64 ys[i].2.2.1,.slice ra3_12 ys[i].2.2.2.1.length rc3_12,.bool ys[i].2.2.2.2.1,.slice ra5_12 ys[i].2.2.2.2.2.1.length rc5_12,.slice ra6_12 ys[i].2.2.2.2.2.2.1.length rc6_12,.slice a16 (recB ys[i]).length c16] ys[i]) zD (fun m x=>⟨m,Fr.sub_refl _,[.string (str ys[i].1),.int .i64 ys[i].2.1,.int .i64 ys[i].2.2.1,.slice ra3_12 ys[i].2.2.2.1.length rc3_12,.bool ys[i].2.2.2.2.1,.slice ra5_12 ys[i].2.2.2.2.2.1.length rc5_12,.slice ra6_12 ys[i].2.2.2.2.2.2.1.length rc6_12],a16,c16,rfl,hrr12,x⟩) ?_
     refine S.each (A:=ItO r 5) (bs:=p.2) (b:=[.string (str ys[i].1),.int .i64 ys[i].2.1,.int .i64 ys[i].2.2.1,.slice ra3_12 ys[i].2.2.2.1.length rc3_12,.bool ys[i].2.2.2.2.1,.slice ra5_12 ys[i].2.2.2.2.2.1.length rc5_12,.slice ra6_12 ys[i].2.2.2.2.2.2.1.length rc6_12,.slice a16 (recB ys[i]).length c16]) (a:=ys[i]) zD zD ?_;refine S.foldS (A:=RowP r tR 220 5 b (zs++[ys[i]])) (bs:=[obj b tR [.slice a52 (zs++[ys[i]]).length c52],OwnP (Rp.cells 8) 220 (.slice a52 (zs++[ys[i]]).length c52) (p.2++[[.string (str ys[i].1),.int .i64 ys[i].2.1,.int .i64 ys[i].2.2.1,.slice ra3_12 ys[i].2.2.2.1.length rc3_12,.bool ys[i].2.2.2.2.1,.slice ra5_12 ys[i].2.2.2.2.2.1.length rc5_12,.slice ra6_12 ys[i].2.2.2.2.2.2.1.length rc6_12,.slice a16 (recB ys[i]).length c16]]),EachP (ItO r 5) (p.2++[[.string (str ys[i].1),.int .i64 ys[i].2.1,.int .i64 ys[i].2.2.1,.slice ra3_12 ys[i].2.2.2.1.length rc3_12,.bool ys[i].2.2.2.2.1,.slice ra5_12 ys[i].2.2.2.2.2.1.length rc5_12,.slice ra6_12 ys[i].2.2.2.2.2.2.1.length rc6_12,.slice a16 (recB ys[i]).length c16]]) (zs++[ys[i]])]) zG (fun m x=>⟨((a52,c52),p.2++[[.string (str ys[i].1),.int .i64 ys[i].2.1,.int .i64 ys[i].2.2.1,.slice ra3_12 ys[i].2.2.2.1.length rc3_12,.bool ys[i].2.2.2.2.1,.slice ra5_12 ys[i].2.2.2.2.2.1.length rc5_12,.slice ra6_12 ys[i].2.2.2.2.2.2.1.length rc6_12,.slice a16 (recB ys[i]).length c16]]),x⟩) ?_;rw [← htk];exact S.melt hm1 (S.pw (ih (i+1) (by exact ⟨by omega,hyes⟩) zB))
    ·have hno:oneK (xs++ys)=false:=hbad (by rw [Bool.eq_false_iff];intro q;exact hk ((hsn.1 q).2 zB))
     refine S.frzO zD fun g hs hm hb5=>?_;replace hg:=zfs hg hs;replace hR:=melted hR hm
     try replace ha:=ha.mono hs
     try replace hp12:=hp12.mono hs
     try replace hr12:=hr12.mono hs
     try replace ha3_12:=ha3_12.mono hs
     try replace ha5_12:=ha5_12.mono hs
     try replace ha6_12:=ha6_12.mono hs
     replace hm1:=meltTrans hm1 hm;clear hs hm;have hg_q:=hg;have hR_q:=hR
     try have ha_q:=ha
     try have hp12_q:=hp12
     try have hr12_q:=hr12
     try have ha3_12_q:=ha3_12
     try have ha5_12_q:=ha5_12
     try have ha6_12_q:=ha6_12
     try have hb5_q:=hb5
     refine S.frzH (B:=RowP r tR 220 5 b zs) zD fun gq hsq ⟨mq,hmq,hsmq⟩ hbq=>?_;replace hg:=zfs hg hsq;replace hR:=backR hR hbq
     try replace ha:=ha.mono hsq
     try replace hp12:=hp12.mono hsq
     try replace hr12:=hr12.mono hsq
     try replace ha3_12:=ha3_12.mono hsq
     try replace ha5_12:=ha5_12.mono hsq
     try replace ha6_12:=ha6_12.mono hsq
     try replace hb5:=hb5.mono hsq
     obtain ⟨qa,qc,hqat,hqar⟩:=RowP.read hg hsmq hmq;refine S.regionD (L:=.range 24) F.mixed zC ?_;refine zz 2 ?_;refine OD.sT 20 rfl (by simp [recErr,e]) ?_;refine zz 7 ?_;refine OD.sF 27 rfl (by exact zdf zB) ?_;refine zz 5 ?_;refine OD.ia (.g rfl rfl) underlying216 size220 rfl rfl (show _=(((0):Nat):Int) by omega) zA (h:=fun p33 cs33 hp33 hr33=>?_);obtain ⟨ia3_33,ia5_33,ia6_33,ia7_33,ic3_33,ic5_33,ic6_33,ic7_33,rfl,hr1_33,ha7_33⟩:=ItRp.sh hr33;refine zz 5 ?_;refine .quiet (.g rfl rfl) rfl (fun _=>.eqlS rfl rfl)<|OD.sF 39 rfl (by simp;exact fun q=>hk q.symm) ?_;refine OD.q 2 rfl<|OD.callP0 (.p rfl) zC rfl zC rfl rfl (smust_c _) (fun ch η' w hX hW=>by (obtain ⟨hb,rfl,rfl⟩:=hX;exact hR _ _ w ⟨hno,rfl,rfl⟩ hW.drop_all)) ?_;rintro _ _ ⟨hb42,rfl,rfl⟩;exact absurd hb42 zI
 ·clear ih
  have hi:i=ys.length:=by omega
  subst hi;rw [List.take_length] at hx2 ⊢;refine S.exit rfl<|S.end0 results225 fun w hw=>Holds.end_ hR hw ?_;exact pk ⟨hx2,rfl,rfl⟩
theorem indexIt_c {r:Fr} {va:Value} {xs:List RecT} {f:FuncId} {first cap:Array Value} (ha:Arr ItRp r va xs) (hc:callable prog f=true) (q:RecT→Bool)
  (con:∀ cs x,x∈xs→ItRp.rel r cs x→Con prog f (first++#[.agg cs.toArray]++cap) r [] (Ret fun v η=>v=.bool (q x)∧η=[])) :
  Con prog 331 #[va,.func (.func f) first cap] r [] (Ret fun v η=>∃ k:Int,v=.int .i64 k∧(0≤k↔xs.any q=true)∧η=[]):=by
 have har:=ha;refine Con.of (n:=19) [va,.func (.func f) first cap] rfl func331 rfl rfl rfl fun g hg R hR=>?_;have ha:=ha.mono hg;have hbd:=ha.bound;obtain ⟨a1,c1,rfl⟩:=ha.shape;refine zz 12 ?_;refine S.loopK (ι:=Nat) (fun i=>i≤xs.length∧(xs.take i).any q=false) (fun i=>[(8,.int .i64 (i:Int))]) [(0,_),(1,_),(7,_)] (fun i=>[]) (fun i=>xs.length - i) (0) (by exact ⟨by simp,by simp⟩) zq zq rfl fun i hx ih=>?_;have hm1:=meltRefl (g:=g);obtain ⟨hx1,hx2⟩:=hx;refine zz 5 ?_;refine S.cd rfl (fun h9=>?_) fun h9=>?_
 ·have hi:i<xs.length:=by omega
  cases e:q xs[i] with
  |true =>
   have hy:xs.any q=true:=List.any_eq_true.2 ⟨xs[i],List.getElem_mem hi,e⟩;clear ih;refine zz 13 ?_;refine O.iy har hg (h:=fun p14 cs14 hp14 hrr14=>?_);have hr14:=Rp.rel.mono hrr14 hg;obtain ⟨ia3_14,ia5_14,ia6_14,ia7_14,ic3_14,ic5_14,ic6_14,ic7_14,rfl,hr1_14,ha7_14⟩:=ItRp.sh hr14;refine O.op (.p rfl) (.loadAgg isAgg220 zC rfl hp14) ?_;refine O.v0 (.p rfl) rfl hc rfl rfl (((con _ _ (List.getElem_mem hi) hrr14).sub hg)) ?_;refine O.sT 16 rfl (by exact e) ?_;refine zz 7 ?_;exact S.rt results331 rfl hR ⟨(i:Int),rfl,⟨fun _=>hy,fun _=>by omega⟩,rfl⟩
  |false =>
   refine zz 13 ?_;refine O.iy har hg (h:=fun p14 cs14 hp14 hrr14=>?_);have hr14:=Rp.rel.mono hrr14 hg;obtain ⟨ia3_14,ia5_14,ia6_14,ia7_14,ic3_14,ic5_14,ic6_14,ic7_14,rfl,hr1_14,ha7_14⟩:=ItRp.sh hr14;refine O.op (.p rfl) (.loadAgg isAgg220 zC rfl hp14) ?_;refine O.v0 (.p rfl) rfl hc rfl rfl (((con _ _ (List.getElem_mem hi) hrr14).sub hg)) ?_;refine O.sF 16 rfl (by exact e)<|zz 8 ?_;exact S.wk (ih (i+1) (by exact ⟨by omega,by rw [ztg hi,List.any_append,hx2];simp [e]⟩) zB)
 ·clear ih
  have hi:i=xs.length:=by omega
  subst hi;rw [List.take_length] at hx2;refine zz 5 ?_;exact S.rt results331 rfl hR ⟨-1,rfl,⟨fun h=>absurd h zE,fun h=>by rw [hx2] at h;cases h⟩,rfl⟩
theorem containsIt_c {r:Fr} {va:Value} {xs:List RecT} {f:FuncId} {first cap:Array Value} (ha:Arr ItRp r va xs) (hc:callable prog f=true) (q:RecT→Bool)
  (con:∀ cs x,x∈xs→ItRp.rel r cs x→Con prog f (first++#[.agg cs.toArray]++cap) r [] (Ret fun v η=>v=.bool (q x)∧η=[])) (h1:(Value.func (.func f) first cap).oneCell' =true) :
  Con prog 295 #[va,.func (.func f) first cap] r [] (Ret fun v η=>v=.bool (xs.any q)∧η=[]):=by
 refine Con.of (n:=9) [va,.func (.func f) first cap] rfl func295 rfl rfl rfl fun g hg R hR=>?_;refine zz 8 ?_;refine O.call0 (.p rfl) rfl zC rfl rfl (((indexIt_c ha hc q con).sub hg)) ?_;rintro v7 _ ⟨k7,rfl,hk7,rfl⟩;refine zz 3 ?_;exact S.rt results295 rfl hR ⟨congrArg _ (by rw [Bool.eq_iff_iff,decide_eq_true_iff];exact hk7),rfl⟩
theorem under1_c {r:Fr} {b:Nat} {cs ds:List Value} {x y:RecT} (hx:At r ⟨b,0,none⟩ cs) (h:ItRp.rel r cs x) (h' :ItRp.rel r ds y) :
  Con prog 296 (#[]++#[.agg ds.toArray]++#[.pointer (some ⟨b,0,none⟩)]) r [] (Ret fun v η=>v=.bool (decide (cmpR x y≠0) && over y x)∧η=[]):=by
 obtain ⟨xa3,xa5,xa6,xa7,xc3,xc5,xc6,xc7,rfl,hx1,_⟩:=ItRp.sh h;obtain ⟨ya3,ya5,ya6,ya7,yc3,yc5,yc6,yc7,rfl,hy1,_⟩:=ItRp.sh h';refine Con.of (n:=15) [.agg #[.string (str y.1),.int .i64 y.2.1,.int .i64 y.2.2.1,.slice ya3 y.2.2.2.1.length yc3,.bool y.2.2.2.2.1,.slice ya5 y.2.2.2.2.2.1.length yc5,.slice ya6 y.2.2.2.2.2.2.1.length yc6,.slice ya7 (recB y).length yc7],.pointer (some ⟨b,0,none⟩)] rfl func296 rfl rfl rfl fun g hg R hR=>?_;have hx:=hx.mono hg;have h:=h.mono hg;have h' :=h'.mono hg;have hx1:=hx1.mono hg;have hy1:=hy1.mono hg
 by_cases e:cmpR x y=0
 ·
  refine S.seq<|S.region rfl<|O.opE (.p rfl) (.box (cs:=[_,_,_,_,_,_,_,_]) rfl rfl) ?_;rintro _ _ ⟨b2,rfl,rfl⟩;refine zz 4 ?_;refine O.op (.p rfl) (.loadAgg isAgg220 zC rfl hx)<|zz 1 ?_;refine O.v0 (.p rfl) rfl zC rfl rfl (scompare_c h h')<|zz 1 ?_;refine O.sF 7 rfl (by simp [e])<|zz 9 ?_;exact S.rt results296 rfl hR ⟨by simp [e],rfl⟩
 ·
  refine S.seq<|S.region rfl<|O.opE (.p rfl) (.box (cs:=[_,_,_,_,_,_,_,_]) rfl rfl) ?_;rintro _ _ ⟨b2,rfl,rfl⟩;refine zz 4 ?_;refine O.op (.p rfl) (.loadAgg isAgg220 zC rfl hx)<|zz 1 ?_;refine O.v0 (.p rfl) rfl zC rfl rfl (scompare_c h h')<|zz 1 ?_;refine O.sT 7 rfl (by simp [e])<|zz 4 ?_;refine O.op (.g rfl rfl) (.loadAgg (cs:=[.string (str x.1),.int .i64 x.2.1,.int .i64 x.2.2.1,.slice xa3 x.2.2.2.1.length xc3,.bool x.2.2.2.2.1,.slice xa5 x.2.2.2.2.2.1.length xc5,.slice xa6 x.2.2.2.2.2.2.1.length xc6]) isAgg102 zC rfl (hx.take 7)) ?_;refine O.v0 (.g rfl rfl) rfl zC rfl rfl (rOver_c hy1 hx1)<|zz 3 ?_;exact S.rt results296 rfl hR ⟨by simp [e],rfl⟩
theorem sunder_c {r:Fr} {b:Nat} {xs:List RecT} {cs:List Value} {x:RecT} (hrow:RowA r b xs) (h:ItRp.rel r cs x) :
  Con prog 228 #[.pointer (some ⟨b,0,none⟩),.agg cs.toArray] r [] (Ret fun v η=>v=.bool (underR xs x)∧η=[]):=by
 obtain ⟨xa3,xa5,xa6,xa7,xc3,xc5,xc6,xc7,rfl,hx1,_⟩:=ItRp.sh h;obtain ⟨qa,qc,hat,har⟩:=hrow;refine Con.o func228 fun g hg R hR=>?_;have h:=h.mono hg;have hat:=hat.mono hg;have har:=har.mono hg;refine S.seq<|S.region rfl<|O.opE (.p rfl) (.box (cs:=[_,_,_,_,_,_,_,_]) rfl rfl) ?_;rintro _ _ ⟨b3,rfl,rfl⟩;refine zz 3 ?_;refine S.frzO zD fun g hs hm hb3=>?_;replace hg:=zfs hg hs;replace hR:=melted hR hm
 try replace h:=h.mono hs
 try replace hat:=hat.mono hs
 try replace har:=har.mono hs
 clear hs hm;refine zz 6 ?_;refine O.v0 (.p rfl) rfl zC rfl rfl ((containsIt_c har zC (fun y=>decide (cmpR x y≠0) && over y x) (fun cs y hy hr=>under1_c hb3 h hr) rfl)) ?_;refine zz 2 ?_;exact S.rt results228 rfl hR ⟨rfl,rfl⟩
theorem rowOf_c {r:Fr} {va:Value} {xs:List RecT} (ha:Arr RecRp r va xs) (hl:xs.length≤100000000000) :
  Con prog 146 #[va] r [] (RetP (fun v η=>SRight xs∧∃ b,v=.pointer (some ⟨b,0,none⟩)∧η=[RowP r 218 220 5 b xs]) (fun ch η=>¬ SRight xs∧ch=shp∧η=[])):=by
 have har:=ha;refine Con.o func146 fun g hg R hR=>?_;have ha:=ha.mono hg;obtain ⟨a1,c1,rfl⟩:=ha.shape;refine zz 6 ?_;refine O.op (.p rfl) (.build (cs:=[_]) underlying218 rfl rfl rfl rfl rfl)<|O.opE (.p rfl) (.box (cs:=[_]) rfl rfl) ?_;rintro _ _ ⟨b7,rfl,rfl⟩;refine zz 3 ?_;refine S.conv (B:=obj b7 218 [.slice none 0 0]) (C:=RowP r 218 220 5 b7 []) zD (fun m x=>⟨m,Fr.sub_refl _,RowP.nil x⟩) ?_;refine zz 3 ?_;refine O.callPS (.p rfl) rfl zC rfl rfl zD ((sadd_c har rfl (by simpa using hl)).sub hg) (fun ch η' w hX hW=>by (obtain ⟨hb,rfl,rfl⟩:=hX;exact hR _ _ w ⟨fun q=>(by rw [List.nil_append,q.1] at hb;cases hb),rfl,rfl⟩ hW.drop_all)) ?_;rintro _ _ ⟨hone,rfl,rfl⟩;refine O.nil (S.seq (S.seq ?_));rw [List.nil_append] at hone;have hg_q:=hg;have hR_q:=hR
 try have ha_q:=ha
 refine S.frzH (B:=RowP r 218 220 5 b7 xs) zD fun gq hsq ⟨mq,hmq,hsmq⟩ hbq=>?_;replace hg:=zfs hg hsq;replace hR:=backR hR hbq
 try replace ha:=ha.mono hsq
 have hrow:=RowP.read hg hsmq hmq;obtain ⟨qa,qc,hqat,hqar⟩:=id hrow;refine zz 9 ?_;refine S.loopK (ι:=Nat) (fun i=>i≤xs.length∧∀ j (h:j<xs.length),j<i→(∀ h0:0<j,cmpR xs[j-1] xs[j]<0)∧underR xs xs[j]=false) (fun i=>[(16,.int .i64 (i:Int))]) [(3,_),(14,_),(15,_)] (fun i=>[]) (fun i=>xs.length - i) (0) (by exact ⟨by simp,fun j _ h=>absurd h zB⟩) zq zq rfl fun i hx ih=>?_;have hm1:=meltRefl (g:=gq);obtain ⟨hx1,hx2⟩:=hx;refine zz 5 ?_;refine S.cd rfl (fun h17=>?_) fun h17=>?_
 ·have hi:i<xs.length:=by omega
  have hnext:((∀ h0:0<i,cmpR xs[i-1] xs[i]<0)∧underR xs xs[i]=false)→∀ j (h:j<xs.length),j<i+1→(∀ h0:0<j,cmpR xs[j-1] xs[j]<0)∧underR xs xs[j]=false:=by
   intro q j h hj
   by_cases e:j=i
   ·subst e;exact q
   ·exact hx2 j h zB
  refine zz 6 ?_;refine O.ia (.p rfl) underlying216 size220 rfl rfl rfl zA (h:=fun p19 cs19 hp19 hr19=>?_);obtain ⟨ia3_19,ia5_19,ia6_19,ia7_19,ic3_19,ic5_19,ic6_19,ic7_19,rfl,hr1_19,ha7_19⟩:=ItRp.sh hr19;refine O.op (.p rfl) (.loadAgg isAgg220 zC rfl hp19) ?_;refine O.opE (.p rfl) (.alloc (cs:=[.string ⟨#[]⟩,.int .i64 0,.int .i64 0,.slice none 0 0,.bool false,.slice none 0 0,.slice none 0 0,.slice none 0 0]) zeroValue220 rfl) ?_;rintro _ _ ⟨b5,rfl,rfl⟩;refine zz 2 ?_;refine O.nil<|S.objIs (b:=b5) (cs' :=[.string (str xs[i].1),.int .i64 xs[i].2.1,.int .i64 xs[i].2.2.1,.slice ia3_19 xs[i].2.2.2.1.length ic3_19,.bool xs[i].2.2.2.2.1,.slice ia5_19 xs[i].2.2.2.2.2.1.length ic5_19,.slice ia6_19 xs[i].2.2.2.2.2.2.1.length ic6_19,.slice ia7_19 (recB xs[i]).length ic7_19]) zD rfl ?_;refine S.frzO zD fun g hs hm hb5=>?_;replace hg:=zfs hg hs;replace hR:=melted hR hm
  try replace ha:=ha.mono hs
  try replace hqat:=hqat.mono hs
  try replace hqar:=hqar.mono hs
  try replace hrow:=hrow.mono hs
  try replace hp19:=hp19.mono hs
  try replace ha7_19:=ha7_19.mono hs
  try replace hr19:=hr19.mono hs
  try replace hr1_19:=hr1_19.mono hs
  replace hm1:=meltTrans hm1 hm;clear hs hm
  by_cases h0:i=0
  ·cases eu:underR xs xs[i] with
   |true =>
    have hno:¬ SRight xs:=fun q=>by have:=(q.2 i hi).2;rw [eu] at this;cases this
    clear ih;refine S.regionD (L:=.range 22) F.mixed zC ?_;refine zz 2 ?_;refine OD.sT 22 rfl (by exact zdt zB) ?_;refine OD.q 15 rfl<|.quiet (.g rfl rfl) rfl (fun _=>.loadAgg isAgg220 zC rfl hb5) ?_;refine OD.v0 (.g rfl rfl) zC rfl zC rfl rfl (sunder_c hrow hr19) ?_;refine OD.sT 39 rfl (by exact eu) ?_;refine zz 2 ?_;refine OD.callP0 (.p rfl) zC rfl zC rfl rfl (smust_c _) (fun ch η' w hX hW=>by (obtain ⟨hb,rfl,rfl⟩:=hX;exact hR _ _ w ⟨hno,rfl,rfl⟩ hW.drop_all)) ?_;rintro _ _ ⟨hb42,rfl,rfl⟩;exact absurd hb42 zI
   |false =>
    refine S.regionD (L:=.range 22) F.mixed zC ?_;refine zz 2 ?_;refine OD.sT 22 rfl (by exact zdt zB) ?_;refine OD.q 15 rfl<|.quiet (.g rfl rfl) rfl (fun _=>.loadAgg isAgg220 zC rfl hb5) ?_;refine OD.v0 (.g rfl rfl) zC rfl zC rfl rfl (sunder_c hrow hr19) ?_;refine OD.sF 39 rfl (by exact eu)<|zz 2 ?_;refine OD.callP0 (.p rfl) zC rfl zC rfl rfl (smust_c _) (fun ch η' w hX hW=>by (exact absurd hX.1 zI)) ?_;rintro _ _ ⟨hb42,rfl,rfl⟩;refine zz 6 ?_;exact S.melt hm1 (S.wk (ih (i+1) (by exact ⟨by omega,hnext ⟨fun h1=>absurd h1 zB,eu⟩⟩) zB))
  ·have hi1:i - 1<xs.length:=by omega
   by_cases hc:cmpR xs[i-1] xs[i]<0
   ·cases eu:underR xs xs[i] with
    |true =>
     have hno:¬ SRight xs:=fun q=>by have:=(q.2 i hi).2;rw [eu] at this;cases this
     clear ih;refine S.regionD (L:=.range 22) F.mixed zC ?_;refine zz 2 ?_;refine OD.sF 22 rfl (by exact zdf zB) ?_;refine zz 7 ?_;refine OD.ia (.g rfl rfl) underlying216 size220 rfl rfl (show _=(((i - 1):Nat):Int) by omega) zA (h:=fun p30 cs30 hp30 hr30=>?_);obtain ⟨ia3_30,ia5_30,ia6_30,ia7_30,ic3_30,ic5_30,ic6_30,ic7_30,rfl,hr1_30,ha7_30⟩:=ItRp.sh hr30;refine .quiet (.g rfl rfl) rfl (fun _=>.loadAgg isAgg220 zC rfl hp30) ?_;refine .quiet (.g rfl rfl) rfl (fun _=>.loadAgg isAgg220 zC rfl hb5) ?_;refine OD.v0 (.g rfl rfl) zC rfl zC rfl rfl (scompare_c hr30 hr19) ?_;refine zz 1 ?_;refine OD.sT 34 rfl (by exact zdt hc) ?_;refine OD.q 3 rfl<|.quiet (.g rfl rfl) rfl (fun _=>.loadAgg isAgg220 zC rfl hb5) ?_;refine OD.v0 (.g rfl rfl) zC rfl zC rfl rfl (sunder_c hrow hr19) ?_;refine OD.sT 39 rfl (by exact eu) ?_;refine zz 2 ?_;refine OD.callP0 (.p rfl) zC rfl zC rfl rfl (smust_c _) (fun ch η' w hX hW=>by (obtain ⟨hb,rfl,rfl⟩:=hX;exact hR _ _ w ⟨hno,rfl,rfl⟩ hW.drop_all)) ?_;rintro _ _ ⟨hb42,rfl,rfl⟩;exact absurd hb42 zI
    |false =>
     refine S.regionD (L:=.range 22) F.mixed zC ?_;refine zz 2 ?_;refine OD.sF 22 rfl (by exact zdf zB)<|zz 7 ?_;refine OD.ia (.g rfl rfl) underlying216 size220 rfl rfl (show _=(((i - 1):Nat):Int) by omega) zA (h:=fun p30 cs30 hp30 hr30=>?_);obtain ⟨ia3_30,ia5_30,ia6_30,ia7_30,ic3_30,ic5_30,ic6_30,ic7_30,rfl,hr1_30,ha7_30⟩:=ItRp.sh hr30;refine .quiet (.g rfl rfl) rfl (fun _=>.loadAgg isAgg220 zC rfl hp30) ?_;refine .quiet (.g rfl rfl) rfl (fun _=>.loadAgg isAgg220 zC rfl hb5) ?_;refine OD.v0 (.g rfl rfl) zC rfl zC rfl rfl (scompare_c hr30 hr19)<|zz 1 ?_;refine OD.sT 34 rfl (by exact zdt hc) ?_;refine OD.q 3 rfl<|.quiet (.g rfl rfl) rfl (fun _=>.loadAgg isAgg220 zC rfl hb5) ?_;refine OD.v0 (.g rfl rfl) zC rfl zC rfl rfl (sunder_c hrow hr19) ?_;refine OD.sF 39 rfl (by exact eu)<|zz 2 ?_;refine OD.callP0 (.p rfl) zC rfl zC rfl rfl (smust_c _) (fun ch η' w hX hW=>by (exact absurd hX.1 zI)) ?_;rintro _ _ ⟨hb42,rfl,rfl⟩;refine zz 6 ?_;exact S.melt hm1 (S.wk (ih (i+1) (by exact ⟨by omega,hnext ⟨fun _=>hc,eu⟩⟩) zB))
   ·have hno:¬ SRight xs:=fun q=>hc ((q.2 i hi).1 zB)
    clear ih;refine S.regionD (L:=.range 22) F.mixed zC ?_;refine zz 2 ?_;refine OD.sF 22 rfl (by exact zdf zB) ?_;refine zz 7 ?_;refine OD.ia (.g rfl rfl) underlying216 size220 rfl rfl (show _=(((i - 1):Nat):Int) by omega) zA (h:=fun p30 cs30 hp30 hr30=>?_);obtain ⟨ia3_30,ia5_30,ia6_30,ia7_30,ic3_30,ic5_30,ic6_30,ic7_30,rfl,hr1_30,ha7_30⟩:=ItRp.sh hr30;refine .quiet (.g rfl rfl) rfl (fun _=>.loadAgg isAgg220 zC rfl hp30) ?_;refine .quiet (.g rfl rfl) rfl (fun _=>.loadAgg isAgg220 zC rfl hb5) ?_;refine OD.v0 (.g rfl rfl) zC rfl zC rfl rfl (scompare_c hr30 hr19) ?_;refine zz 1 ?_;refine OD.sF 34 rfl (by exact zdf hc) ?_;refine OD.q 7 rfl<|OD.callP0 (.p rfl) zC rfl zC rfl rfl (smust_c _) (fun ch η' w hX hW=>by (obtain ⟨hb,rfl,rfl⟩:=hX;exact hR _ _ w ⟨hno,rfl,rfl⟩ hW.drop_all)) ?_;rintro _ _ ⟨hb42,rfl,rfl⟩;exact absurd hb42 zI
 ·clear ih
  have hi:i=xs.length:=by omega
  subst hi;refine S.exit rfl<|S.seq<|S.back hbq ?_;replace hg:=hg_q;replace hR:=hR_q
  try replace ha:=ha_q
  clear hg_q hR_q;refine zz 4 ?_;exact S.rt results146 rfl hR ⟨⟨hone,fun j h=>hx2 j h h⟩,b7,rfl,rfl⟩
theorem sput1_c {r:Fr} {b:Nat} {va:Value} {xs:List RecT} (hb:At r ⟨b,0,none⟩ [va]) (ha:Arr RecRp r va xs) (hl:xs.length≤1000000000) :
  Con prog 145 (#[]++#[]++#[.pointer (some ⟨b,0,none⟩)]) r [] (RetP (fun v η=>SRight xs∧∃ a c,v=.slice a (sB xs).length c∧η=[OwnP Rp.u8 5 (.slice a (sB xs).length c) (sB xs)]) (fun ch η=>∃ z,ch=errP 44 z∧(¬ SRight xs∧z=4)∧η=[])):=by
 have har:=ha;refine Con.of (n:=31) [.pointer (some ⟨b,0,none⟩)] rfl func145 rfl rfl rfl fun g hg R hR=>?_;have hb:=hb.mono hg;have ha:=ha.mono hg;obtain ⟨a1,c1,rfl⟩:=ha.shape;refine zz 7 ?_;refine O.callP0 (.p rfl) rfl zC rfl rfl (((rowOf_c har zB).sub hg)) (fun ch η' w hX hW=>by (obtain ⟨hb,rfl,rfl⟩:=hX;exact hR _ _ w ⟨4,rfl,⟨hb,rfl⟩,rfl⟩ hW.drop_all)) ?_;rintro _ _ ⟨hright,b7,rfl,rfl⟩;refine zz 3 ?_;refine S.frz (A:=RowP r 218 220 5 b7 xs) zD fun g hs hm ⟨_,x',s'⟩=>?_;have hrow:=RowP.read (zfs hg hs) s' x';clear x' s';replace hg:=zfs hg hs;replace hR:=melted hR hm
 try replace ha:=ha.mono hs
 try replace hb:=hb.mono hs
 clear hs hm;obtain ⟨qa,qc,hqat,hqar⟩:=id hrow;refine zz 6 ?_;refine O.call0 (.p rfl) rfl zC rfl rfl (wNumber_c _) ?_;rintro _ _ ⟨a13,c13,rfl,rfl⟩;refine O.q 1 rfl<|O.nil (S.seq (S.seq ?_));have hone:=hright.1;have hbd:=sB_le hone;refine zz 9 ?_;refine S.conv (C:=OwnP Rp.u8 5 (.slice a13 (8+(sRows (xs.take 0)).length) c13) (be xs.length++sRows (xs.take 0))) Sel.here (fun m x=>⟨m,Fr.sub_refl _,by simpa [sRows] using x⟩) ?_;refine S.loopK2 (ι:=Nat) (κ:=Option Addr × Nat) (fun i p=>i≤xs.length) (fun i p=>[(19,.int .i64 (i:Int)),(3,.slice p.1 (8+(sRows (xs.take i)).length) p.2)]) [(17,_),(18,_)] (fun i p=>[OwnP Rp.u8 5 (.slice p.1 (8+(sRows (xs.take i)).length) p.2) (be xs.length++sRows (xs.take i))]) (fun i p=>xs.length - i) (0) ((a13,c13)) zB zq zq rfl fun i p hx ih=>?_;have hm1:=meltRefl (g:=g);refine zz 5 ?_;refine S.cd rfl (fun h20=>?_) fun h20=>?_
 ·have hi:i<xs.length:=by omega
  have hb1:=recB_le (oneK_all hone xs[i] (List.getElem_mem hi));have hb2:=sRows_le (xs.take i) (oneK_all (oneK_take i hone));rw [zlt,Nat.min_eq_left hx] at hb2;have htk:[be xs.length++sRows (xs.take i),bytesOf (recB xs[i])].flatten=be xs.length++sRows (xs.take (i+1)):=by rw [ztg hi,sRows_snoc];simp
  have htl:(be (xs.length:Int)++sRows (xs.take (i+1))).length=8+(sRows (xs.take (i+1))).length:=by simp
  have hb3:(be (xs.length:Int)++sRows (xs.take (i+1))).length≤140737488355328:=by
   have:=sRows_le (xs.take (i+1)) (oneK_all (oneK_take (i+1) hone));rw [zlt] at this
   simp;omega
  generalize hso:sRows (xs.take i)=so at htk hb2 ⊢;refine zz 5 ?_;refine O.ia (.p rfl) underlying216 size220 rfl rfl rfl zA (h:=fun p21 cs21 hp21 hr21=>?_);obtain ⟨ia3_21,ia5_21,ia6_21,ia7_21,ic3_21,ic5_21,ic6_21,ic7_21,rfl,hr1_21,ha7_21⟩:=ItRp.sh hr21;refine O.op (.p rfl) (.loadAgg isAgg220 zC rfl hp21) ?_;refine O.opE (.p rfl) (.alloc (cs:=[.string ⟨#[]⟩,.int .i64 0,.int .i64 0,.slice none 0 0,.bool false,.slice none 0 0,.slice none 0 0,.slice none 0 0]) zeroValue220 rfl) ?_;rintro _ _ ⟨b5,rfl,rfl⟩;refine zz 6 ?_;refine O.call0 (.p rfl) rfl zC rfl rfl (wBytes_c zA zH) ?_;rintro _ _ ⟨a26,c26,rfl,rfl⟩;generalize hbb:bytesOf (recB xs[i])=bb at htk ⊢;refine O.opE (.p rfl) (.litP (T:=Rp.val) (ys:=[_,_]) underlying109 elem24 zE rfl rfl ⟨⟨rfl,rfl⟩,⟨rfl,rfl⟩,trivial⟩ zE) ?_;rintro _ _ ⟨a27,c27,rfl,rfl⟩;refine O.callB (.p rfl) rfl zC rfl rfl (bs:=[OwnP Rp.val 24 (.slice a27 2 c27) [.slice p.1 (8+so.length) p.2,.slice a26 bb.length c26],OwnP Rp.u8 5 (.slice p.1 (8+so.length) p.2) (be xs.length++so),OwnP Rp.u8 5 (.slice a26 bb.length c26) bb]) zG (fun m hm hd=>wJoin_c (xss:=[be xs.length++so,bb]) ((hm.arr.right hd).rows ⟨hm.tail.arr.right hd,hm.tail.tail.arr.right hd,trivial⟩) (by rw [htk];exact hb3)) ?_;rintro _ _ ⟨a28,c28,rfl,rfl⟩;refine zz 7 ?_;rw [htk,htl];exact S.pw (ih (i+1) ((a28,c28)) zB zB)
 ·clear ih
  have hi:i=xs.length:=by omega
  subst hi;rw [List.take_length];have hl8:8+(sRows xs).length=(sB xs).length:=by simp [sB]
  rw [hl8];refine zz 6 ?_;exact S.rt results145 rfl hR ⟨hright,p.1,p.2,rfl,rfl⟩
noncomputable def sOut (l:List RecT):List UInt8:=if SRight l then sB l else []
noncomputable def sErr (l:List RecT):Int:=if SRight l then 0 else 4
theorem sTried_c {r:Fr} {first cap:Array Value} {xs:List RecT} (con:Con prog 145 (first++#[]++cap) r [] (RetP (fun v η=>SRight xs∧∃ a c,v=.slice a (sB xs).length c∧η=[OwnP Rp.u8 5 (.slice a (sB xs).length c) (sB xs)]) (fun ch η=>∃ z,ch=errP 44 z∧(¬ SRight xs∧z=4)∧η=[]))) (h1:(Value.func (.func 145) first cap).oneCell' =true:=by rfl) :
  Con prog 144 #[.func (.func 145) first cap] r [] (Ret fun v η=>∃ a c,v=.tuple #[.slice a (sOut xs).length c,.int .i64 (sErr xs)]∧η=[OwnP Rp.u8 5 (.slice a (sOut xs).length c) (sOut xs)]) :=
 (triedSB_c zC h1 (fun _ _ h=>by obtain ⟨_,_,_,rfl,_⟩:=h;rfl) con).post fun e η h w g hw=>by
  cases e with
  |returned v =>
   rcases h with ⟨u,⟨hs,a,c,rfl,rfl⟩,rfl⟩|⟨z,⟨hs,rfl⟩,rfl,rfl⟩
   ·exact ⟨_,⟨a,c,by simp [sOut,sErr,hs],rfl⟩,by simpa [sOut,hs] using hw⟩
   ·exact ⟨_,⟨none,0,by simp [sOut,sErr,hs],rfl⟩,by simp only [sOut,hs,if_false];exact hw.imp fun m x=>⟨Fr.emp,m,Fr.emp_disj _,Fr.emp_sub _,Fr.sub_refl _,ownP_nil _,x⟩⟩
  |panicked _=>exact h.elim
  |outgrown=>exact h.elim
theorem sPut_c {r:Fr} {va:Value} {xs:List RecT} (ha:Arr RecRp r va xs) (hl:xs.length≤1000000000) :
  Con prog 77 #[va] r [] (Ret fun v η=>∃ a c,v=.tuple #[.slice a (sOut xs).length c,.int .i64 (sErr xs)]∧η=[OwnP Rp.u8 5 (.slice a (sOut xs).length c) (sOut xs)]):=by
 refine Con.o func77 fun g hg R hR=>?_;have ha:=ha.mono hg;obtain ⟨a1,c1,rfl⟩:=ha.shape;refine S.seq<|S.region rfl<|O.opE (.p rfl) (.box (cs:=[_]) rfl rfl) ?_;rintro _ _ ⟨b1,rfl,rfl⟩;refine zz 4 ?_;refine S.frzO zD fun g hs hm hb1=>?_;replace hg:=zfs hg hs;replace hR:=melted hR hm
 try replace ha:=ha.mono hs
 clear hs hm;refine zz 2 ?_;refine O.call0 (.p rfl) rfl zC rfl rfl ((sTried_c (sput1_c hb1 ha hl))) ?_;rintro _ _ ⟨a5,c5,rfl,rfl⟩;refine O.q 4 rfl<|O.nil<|S.ret2 results77 rfl rfl fun w hw=>Holds.end_ hR hw ?_;exact pk ⟨a5,c5,rfl,rfl⟩
theorem triedSP_ret {g:Gr} {be bx:Nat} {x:Value} {z:Int} {T1 T2:TypeId} {w:World} {R:Ending→World→Prop} {η:List SProp} (hw:Holds w g (obj bx T1 [x]::obj be T2 [.int .i64 z]::η)) (hR:∀ w,Holds w g (obj bx T1 [x]::obj be T2 [.int .i64 z]::η)→R (.returned (.tuple #[x,.int .i64 z])) w) :
  CallsD prog 302 #[.pointer (some ⟨be,0,none⟩),.pointer (some ⟨bx,0,none⟩)] .returning w (DPost2 prog g bx be 213 44 R):=by
 refine (callsD_rec (R:=fun e w=>(∃ v,e=.returned v)∧Holds w g (obj bx T1 [x]::obj be T2 [.int .i64 z]::η)) [.pointer (some ⟨be,0,none⟩),.pointer (some ⟨bx,0,none⟩)] rfl func302 rfl rfl rfl rfl hw ?_).mono ?_
 rotate_left
 ·rintro e u' w' ⟨rfl,⟨v,rfl⟩,h⟩
  exact ⟨⟨v,rfl⟩,rfl,T1,T2,_,_,_,_,η,h,LoadsAs.flat flat213,LoadsAs.flat flat44,hR w' h⟩
 refine S.seq<|S.region rfl<|O.q 1 rfl<|O.op (.p rfl) (.neqIN underlying20 rfl)<|O.nil<|S.condF rfl<|S.skip<|S.end0 results302 fun w hw=>?_;exact ⟨⟨_,rfl⟩,hw⟩
theorem triedSP_pan {g:Gr} {be bx:Nat} {x:Value} {z z' :Int} {T1 T2:TypeId} {w:World} {R:Ending→World→Prop} {η:List SProp} (hw:Holds w g (obj bx T1 [x]::obj be T2 [.int .i64 z']::η))
  (hR:∀ w,Holds w g (obj bx T1 [.pointer none]::obj be T2 [.int .i64 z]::η)→R (.returned (.tuple #[.pointer none,.int .i64 z])) w) :
  CallsD prog 302 #[.pointer (some ⟨be,0,none⟩),.pointer (some ⟨bx,0,none⟩)] (.panicking (errP 44 z)) w (DPost2 prog g bx be 213 44 R):=by
 refine (callsD_rec (R:=fun e w=>(∃ v,e=.returned v)∧Holds w g (obj bx T1 [.pointer none]::obj be T2 [.int .i64 z]::η)) [.pointer (some ⟨be,0,none⟩),.pointer (some ⟨bx,0,none⟩)] rfl func302 rfl rfl rfl rfl hw ?_).mono ?_
 rotate_left
 ·rintro e u' w' ⟨rfl,⟨v,rfl⟩,h⟩
  exact ⟨⟨v,rfl⟩,rfl,T1,T2,_,_,_,_,η,h,LoadsAs.flat flat213,LoadsAs.flat flat44,hR w' h⟩
 refine zz 3 ?_;refine O.op (.p rfl) (.neqIV underlying20 rfl)<|zz 10 ?_;refine O.op (.p rfl) (.assertYes underlying44 rfl)<|zz 20 ?_;refine O.nil<|S.end0 results302 fun w hw=>?_;exact ⟨⟨_,rfl⟩,hw.picks zP⟩
theorem triedSP_c {r:Fr} {f:Nat} {first cap:Array Value} {K:Value→List SProp→Prop} {X:Int→Prop} (hc:callable prog f=true) (hf1:(Value.func (.func f) first cap).oneCell' =true) (hK1:∀ u ζ,K u ζ→u.oneCell' =true)
  (con:Con prog f (first++#[]++cap) r [] (RetP K (fun ch η=>∃ z,ch=errP 44 z∧X z∧η=[]))) :
  Con prog 233 #[.func (.func f) first cap] r [] (Ret fun v η=>(∃ u,K u η∧v=.tuple #[u,.int .i64 0])∨(∃ z,X z∧η=[]∧v=.tuple #[.pointer none,.int .i64 z])):=by
 refine Con.of (n:=7) [.func (.func f) first cap] rfl func233 rfl rfl rfl fun g hg R hR=>?_;refine S.seq<|S.region rfl<|O.opE (.p rfl) (.alloc (cs:=[.pointer none]) zeroValue213 rfl) ?_;rintro _ _ ⟨b2,rfl,rfl⟩;refine O.opE (.p rfl) (.alloc (cs:=[.int .i64 0]) zeroValue44 rfl) ?_;rintro _ _ ⟨b3,rfl,rfl⟩;refine zz 4 ?_;refine O.defer rfl rfl rfl rfl<|zz 4 ?_;refine O.callP0D (.p rfl) rfl hc rfl rfl (con.sub hg) (fun a ch η' w hF hX hW=>by (obtain ⟨z,rfl,hx,rfl⟩:=hX;exact leavesCell2 results233 hF rfl rfl zI zC (triedSP_pan (hW.picks zP) fun w hw=>Holds.end_ hR hw ⟨_,.inr ⟨z,hx,rfl,rfl⟩,zP⟩))) ?_;rintro v6 _ hk6;have hone:=hK1 _ _ hk6;refine O.perm (List.perm_append_comm) ?_;simp only [List.cons_append,List.nil_append];refine zz 2 ?_;refine O.nil<|S.retL fun a w hf hd hw=>?_;exact leavesCell2 results233 hf rfl rfl zI zC (triedSP_ret (hw.picks zP) fun w hw=>Holds.end_ hR hw ⟨_,.inl ⟨_,hk6,rfl⟩,zP⟩)
theorem sright1_c {r:Fr} {p:Nat} {va:Value} {xs:List RecT} (hp:At r ⟨p,0,none⟩ [va]) (ha:Arr RecRp r va xs) (hl:xs.length≤100000000000) :
  Con prog 234 (#[]++#[]++#[.pointer (some ⟨p,0,none⟩)]) r [] (RetP (fun v η=>SRight xs∧∃ b,v=.pointer (some ⟨b,0,none⟩)∧η=[RowP r 218 220 5 b xs]) (fun ch η=>∃ z,ch=errP 44 z∧(¬ SRight xs∧z=4)∧η=[])):=by
 refine Con.of (n:=4) [.pointer (some ⟨p,0,none⟩)] rfl func234 rfl rfl rfl fun g hg R hR=>?_;have hp:=hp.mono hg;obtain ⟨a1,c1,rfl⟩:=ha.shape;refine zz 7 ?_;refine O.callP0 (.p rfl) rfl zC rfl rfl (((rowOf_c ha hl).sub hg)) (fun ch η' w hX hW=>by (obtain ⟨hb,rfl,rfl⟩:=hX;exact hR _ _ w ⟨4,rfl,⟨hb,rfl⟩,rfl⟩ hW.drop_all)) ?_;rintro _ _ ⟨hright,b3,rfl,rfl⟩;refine zz 2 ?_;exact S.rt results234 rfl hR ⟨hright,b3,rfl,rfl⟩
theorem sRight_c {r:Fr} {va:Value} {xs:List RecT} (ha:Arr RecRp r va xs) (hl:xs.length≤100000000000) :
  Con prog 155 #[va] r [] (Ret fun v η=>v=.bool (decide (SRight xs))∧η=[]):=by
 refine Con.o func155 fun g hg R hR=>?_;have ha:=ha.mono hg;obtain ⟨a1,c1,rfl⟩:=ha.shape;refine S.seq<|S.region rfl<|O.opE (.p rfl) (.box (cs:=[_]) rfl rfl) ?_;rintro _ _ ⟨b1,rfl,rfl⟩;refine zz 3 ?_;refine S.frzO zD fun g hs hm hb1=>?_;replace hg:=zfs hg hs;replace hR:=melted hR hm
 try replace ha:=ha.mono hs
 clear hs hm;have con:=triedSP_c zC (first:=#[]) (cap:=#[.pointer (some ⟨b1,0,none⟩)]) rfl (fun _ _ h=>by obtain ⟨_,_,rfl,_⟩:=h;rfl) (sright1_c hb1 ha hl)
 by_cases e:SRight xs
 ·
  refine zz 2 ?_;refine O.call0 (.p rfl) rfl zC rfl rfl ((con.mono (Ret.imp (K' :=fun v η=>∃ b,v=.tuple #[.pointer (some ⟨b,0,none⟩),.int .i64 0]∧η=[RowP g.h 218 220 5 b xs]) fun v η h=>by rcases h with ⟨_,⟨_,b,rfl,h3⟩,rfl⟩|⟨_,⟨h2,_⟩,_⟩;exact ⟨b,rfl,h3⟩;exact absurd e h2))) ?_;rintro _ _ ⟨b7,rfl,rfl⟩;refine zz 12 ?_;exact S.rt results155 rfl hR ⟨by simp [e],rfl⟩
 ·
  refine zz 2 ?_;refine O.v0 (.p rfl) rfl zC rfl rfl ((con.mono (Ret.imp (K' :=fun v η=>v=.tuple #[.pointer none,.int .i64 4]∧η=[]) fun v η h=>by rcases h with ⟨_,⟨h2,_⟩,_⟩|⟨_,⟨_,rfl⟩,rfl,rfl⟩;exact absurd h2 e;exact ⟨rfl,rfl⟩))) ?_;refine zz 12 ?_;exact S.rt results155 rfl hR ⟨by simp [e],rfl⟩
theorem bcompare_c {r:Fr} {va vb:Value} {xs ys:List UInt8} (ha:Arr Rp.u8 r va xs) (hb:Arr Rp.u8 r vb ys):Con prog 308 #[va,vb] r [] (Ret fun v η=>v=.int .i64 (Lib.compareBytes xs ys)∧η=[]):=by
 refine Con.o func308 fun g hg R hR=>?_;have ha:=ha.mono hg;have hb:=hb.mono hg;obtain ⟨a1,c1,rfl⟩:=ha.shape;obtain ⟨a2,c2,rfl⟩:=hb.shape;refine zz 8 ?_;refine O.op (.p rfl) (.compareExt func342 zC rfl zC zC rfl rfl rfl ha hb)<|zz 2 ?_;exact S.rt results308 rfl hR ⟨rfl,rfl⟩
end Go.Proofs.YtojafegjlahajaaGreatDoor
