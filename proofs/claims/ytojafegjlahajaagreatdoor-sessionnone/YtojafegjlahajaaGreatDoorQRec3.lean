/- Texts of this proof. -/
import Derived.Test.YtojafegjlahajaaGreatDoorQRec2
open Go Go.Sp Go.Proofs.Tryz
set_option maxRecDepth 100000
set_option maxHeartbeats 1000000
attribute [local irreducible] obj Own OwnP
namespace Go.Proofs.YtojafegjlahajaaGreatDoor
def txtRows (x:RecT):List (List UInt8):=[[1],bytesOf x.1,be x.2.1,be x.2.2.1,be x.2.2.2.1.length]
def dotRows (l:List DotT):List (List UInt8):=(l.map fun d=>[be d.1,be d.2.1]).flatten
theorem dotRows_snoc (l:List DotT) (d:DotT):dotRows (l++[d])=dotRows l++[be d.1,be d.2.1]:=by simp [dotRows]
theorem dotRows_flat (l:List DotT):(dotRows l).flatten=dotsB l:=by
 induction l with
 |nil=>rfl
 |cons d l ih=>rw [dotsB_cons,← ih];simp [dotRows]
theorem txt_all (x:RecT):(txtRows x++dotRows x.2.2.2.1++[[goneB x.2.2.2.2.1],bytesOf x.2.2.2.2.2.1]).flatten=recText x:=by
 simp [txtRows,recText,dotRows_flat]
theorem wtext_c {r:Fr} {cs:List Value} {x:RecT} (h:RecRp.rel r cs x) (hs:shaped x=true):Con prog 354 #[.agg cs.toArray] r [] (Ret fun v η=>∃ a c,v=.slice a (recText x).length c∧η=[OwnP Rp.u8 5 (.slice a (recText x).length c) (recText x)]):=by
 have hb:=shaped_iff.1 hs;have hl:=recText_le hs;have hdl:=rises_len hb.2.2.2.1;obtain ⟨v3,v5,v6,rfl,k0,k1,k2,k3,k5,k6⟩:=RecRp.open h;refine Con.o func354 fun g hg R hR=>?_;have h:=h.mono hg;have k3:=k3.mono hg;have k5:=k5.mono hg;have k6:=k6.mono hg;obtain ⟨a3,c3,rfl⟩:=k3.shape;obtain ⟨a5,c5,rfl⟩:=k5.shape;obtain ⟨a6,c6,rfl⟩:=k6.shape;refine S.seq<|S.region rfl<|O.opE (.p rfl) (.box (cs:=[_,_,_,_,_,_,_]) rfl rfl) ?_;rintro _ _ ⟨b1,rfl,rfl⟩;refine zz 4 ?_;refine O.opE (.p rfl) (.litP (T:=Rp.u8) (ys:=[0]) underlying24 elem5 zE rfl rfl ⟨rfl,trivial⟩ zE) ?_;rintro _ _ ⟨a7,c7,rfl,rfl⟩;refine zz 4 ?_;refine S.cut2 (fun (q:Option Addr × Nat)=>True) (fun (q:Option Addr × Nat)=>[(3,.slice q.1 1 q.2)]) [(1,_)] (fun (q:Option Addr × Nat)=>[obj b1 415 [.string (str x.1),.int .i64 x.2.1,.int .i64 x.2.2.1,.slice a3 x.2.2.2.1.length c3,.bool x.2.2.2.2.1,.slice a5 x.2.2.2.2.2.1.length c5,.slice a6 x.2.2.2.2.2.2.1.length c6],OwnP Rp.u8 5 (.slice q.1 1 q.2) [goneB x.2.2.2.2.1]]) zq (fun key=>?_) (fun q hx=>?_)
 ·have hm1:=meltRefl (g:=g)
  refine zz 5 ?_;refine S.cd rfl (fun h10=>?_) fun h10=>?_
  ·refine zz 2 ?_
   refine O.opE (.p rfl) (.idxOwn (T:=Rp.u8) underlying24 size5 rfl rfl (show _=(((0):Nat):Int) by omega) zC zP) ?_;rintro _ _ ⟨p12,rfl,hp12,rfl⟩;refine O.opU rfl (.storeOwn size5 rfl hp12 rfl zC zP (show _=_ by rfl:Rp.rel _ _ _ ((1:UInt8)))) ?_;refine O.nil<|S.ownIs (T:=Rp.u8) (xs' :=[goneB x.2.2.2.2.1]) zC rfl (by rw [h10];rfl) ?_;refine S.pk ?_ (S.weaken ?_ (key ((a7,c7)) (by trivial)))
   ·exact zN
   repeat (first|exact Sub.nil|refine Sub.cons rfl ?_)
  ·refine S.skip<|S.ownIs (T:=Rp.u8) (xs' :=[goneB x.2.2.2.2.1]) zC rfl (by rw [h10];rfl) ?_
   refine S.pk ?_ (S.weaken ?_ (key ((a7,c7)) (by trivial)))
   ·exact zN
   repeat (first|exact Sub.nil|refine Sub.cons rfl ?_)
 ·refine S.seq<|S.frzO zC fun g hs hm hbx=>?_
  replace hg:=zfs hg hs;replace hR:=melted hR hm
  try replace h:=h.mono hs
  try replace k3:=k3.mono hs
  try replace k5:=k5.mono hs
  try replace k6:=k6.mono hs
  clear hs hm;refine S.regionJ (L:=[1,2,3,6,7,8,10,11,12,14,15,16,17,0,4,5,9,13,18,19,20]) (fun (s:(Option Addr × Nat) × List Value)=>[(4,.slice s.1.1 s.2.length s.1.2)]) [(1,_),(3,_)] (fun (s:(Option Addr × Nat) × List Value)=>[RowsP Rp.u8 5 s.2 (txtRows x),OwnP Rp.val 24 (.slice s.1.1 s.2.length s.1.2) s.2,OwnP Rp.u8 5 (.slice q.1 1 q.2) [goneB x.2.2.2.2.1]]) zq F.mixed zD (fun kk key=>?_) (fun s=>?_)
  ·refine zz 13 ?_
   refine OD.alt2 0 4 [4,5,9,13,18,19,20] [0,5,9,13,18,19,20] zD rfl rfl ?_ ?_
   ·refine ODt.litP (T:=Rp.u8) (ys:=[1]) (.p rfl) zD underlying24 elem5 zE rfl rfl ⟨rfl,trivial⟩ zE (fun a13 c13=>?_)
    refine OD.strBytesO (.p rfl) zD underlying9 underlying24 underlying5 rfl (by first|assumption|omega|(simp;done)|(simp;omega)) (fun a17 c17=>?_);refine OD.callB (.p rfl) zD rfl zD rfl rfl (bs:=[OwnP Rp.u8 5 (.slice a17 x.1.length c17) x.1]) zI (fun m hm hd=>wBytes_c (hm.arr.right hd) zB) ?_;rintro _ _ ⟨a18,c18,rfl,rfl⟩;refine OD.call0 (.p rfl) zD rfl zD rfl rfl (wNumber_c _) ?_;rintro _ _ ⟨a22,c22,rfl,rfl⟩;refine OD.call0 (.p rfl) zD rfl zD rfl rfl (wNumber_c _) ?_;rintro _ _ ⟨a26,c26,rfl,rfl⟩;refine OD.call0 (.p rfl) zD rfl zD rfl rfl (wNumber_c _) ?_;rintro _ _ ⟨a31,c31,rfl,rfl⟩;refine OD.litP (T:=Rp.val) (ys:=[_,_,_,_,_]) (.p rfl) zD underlying109 elem24 zE rfl rfl ⟨⟨rfl,rfl⟩,⟨rfl,rfl⟩,⟨rfl,rfl⟩,⟨rfl,rfl⟩,⟨rfl,rfl⟩,trivial⟩ zE (fun a32 c32=>?_);refine OD.q 1 rfl<|ODx.nil<|S.eachOf (OwnP Rp.u8 5) (bs:=[.slice a13 1 c13,.slice a18 (bytesOf x.1).length c18,.slice a22 8 c22,.slice a26 8 c26,.slice a31 8 c31]) (ys:=txtRows x) zI rfl ?_;refine S.pk ?_ (S.weaken (Sub.app zq zq) (key ((a32,c32),[.slice a13 1 c13,.slice a18 (bytesOf x.1).length c18,.slice a22 8 c22,.slice a26 8 c26,.slice a31 8 c31])))
    try dsimp only
    repeat (first|exact zpa|exact zpn|(apply zpc;focus (repeat (first|exact zh|apply zt)))|apply zps)
   ·refine ODt.strBytesO (.p rfl) zD underlying9 underlying24 underlying5 rfl (by first|assumption|omega|(simp;done)|(simp;omega)) (fun a17 c17=>?_)
    refine OD.alt2 0 5 [5,9,13,18,19,20] [0,9,13,18,19,20] zD rfl rfl ?_ ?_
    ·refine ODt.litP (T:=Rp.u8) (ys:=[1]) (.p rfl) zD underlying24 elem5 zE rfl rfl ⟨rfl,trivial⟩ zE (fun a13 c13=>?_)
     refine OD.callB (.p rfl) zD rfl zD rfl rfl (bs:=[OwnP Rp.u8 5 (.slice a17 x.1.length c17) x.1]) zI (fun m hm hd=>wBytes_c (hm.arr.right hd) zB) ?_;rintro _ _ ⟨a18,c18,rfl,rfl⟩;refine OD.call0 (.p rfl) zD rfl zD rfl rfl (wNumber_c _) ?_;rintro _ _ ⟨a22,c22,rfl,rfl⟩;refine OD.call0 (.p rfl) zD rfl zD rfl rfl (wNumber_c _) ?_;rintro _ _ ⟨a26,c26,rfl,rfl⟩;refine OD.call0 (.p rfl) zD rfl zD rfl rfl (wNumber_c _) ?_;rintro _ _ ⟨a31,c31,rfl,rfl⟩;refine OD.litP (T:=Rp.val) (ys:=[_,_,_,_,_]) (.p rfl) zD underlying109 elem24 zE rfl rfl ⟨⟨rfl,rfl⟩,⟨rfl,rfl⟩,⟨rfl,rfl⟩,⟨rfl,rfl⟩,⟨rfl,rfl⟩,trivial⟩ zE (fun a32 c32=>?_);refine OD.q 1 rfl<|ODx.nil<|S.eachOf (OwnP Rp.u8 5) (bs:=[.slice a13 1 c13,.slice a18 (bytesOf x.1).length c18,.slice a22 8 c22,.slice a26 8 c26,.slice a31 8 c31]) (ys:=txtRows x) zI rfl ?_;refine S.pk ?_ (S.weaken (Sub.app zq zq) (key ((a32,c32),[.slice a13 1 c13,.slice a18 (bytesOf x.1).length c18,.slice a22 8 c22,.slice a26 8 c26,.slice a31 8 c31])))
     try dsimp only
     repeat (first|exact zpa|exact zpn|(apply zpc;focus (repeat (first|exact zh|apply zt)))|apply zps)
    ·refine ODt.callB (.p rfl) zD rfl zD rfl rfl (bs:=[OwnP Rp.u8 5 (.slice a17 x.1.length c17) x.1]) zI (fun m hm hd=>wBytes_c (hm.arr.right hd) zB) ?_
     rintro _ _ ⟨a18,c18,rfl,rfl⟩;refine OD.alt2 0 9 [9,13,18,19,20] [0,13,18,19,20] zD rfl rfl ?_ ?_
     ·refine ODt.litP (T:=Rp.u8) (ys:=[1]) (.p rfl) zD underlying24 elem5 zE rfl rfl ⟨rfl,trivial⟩ zE (fun a13 c13=>?_)
      refine OD.call0 (.p rfl) zD rfl zD rfl rfl (wNumber_c _) ?_;rintro _ _ ⟨a22,c22,rfl,rfl⟩;refine OD.call0 (.p rfl) zD rfl zD rfl rfl (wNumber_c _) ?_;rintro _ _ ⟨a26,c26,rfl,rfl⟩;refine OD.call0 (.p rfl) zD rfl zD rfl rfl (wNumber_c _) ?_;rintro _ _ ⟨a31,c31,rfl,rfl⟩;refine OD.litP (T:=Rp.val) (ys:=[_,_,_,_,_]) (.p rfl) zD underlying109 elem24 zE rfl rfl ⟨⟨rfl,rfl⟩,⟨rfl,rfl⟩,⟨rfl,rfl⟩,⟨rfl,rfl⟩,⟨rfl,rfl⟩,trivial⟩ zE (fun a32 c32=>?_);refine OD.q 1 rfl<|ODx.nil<|S.eachOf (OwnP Rp.u8 5) (bs:=[.slice a13 1 c13,.slice a18 (bytesOf x.1).length c18,.slice a22 8 c22,.slice a26 8 c26,.slice a31 8 c31]) (ys:=txtRows x) zI rfl ?_;refine S.pk ?_ (S.weaken (Sub.app zq zq) (key ((a32,c32),[.slice a13 1 c13,.slice a18 (bytesOf x.1).length c18,.slice a22 8 c22,.slice a26 8 c26,.slice a31 8 c31])))
      try dsimp only
      repeat (first|exact zpa|exact zpn|(apply zpc;focus (repeat (first|exact zh|apply zt)))|apply zps)
     ·refine ODt.call0 (.p rfl) zD rfl zD rfl rfl (wNumber_c _) ?_
      rintro _ _ ⟨a22,c22,rfl,rfl⟩;refine OD.alt2 0 13 [13,18,19,20] [0,18,19,20] zD rfl rfl ?_ ?_
      ·refine ODt.litP (T:=Rp.u8) (ys:=[1]) (.p rfl) zD underlying24 elem5 zE rfl rfl ⟨rfl,trivial⟩ zE (fun a13 c13=>?_)
       refine OD.call0 (.p rfl) zD rfl zD rfl rfl (wNumber_c _) ?_;rintro _ _ ⟨a26,c26,rfl,rfl⟩;refine OD.call0 (.p rfl) zD rfl zD rfl rfl (wNumber_c _) ?_;rintro _ _ ⟨a31,c31,rfl,rfl⟩;refine OD.litP (T:=Rp.val) (ys:=[_,_,_,_,_]) (.p rfl) zD underlying109 elem24 zE rfl rfl ⟨⟨rfl,rfl⟩,⟨rfl,rfl⟩,⟨rfl,rfl⟩,⟨rfl,rfl⟩,⟨rfl,rfl⟩,trivial⟩ zE (fun a32 c32=>?_);refine OD.q 1 rfl<|ODx.nil<|S.eachOf (OwnP Rp.u8 5) (bs:=[.slice a13 1 c13,.slice a18 (bytesOf x.1).length c18,.slice a22 8 c22,.slice a26 8 c26,.slice a31 8 c31]) (ys:=txtRows x) zI rfl ?_;refine S.pk ?_ (S.weaken (Sub.app zq zq) (key ((a32,c32),[.slice a13 1 c13,.slice a18 (bytesOf x.1).length c18,.slice a22 8 c22,.slice a26 8 c26,.slice a31 8 c31])))
       try dsimp only
       repeat (first|exact zpa|exact zpn|(apply zpc;focus (repeat (first|exact zh|apply zt)))|apply zps)
      ·refine ODt.call0 (.p rfl) zD rfl zD rfl rfl (wNumber_c _) ?_
       rintro _ _ ⟨a26,c26,rfl,rfl⟩;refine OD.alt2 0 18 [18,19,20] [0,19,20] zD rfl rfl ?_ ?_
       ·refine ODt.litP (T:=Rp.u8) (ys:=[1]) (.p rfl) zD underlying24 elem5 zE rfl rfl ⟨rfl,trivial⟩ zE (fun a13 c13=>?_)
        refine OD.call0 (.p rfl) zD rfl zD rfl rfl (wNumber_c _) ?_;rintro _ _ ⟨a31,c31,rfl,rfl⟩;refine OD.litP (T:=Rp.val) (ys:=[_,_,_,_,_]) (.p rfl) zD underlying109 elem24 zE rfl rfl ⟨⟨rfl,rfl⟩,⟨rfl,rfl⟩,⟨rfl,rfl⟩,⟨rfl,rfl⟩,⟨rfl,rfl⟩,trivial⟩ zE (fun a32 c32=>?_);refine OD.q 1 rfl<|ODx.nil<|S.eachOf (OwnP Rp.u8 5) (bs:=[.slice a13 1 c13,.slice a18 (bytesOf x.1).length c18,.slice a22 8 c22,.slice a26 8 c26,.slice a31 8 c31]) (ys:=txtRows x) zI rfl ?_;refine S.pk ?_ (S.weaken (Sub.app zq zq) (key ((a32,c32),[.slice a13 1 c13,.slice a18 (bytesOf x.1).length c18,.slice a22 8 c22,.slice a26 8 c26,.slice a31 8 c31])))
        try dsimp only
        repeat (first|exact zpa|exact zpn|(apply zpc;focus (repeat (first|exact zh|apply zt)))|apply zps)
       ·refine ODt.call0 (.p rfl) zD rfl zD rfl rfl (wNumber_c _) ?_
        rintro _ _ ⟨a31,c31,rfl,rfl⟩;refine OD.litP (T:=Rp.u8) (ys:=[1]) (.p rfl) zD underlying24 elem5 zE rfl rfl ⟨rfl,trivial⟩ zE (fun a13 c13=>?_);refine OD.litP (T:=Rp.val) (ys:=[_,_,_,_,_]) (.p rfl) zD underlying109 elem24 zE rfl rfl ⟨⟨rfl,rfl⟩,⟨rfl,rfl⟩,⟨rfl,rfl⟩,⟨rfl,rfl⟩,⟨rfl,rfl⟩,trivial⟩ zE (fun a32 c32=>?_);refine OD.q 1 rfl<|ODx.nil<|S.eachOf (OwnP Rp.u8 5) (bs:=[.slice a13 1 c13,.slice a18 (bytesOf x.1).length c18,.slice a22 8 c22,.slice a26 8 c26,.slice a31 8 c31]) (ys:=txtRows x) zI rfl ?_;refine S.pk ?_ (S.weaken (Sub.app zq zq) (key ((a32,c32),[.slice a13 1 c13,.slice a18 (bytesOf x.1).length c18,.slice a22 8 c22,.slice a26 8 c26,.slice a31 8 c31])))
        try dsimp only
        repeat (first|exact zpa|exact zpn|(apply zpc;focus (repeat (first|exact zh|apply zt)))|apply zps)
  refine S.factS (B:=RowsP Rp.u8 5 s.2 (txtRows x)) zC (fun _ z=>EachP.len z) fun hs5=>?_;refine zz 10 ?_;refine S.loopK2 (ι:=Nat) (κ:=(Option Addr × Nat) × List Value) (fun i p=>i≤x.2.2.2.1.length∧p.2.length=5+2*i) (fun i p=>[(37,.int .i64 (i:Int)),(4,.slice p.1.1 p.2.length p.1.2)]) [(1,_),(3,_),(35,_),(36,_)] (fun i p=>[RowsP Rp.u8 5 p.2 (txtRows x++dotRows (x.2.2.2.1.take i)),OwnP Rp.val 24 (.slice p.1.1 p.2.length p.1.2) p.2,OwnP Rp.u8 5 (.slice q.1 1 q.2) [goneB x.2.2.2.2.1]]) (fun i p=>x.2.2.2.1.length - i) (0) (s) (by exact ⟨by simp,hs5⟩) zq zq rfl fun i p hx ih=>?_;have hm1:=meltRefl (g:=g);obtain ⟨hx1,hx2⟩:=hx;refine zz 5 ?_;refine S.cd rfl (fun h38=>?_) fun h38=>?_
  ·have hi:i<x.2.2.2.1.length:=by omega
   have hrow:txtRows x++dotRows (x.2.2.2.1.take i)++[be x.2.2.2.1[i].1]++[be x.2.2.2.1[i].2.1]=txtRows x++dotRows (x.2.2.2.1.take (i+1)):=by rw [ztg hi,dotRows_snoc];simp
   refine zz 5 ?_;refine O.ia (.p rfl) underlying100 size191 rfl rfl rfl zA (h:=fun p39 cs39 hp39 hr39=>?_);obtain ⟨rfl,hi39,hj39⟩:=DotRp.open hr39;refine O.op (.p rfl) (.loadAgg isAgg191 zD rfl hp39) ?_;refine O.opE (.p rfl) (.alloc (cs:=[.int .i64 0,.int .i64 0]) zeroValue191 rfl) ?_;rintro _ _ ⟨b6,rfl,rfl⟩;refine zz 1 ?_;refine O.nil<|S.frzO zC fun g hs hm hd6=>?_;replace hg:=zfs hg hs;replace hR:=melted hR hm
   try replace h:=h.mono hs
   try replace k3:=k3.mono hs
   try replace k5:=k5.mono hs
   try replace k6:=k6.mono hs
   try replace hbx:=hbx.mono hs
   try replace hp39:=hp39.mono hs
   try replace hr39:=hr39.mono hs
   replace hm1:=meltTrans hm1 hm;clear hs hm;refine S.regionD (L:=[0,1,2,4,5,3,6,7,8,9]) F.mixed zD ?_;refine zz 5 ?_;refine OD.call0 (.p rfl) zD rfl zD rfl rfl (wNumber_c _) ?_;rintro _ _ ⟨a44,c44,rfl,rfl⟩;refine OD.call0 (.p rfl) zD rfl zD rfl rfl (wNumber_c _) ?_;rintro _ _ ⟨a47,c47,rfl,rfl⟩;refine OD.litP (T:=Rp.val) (ys:=[_,_]) (.p rfl) zD underlying109 elem24 zE rfl rfl ⟨⟨rfl,rfl⟩,⟨rfl,rfl⟩,trivial⟩ zE (fun a48 c48=>?_);refine OD.appendO (.p rfl) zD (T:=Rp.val) underlying109 elem24 zE rfl rfl zC zC zG zG (fun a49 c49=>?_);refine zz 7 ?_;refine S.each (A:=OwnP Rp.u8 5) (bs:=p.2) (b:=.slice a44 8 c44) (a:=be x.2.2.2.1[i].1) zC zC ?_;refine S.each (A:=OwnP Rp.u8 5) (bs:=p.2++[.slice a44 8 c44]) (b:=.slice a47 8 c47) (a:=be x.2.2.2.1[i].2.1) zC zC ?_;rw [hrow,zaa,← zla];exact S.melt hm1 (S.pw (ih (i+1) (((a49,c49),p.2++[.slice a44 8 c44,.slice a47 8 c47])) (by exact ⟨by omega,by simp;omega⟩) zB))
  ·clear ih
   have hi:i=x.2.2.2.1.length:=by omega
   subst hi;rw [List.take_length];have hrow:txtRows x++dotRows x.2.2.2.1++[[goneB x.2.2.2.2.1]]++[bytesOf x.2.2.2.2.2.1]=txtRows x++dotRows x.2.2.2.1++[[goneB x.2.2.2.2.1],bytesOf x.2.2.2.2.2.1]:=by simp
   have hfl:=txt_all x;refine zz 8 ?_;refine O.call0 (.p rfl) rfl zD rfl rfl (wBytes_c zA zG) ?_;rintro _ _ ⟨a56,c56,rfl,rfl⟩;refine O.opE (.p rfl) (.litP (T:=Rp.val) (ys:=[_,_]) underlying109 elem24 zE rfl rfl ⟨⟨rfl,rfl⟩,⟨rfl,rfl⟩,trivial⟩ zE) ?_;rintro _ _ ⟨a57,c57,rfl,rfl⟩;refine O.opE (.p rfl) (.appendO (T:=Rp.val) underlying109 elem24 zE rfl rfl zC zC zG zG) ?_;rintro _ _ ⟨a58,c58,rfl,rfl⟩;refine O.each (A:=OwnP Rp.u8 5) (bs:=p.2) (b:=.slice q.1 1 q.2) (a:=[goneB x.2.2.2.2.1]) zC zC ?_;refine O.each (A:=OwnP Rp.u8 5) (bs:=p.2++[.slice q.1 1 q.2]) (b:=.slice a56 (bytesOf x.2.2.2.2.2.1).length c56) (a:=bytesOf x.2.2.2.2.2.1) zC zC ?_;rw [hrow,zaa];refine O.frzR zC zC fun g hs hm hall=>?_;replace hg:=zfs hg hs;replace hR:=melted hR hm
   try replace h:=h.mono hs
   try replace k3:=k3.mono hs
   try replace k5:=k5.mono hs
   try replace k6:=k6.mono hs
   try replace hbx:=hbx.mono hs
   replace hm1:=meltTrans hm1 hm;clear hs hm;refine O.call0 (.p rfl) rfl zD rfl rfl ((wJoin_c hall (by rw [hfl];omega))) ?_;rintro _ _ ⟨a59,c59,rfl,rfl⟩;refine zz 2 ?_;rw [hfl];exact S.rt results354 rfl hR ⟨a59,c59,rfl,rfl⟩
theorem rRight_c {r:Fr} {cs:List Value} {x:RecT} (h:RecRp.rel r cs x):Con prog 328 #[.agg cs.toArray] r [] (Ret fun v η=>v=.bool (recOk x)∧η=[]):=by
 obtain ⟨xa3,xa5,xa6,xc3,xc5,xc6,rfl,k0,k1,k2,k3,k5,k6⟩:=RecRp.sh h;refine Con.o func328 fun g hg R hR=>?_;have h:=h.mono hg;have k6:=k6.mono hg
 cases e:shaped x with
 |false =>
  refine S.seq<|S.region rfl<|O.opE (.p rfl) (.box (cs:=[_,_,_,_,_,_,_]) rfl rfl) ?_;rintro _ _ ⟨b1,rfl,rfl⟩;refine zz 5 ?_;refine O.op (.p rfl) (.build (cs:=[_,_,_,_,_,_,_]) underlying415 rfl rfl rfl rfl rfl)<|O.v0 (.p rfl) rfl zD rfl rfl (wshaped_c h) ?_;refine O.sF 5 rfl (by exact e)<|zz 8 ?_;exact S.rt results328 rfl hR ⟨by simp [recOk,e],rfl⟩
 |true =>
  refine S.seq<|S.region rfl<|O.opE (.p rfl) (.box (cs:=[_,_,_,_,_,_,_]) rfl rfl) ?_;rintro _ _ ⟨b1,rfl,rfl⟩;refine zz 5 ?_;refine O.op (.p rfl) (.build (cs:=[_,_,_,_,_,_,_]) underlying415 rfl rfl rfl rfl rfl)<|O.v0 (.p rfl) rfl zD rfl rfl (wshaped_c h) ?_;refine O.sT 5 rfl (by exact e)<|zz 8 ?_;exact S.rt results328 rfl hR ⟨by simp [recOk,e];omega,rfl⟩
theorem rText_c {r:Fr} {cs:List Value} {x:RecT} (h:RecRp.rel r cs x) (hs:shaped x=true):Con prog 329 #[.agg cs.toArray] r [] (Ret fun v η=>∃ a c,v=.slice a (recText x).length c∧η=[OwnP Rp.u8 5 (.slice a (recText x).length c) (recText x)]):=by
 obtain ⟨xa3,xa5,xa6,xc3,xc5,xc6,rfl,k0,k1,k2,k3,k5,k6⟩:=RecRp.sh h;refine Con.o func329 fun g hg R hR=>?_;have h:=h.mono hg;refine S.seq<|S.region rfl<|O.opE (.p rfl) (.box (cs:=[_,_,_,_,_,_,_]) rfl rfl) ?_;rintro _ _ ⟨b1,rfl,rfl⟩;refine zz 5 ?_;refine O.op (.p rfl) (.build (cs:=[_,_,_,_,_,_,_]) underlying415 rfl rfl rfl rfl rfl)<|O.opE (.p rfl) (.alloc (cs:=[.string ⟨#[]⟩,.int .i64 0,.int .i64 0,.slice none 0 0,.bool false,.slice none 0 0,.slice none 0 0]) zeroValue415 rfl) ?_;rintro _ _ ⟨b3,rfl,rfl⟩;refine zz 6 ?_;refine O.v0 (.p rfl) rfl zD rfl rfl (wshaped_c h) ?_;refine O.sT 7 rfl (by exact hs) ?_;refine zz 7 ?_;refine O.call0 (.p rfl) rfl zD rfl rfl (wtext_c (by first|assumption|exact Rp.rel.mono zM hg) zM) ?_;rintro _ _ ⟨a10,c10,rfl,rfl⟩;refine zz 2 ?_;exact S.rt results329 rfl hR ⟨a10,c10,rfl,rfl⟩
def recOut (x:RecT):List UInt8:=if recOk x then recB x else []
def recErr (x:RecT):Int:=if recOk x then 0 else 4
theorem rPut_c {r:Fr} {cs:List Value} {x:RecT} (h:RecRp.rel r cs x):Con prog 292 #[.agg cs.toArray] r [] (Ret fun v η=>∃ a c,v=.tuple #[.slice a (recOut x).length c,.int .i64 (recErr x)]∧η=[OwnP Rp.u8 5 (.slice a (recOut x).length c) (recOut x)]):=by
 obtain ⟨xa3,xa5,xa6,xc3,xc5,xc6,rfl,k0,k1,k2,k3,k5,k6⟩:=RecRp.sh h;refine Con.o func292 fun g hg R hR=>?_;have h:=h.mono hg;have k6:=k6.mono hg
 cases e:recOk x with
 |false =>
  have e1:recOut x=[]:=by simp [recOut,e]
  have e2:recErr x=4:=by simp [recErr,e]
  rw [e1,e2] at hR;refine S.seq<|S.region rfl<|O.opE (.p rfl) (.box (cs:=[_,_,_,_,_,_,_]) rfl rfl) ?_;rintro _ _ ⟨b1,rfl,rfl⟩;refine zz 7 ?_;refine O.v0 (.p rfl) rfl zD rfl rfl (rRight_c h) ?_;refine O.sF 5 rfl (by exact e) ?_;refine zz 8 ?_;refine S.addNil (T:=Rp.u8) (e:=5) ?_;refine S.ret2 results292 rfl rfl fun w hw=>Holds.end_ hR hw ?_;exact pk ⟨none,0,rfl,rfl⟩
 |true =>
  have e1:recOut x=recB x:=by simp [recOut,e]
  have e2:recErr x=0:=by simp [recErr,e]
  have hl:=recB_le e;obtain ⟨hs,hs2⟩:=recOk_iff.1 e;have hfl:[recText x,x.2.2.2.2.2.2.1].flatten=recB x:=by simp [recB]
  rw [e1,e2] at hR;refine S.seq<|S.region rfl<|O.opE (.p rfl) (.box (cs:=[_,_,_,_,_,_,_]) rfl rfl) ?_;rintro _ _ ⟨b1,rfl,rfl⟩;refine zz 7 ?_;refine O.v0 (.p rfl) rfl zD rfl rfl (rRight_c h) ?_;refine O.sT 5 rfl (by exact e) ?_;refine zz 5 ?_;refine S.frzO zC fun g hs hm hbx=>?_;replace hg:=zfs hg hs;replace hR:=melted hR hm
  try replace h:=h.mono hs
  try replace k6:=k6.mono hs
  clear hs hm;refine S.regionD (L:=[0,2,3,1,4,5,6,7]) F.mixed zD ?_;refine .quiet (.p rfl) rfl (fun _=>.loadAgg isAgg102 zD rfl hbx) ?_;refine zz 2 ?_;refine OD.call0 (.p rfl) zD rfl zD rfl rfl (rText_c (by first|assumption|exact Rp.rel.mono zM hg) zM) ?_;rintro _ _ ⟨a8,c8,rfl,rfl⟩;refine OD.litP (T:=Rp.val) (ys:=[_,_]) (.p rfl) zD underlying109 elem24 zE rfl rfl ⟨⟨rfl,rfl⟩,⟨rfl,rfl⟩,trivial⟩ zE (fun a11 c11=>?_);refine OD.callB (.p rfl) zD rfl zD rfl rfl (bs:=[OwnP Rp.val 24 (.slice a11 2 c11) [.slice a8 (recText x).length c8,.slice xa6 x.2.2.2.2.2.2.1.length xc6],OwnP Rp.u8 5 (.slice a8 (recText x).length c8) (recText x)]) zI (fun m hm hd=>wJoin_c (xss:=[recText x,x.2.2.2.2.2.2.1]) ((hm.arr.right hd).rows ⟨hm.tail.arr.right hd,k6.left,trivial⟩) (by rw [hfl];omega)) ?_;rintro _ _ ⟨a12,c12,rfl,rfl⟩;refine zz 3 ?_;rw [hfl];refine S.ret2 results292 rfl rfl fun w hw=>Holds.end_ hR hw ?_;exact pk ⟨a12,c12,rfl,rfl⟩
theorem rOver_c {r:Fr} {cs ds:List Value} {x y:RecT} (h:RecRp.rel r cs x) (h' :RecRp.rel r ds y):Con prog 297 #[.agg cs.toArray,.agg ds.toArray] r [] (Ret fun v η=>v=.bool (over x y)∧η=[]):=by
 obtain ⟨xa3,xa5,xa6,xc3,xc5,xc6,rfl,k0,k1,k2,k3,k5,k6⟩:=RecRp.sh h;obtain ⟨ya3,ya5,ya6,yc3,yc5,yc6,rfl,l0,l1,l2,l3,l5,l6⟩:=RecRp.sh h';refine Con.o func297 fun g hg R hR=>?_;have h:=h.mono hg;have h' :=h'.mono hg;have k3:=k3.mono hg;refine S.seq<|S.region rfl<|O.opE (.p rfl) (.box (cs:=[_,_,_,_,_,_,_]) rfl rfl) ?_;rintro _ _ ⟨b2,rfl,rfl⟩;refine O.opE (.p rfl) (.box (cs:=[_,_,_,_,_,_,_]) rfl rfl) ?_;rintro _ _ ⟨b3,rfl,rfl⟩;refine zz 3 ?_;refine S.frzO zC fun g hs hm hb3=>?_;replace hg:=zfs hg hs;replace hR:=melted hR hm
 try replace h:=h.mono hs
 try replace h' :=h'.mono hs
 try replace k3:=k3.mono hs
 clear hs hm;refine S.frzO zC fun g hs hm hb2=>?_;replace hg:=zfs hg hs;replace hR:=melted hR hm
 try replace h:=h.mono hs
 try replace h' :=h'.mono hs
 try replace k3:=k3.mono hs
 try replace hb3:=hb3.mono hs
 clear hs hm;refine S.regionD (L:=.range 8) F.mixed zD ?_;refine .quiet (.p rfl) rfl (fun _=>.loadAgg isAgg102 zD rfl hb2) ?_;refine .quiet (.p rfl) rfl (fun _=>.build (cs:=[_,_,_,_,_,_,_]) underlying415 rfl rfl rfl rfl rfl)<|.quiet (.p rfl) rfl (fun _=>.loadAgg isAgg102 zD rfl hb3) ?_;refine .quiet (.p rfl) rfl (fun _=>.build (cs:=[_,_,_,_,_,_,_]) underlying415 rfl rfl rfl rfl rfl)<|.lazy rfl zD rfl fun b5=>?_;refine .lazy rfl zD rfl fun b6=>?_;refine OD.storeObj rfl zD zD rfl rfl rfl rfl zC zO ?_;refine OD.storeObj rfl zD zD rfl rfl rfl rfl zC zO ?_;refine ODx.nil<|S.seq<|S.objIs (b:=b5) (cs' :=[.string (str x.1),.int .i64 x.2.1,.int .i64 x.2.2.1,.slice xa3 x.2.2.2.1.length xc3,.bool x.2.2.2.2.1,.slice xa5 x.2.2.2.2.2.1.length xc5,.slice xa6 x.2.2.2.2.2.2.1.length xc6]) zC rfl ?_;refine S.objIs (b:=b6) (cs' :=[.string (str y.1),.int .i64 y.2.1,.int .i64 y.2.2.1,.slice ya3 y.2.2.2.1.length yc3,.bool y.2.2.2.2.1,.slice ya5 y.2.2.2.2.2.1.length yc5,.slice ya6 y.2.2.2.2.2.2.1.length yc6]) zC rfl ?_;refine S.frzO zC fun g hs hm hb5=>?_;replace hg:=zfs hg hs;replace hR:=melted hR hm
 try replace h:=h.mono hs
 try replace h' :=h'.mono hs
 try replace k3:=k3.mono hs
 try replace hb3:=hb3.mono hs
 try replace hb2:=hb2.mono hs
 clear hs hm;refine S.frzO zC fun g hs hm hb6=>?_;replace hg:=zfs hg hs;replace hR:=melted hR hm
 try replace h:=h.mono hs
 try replace h' :=h'.mono hs
 try replace k3:=k3.mono hs
 try replace hb3:=hb3.mono hs
 try replace hb2:=hb2.mono hs
 try replace hb5:=hb5.mono hs
 clear hs hm
 by_cases e1:x.1=y.1
 ·cases e2:shaped x with
  |false =>
   refine S.regionD (L:=.range 21) F.mixed zD ?_;refine zz 4 ?_;refine .quiet (.p rfl) rfl (fun _=>.eqlS rfl rfl)<|OD.sT 15 rfl (by simp [e1]) ?_;refine OD.q 1 rfl<|.quiet (.g rfl rfl) rfl (fun _=>.loadAgg isAgg415 zD rfl hb6) ?_;refine OD.v0 (.g rfl rfl) zD rfl zD rfl rfl (wshaped_c h) ?_;refine OD.sF 18 rfl (by exact e2)<|zz 14 ?_;exact S.rt results297 rfl hR ⟨by simp [over,e2],rfl⟩
  |true =>
   cases e3:shaped y with
   |false =>
    refine S.regionD (L:=.range 21) F.mixed zD ?_;refine zz 4 ?_;refine .quiet (.p rfl) rfl (fun _=>.eqlS rfl rfl)<|OD.sT 15 rfl (by simp [e1]) ?_;refine OD.q 1 rfl<|.quiet (.g rfl rfl) rfl (fun _=>.loadAgg isAgg415 zD rfl hb6) ?_;refine OD.v0 (.g rfl rfl) zD rfl zD rfl rfl (wshaped_c h) ?_;refine OD.sT 18 rfl (by exact e2) ?_;refine OD.q 2 rfl<|.quiet (.g rfl rfl) rfl (fun _=>.loadAgg isAgg415 zD rfl hb5) ?_;refine OD.v0 (.g rfl rfl) zD rfl zD rfl rfl (wshaped_c h') ?_;refine OD.sF 22 rfl (by exact e3)<|zz 10 ?_;exact S.rt results297 rfl hR ⟨by simp [over,e3],rfl⟩
   |true =>
    refine S.regionD (L:=.range 21) F.mixed zD ?_;refine zz 4 ?_;refine .quiet (.p rfl) rfl (fun _=>.eqlS rfl rfl)<|OD.sT 15 rfl (by simp [e1]) ?_;refine OD.q 1 rfl<|.quiet (.g rfl rfl) rfl (fun _=>.loadAgg isAgg415 zD rfl hb6) ?_;refine OD.v0 (.g rfl rfl) zD rfl zD rfl rfl (wshaped_c h) ?_;refine OD.sT 18 rfl (by exact e2) ?_;refine OD.q 2 rfl<|.quiet (.g rfl rfl) rfl (fun _=>.loadAgg isAgg415 zD rfl hb5) ?_;refine OD.v0 (.g rfl rfl) zD rfl zD rfl rfl (wshaped_c h') ?_;refine OD.sT 22 rfl (by exact e3)<|zz 4 ?_;refine .quiet (.g rfl rfl) rfl (fun _=>.loadAgg isAgg415 zD rfl hb5) ?_;refine OD.v0 (.g rfl rfl) zD rfl zD rfl rfl (wdot_c h') ?_;refine OD.v0 (.g rfl rfl) zD rfl zD rfl rfl (vHas_c (rDot y) rfl k3)<|zz 3 ?_;exact S.rt results297 rfl hR ⟨by simp [over,e1,e2,e3],rfl⟩
 ·
  refine S.regionD (L:=.range 21) F.mixed zD ?_;refine zz 4 ?_;refine .quiet (.p rfl) rfl (fun _=>.eqlS rfl rfl)<|OD.sF 15 rfl (by simp [e1]) ?_;refine zz 17 ?_;exact S.rt results297 rfl hR ⟨by simp [over,e1],rfl⟩
end Go.Proofs.YtojafegjlahajaaGreatDoor
