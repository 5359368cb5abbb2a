/- Texts of this proof. -/
import Derived.Test.YtojafegjlahajaaGreatDoorQRec2
open Go Go.Sp Go.Proofs.Tryz
set_option maxRecDepth 100000
set_option maxHeartbeats 1000000
attribute [local irreducible] obj Own OwnP
namespace Go.Proofs.YtojafegjlahajaaGreatDoor
def txtRows (x:RecT):List (List UInt8):=[[1],bytesOf x.1,be x.2.1,be x.2.2.1,be x.2.2.2.1.length]
def dotRows (l:List DotT):List (List UInt8):=(l.map fun d=>[be d.1,be d.2.1]).flatten
theorem dotRows_snoc (l:List DotT) (d:DotT):dotRows (l++[d])=dotRows l++[be d.1,be d.2.1]:=by simp [dotRows]
theorem dotRows_flat (l:List DotT):(dotRows l).flatten=dotsB l:=by
 induction l with
 |nil=>rfl
 |cons d l ih=>rw [dotsB_cons,← ih];simp [dotRows]
theorem txt_all (x:RecT):(txtRows x++dotRows x.2.2.2.1++[[goneB x.2.2.2.2.1],bytesOf x.2.2.2.2.2.1]).flatten=recText x:=by
 simp [txtRows,recText,dotRows_flat]
theorem wtext_c {r:Fr} {cs:List Value} {x:RecT} (h:RecRp.rel r cs x) (hs:shaped x=true):Con prog 354 #[.agg cs.toArray] r [] (Ret fun v η=>∃ a c,v=.slice a (recText x).length c∧η=[OwnP Rp.u8 5 (.slice a (recText x).length c) (recText x)]):=by
 have hb:=shaped_iff.1 hs;have hl:=recText_le hs;have hdl:=rises_len hb.2.2.2.1;obtain ⟨v3,v5,v6,rfl,k0,k1,k2,k3,k5,k6⟩:=RecRp.open h;refine Con.of (n:=60) _ rfl func354 rfl rfl rfl fun g hg R hR=>?_;have h:=h.mono hg;have k3:=k3.mono hg;have k5:=k5.mono hg;have k6:=k6.mono hg;obtain ⟨a3,c3,rfl⟩:=k3.shape;obtain ⟨a5,c5,rfl⟩:=k5.shape;obtain ⟨a6,c6,rfl⟩:=k6.shape;refine S.seq<|S.region rfl<|O.opE (.p rfl) (.box (cs:=[_,_,_,_,_,_,_]) rfl rfl) ?_;rintro _ _ ⟨b1,rfl,rfl⟩;refine O.q 1 rfl<|O.nil<|S.seq<|S.region rfl<|O.opE (.p rfl) (.litP (T:=Rp.u8) (ys:=[0]) underlying24 elem5 zF rfl rfl ⟨rfl,trivial⟩ zF) ?_;rintro _ _ ⟨a7,c7,rfl,rfl⟩;refine O.q 1 rfl<|O.nil<|S.seq<|S.seq<|S.cut2 (fun (q:Option Addr × Nat)=>True) (fun (q:Option Addr × Nat)=>[(3,.slice q.1 1 q.2)]) [(1,_)] (fun (q:Option Addr × Nat)=>[obj b1 415 [.string (str x.1),.int .i64 x.2.1,.int .i64 x.2.2.1,.slice a3 x.2.2.2.1.length c3,.bool x.2.2.2.2.1,.slice a5 x.2.2.2.2.2.1.length c5,.slice a6 x.2.2.2.2.2.2.1.length c6],OwnP Rp.u8 5 (.slice q.1 1 q.2) [goneB x.2.2.2.2.1]]) (.cons rfl (.nil)) (fun key=>?_) (fun q hx=>?_)
 ·have hm1:=meltRefl (g:=g)
  refine S.region rfl<|O.op (.p rfl) (.fieldObj fld415x0 rfl)<|O.op (.p rfl) (.fieldObj fld102x4 rfl)<|O.op (.p rfl) (.lo flat4) ?_;refine O.nil ?_
  first|refine S.condD rfl (fun h10=>?_) (fun h10=>?_)|refine S.condB rfl (fun h10=>?_) (fun h10=>?_)
  ·refine S.region rfl<|O.q 1 rfl<|O.opE (.p rfl) (.idxOwn (T:=Rp.u8) underlying24 size5 rfl rfl (show _=(((0):Nat):Int) by omega) zB zR) ?_
   rintro _ _ ⟨p12,rfl,hp12,rfl⟩;refine O.opU rfl (.storeOwn size5 rfl hp12 rfl zB zR (show _=_ by rfl:Rp.rel _ _ _ ((1:UInt8)))) ?_;refine O.nil<|S.ownIs (T:=Rp.u8) (xs' :=[goneB x.2.2.2.2.1]) zB rfl (by rw [h10];rfl) ?_;refine S.pk ?_ (S.weaken ?_ (key ((a7,c7)) (by trivial)))
   ·repeat (first|exact zpa|exact zpn|(apply zpc;focus (repeat (first|exact zh|apply zt)))|apply zps)
   repeat (first|exact Sub.nil|refine Sub.cons rfl ?_)
  ·refine S.skip<|S.ownIs (T:=Rp.u8) (xs' :=[goneB x.2.2.2.2.1]) zB rfl (by rw [h10];rfl) ?_
   refine S.pk ?_ (S.weaken ?_ (key ((a7,c7)) (by trivial)))
   ·repeat (first|exact zpa|exact zpn|(apply zpc;focus (repeat (first|exact zh|apply zt)))|apply zps)
   repeat (first|exact Sub.nil|refine Sub.cons rfl ?_)
 ·refine S.seq<|S.frzO zB fun g hs hm hbx=>?_
  replace hg:=Fr.sub_trans hg hs;replace hR:=melted hR hm
  try replace h:=h.mono hs
  try replace k3:=k3.mono hs
  try replace k5:=k5.mono hs
  try replace k6:=k6.mono hs
  clear hs hm;refine S.regionJ (L:=[1,2,3,6,7,8,10,11,12,14,15,16,17,0,4,5,9,13,18,19,20]) (fun (s:(Option Addr × Nat) × List Value)=>[(4,.slice s.1.1 s.2.length s.1.2)]) [(1,_),(3,_)] (fun (s:(Option Addr × Nat) × List Value)=>[RowsP Rp.u8 5 s.2 (txtRows x),OwnP Rp.val 24 (.slice s.1.1 s.2.length s.1.2) s.2,OwnP Rp.u8 5 (.slice q.1 1 q.2) [goneB x.2.2.2.2.1]]) (.cons rfl (.cons rfl (.nil))) mixedF zD (fun kk key=>?_) (fun s=>?_)
  ·refine .quiet (.p rfl) rfl (fun _=>.fieldAddr fld415x0 rfl)<|.quiet (.p rfl) rfl (fun _=>.fieldAddr fld102x0 rfl)<|.quiet (.p rfl) rfl (fun _=>.loadAt flat9 rfl hbx rfl) ?_
   refine .quiet (.p rfl) rfl (fun _=>.fieldAddr fld415x0 rfl)<|.quiet (.p rfl) rfl (fun _=>.fieldAddr fld102x1 rfl)<|.quiet (.p rfl) rfl (fun _=>.loadAt flat3 rfl (hbx.drop 1) rfl) ?_;refine .quiet (.p rfl) rfl (fun _=>.fieldAddr fld415x0 rfl)<|.quiet (.p rfl) rfl (fun _=>.fieldAddr fld102x2 rfl)<|.quiet (.p rfl) rfl (fun _=>.loadAt flat3 rfl (hbx.drop 2) rfl) ?_;refine .quiet (.p rfl) rfl (fun _=>.fieldAddr fld415x0 rfl)<|.quiet (.p rfl) rfl (fun _=>.fieldAddr fld102x3 rfl)<|.quiet (.p rfl) rfl (fun _=>.loadAt flat100 rfl (hbx.drop 3) rfl) ?_;refine .quiet (.p rfl) rfl (fun _=>.len rfl underlying100 rfl)<|OD.alt2 0 4 [4,5,9,13,18,19,20] [0,5,9,13,18,19,20] zD rfl rfl ?_ ?_
   ·refine ODt.litP (T:=Rp.u8) (ys:=[1]) (.p rfl) zD underlying24 elem5 zF rfl rfl ⟨rfl,trivial⟩ zF (fun a13 c13=>?_)
    refine OD.strBytesO (.p rfl) zD underlying9 underlying24 underlying5 rfl (by first|assumption|omega|(simp;done)|(simp;omega)) (fun a17 c17=>?_);refine OD.callB (.p rfl) zD rfl zD rfl rfl (bs:=[OwnP Rp.u8 5 (.slice a17 x.1.length c17) x.1]) zJ (fun m hm hd=>wBytes_c (hm.arr.right hd) zC) ?_;rintro _ _ ⟨a18,c18,rfl,rfl⟩
    try simp only [zx1,zx2,zx3]
    refine OD.call0 (.p rfl) zD rfl zD rfl rfl (wNumber_c _) ?_;rintro _ _ ⟨a22,c22,rfl,rfl⟩
    try simp only [zx1,zx2,zx3]
    refine OD.call0 (.p rfl) zD rfl zD rfl rfl (wNumber_c _) ?_;rintro _ _ ⟨a26,c26,rfl,rfl⟩
    try simp only [zx1,zx2,zx3]
    refine OD.call0 (.p rfl) zD rfl zD rfl rfl (wNumber_c _) ?_;rintro _ _ ⟨a31,c31,rfl,rfl⟩
    try simp only [zx1,zx2,zx3]
    refine OD.litP (T:=Rp.val) (ys:=[_,_,_,_,_]) (.p rfl) zD underlying109 elem24 zF rfl rfl ⟨⟨rfl,rfl⟩,⟨rfl,rfl⟩,⟨rfl,rfl⟩,⟨rfl,rfl⟩,⟨rfl,rfl⟩,trivial⟩ zF (fun a32 c32=>?_);refine OD.q 1 rfl<|ODx.nil<|S.eachOf (OwnP Rp.u8 5) (bs:=[.slice a13 1 c13,.slice a18 (bytesOf x.1).length c18,.slice a22 8 c22,.slice a26 8 c26,.slice a31 8 c31]) (ys:=txtRows x) zJ rfl ?_;refine S.pk ?_ (S.weaken (Sub.app (.cons rfl (.nil)) (.cons rfl (.cons rfl (.nil)))) (key ((a32,c32),[.slice a13 1 c13,.slice a18 (bytesOf x.1).length c18,.slice a22 8 c22,.slice a26 8 c26,.slice a31 8 c31])))
    try dsimp only
    repeat (first|exact zpa|exact zpn|(apply zpc;focus (repeat (first|exact zh|apply zt)))|apply zps)
   ·refine ODt.strBytesO (.p rfl) zD underlying9 underlying24 underlying5 rfl (by first|assumption|omega|(simp;done)|(simp;omega)) (fun a17 c17=>?_)
    refine OD.alt2 0 5 [5,9,13,18,19,20] [0,9,13,18,19,20] zD rfl rfl ?_ ?_
    ·refine ODt.litP (T:=Rp.u8) (ys:=[1]) (.p rfl) zD underlying24 elem5 zF rfl rfl ⟨rfl,trivial⟩ zF (fun a13 c13=>?_)
     refine OD.callB (.p rfl) zD rfl zD rfl rfl (bs:=[OwnP Rp.u8 5 (.slice a17 x.1.length c17) x.1]) zJ (fun m hm hd=>wBytes_c (hm.arr.right hd) zC) ?_;rintro _ _ ⟨a18,c18,rfl,rfl⟩
     try simp only [zx1,zx2,zx3]
     refine OD.call0 (.p rfl) zD rfl zD rfl rfl (wNumber_c _) ?_;rintro _ _ ⟨a22,c22,rfl,rfl⟩
     try simp only [zx1,zx2,zx3]
     refine OD.call0 (.p rfl) zD rfl zD rfl rfl (wNumber_c _) ?_;rintro _ _ ⟨a26,c26,rfl,rfl⟩
     try simp only [zx1,zx2,zx3]
     refine OD.call0 (.p rfl) zD rfl zD rfl rfl (wNumber_c _) ?_;rintro _ _ ⟨a31,c31,rfl,rfl⟩
     try simp only [zx1,zx2,zx3]
     refine OD.litP (T:=Rp.val) (ys:=[_,_,_,_,_]) (.p rfl) zD underlying109 elem24 zF rfl rfl ⟨⟨rfl,rfl⟩,⟨rfl,rfl⟩,⟨rfl,rfl⟩,⟨rfl,rfl⟩,⟨rfl,rfl⟩,trivial⟩ zF (fun a32 c32=>?_);refine OD.q 1 rfl<|ODx.nil<|S.eachOf (OwnP Rp.u8 5) (bs:=[.slice a13 1 c13,.slice a18 (bytesOf x.1).length c18,.slice a22 8 c22,.slice a26 8 c26,.slice a31 8 c31]) (ys:=txtRows x) zJ rfl ?_;refine S.pk ?_ (S.weaken (Sub.app (.cons rfl (.nil)) (.cons rfl (.cons rfl (.nil)))) (key ((a32,c32),[.slice a13 1 c13,.slice a18 (bytesOf x.1).length c18,.slice a22 8 c22,.slice a26 8 c26,.slice a31 8 c31])))
     try dsimp only
     repeat (first|exact zpa|exact zpn|(apply zpc;focus (repeat (first|exact zh|apply zt)))|apply zps)
    ·refine ODt.callB (.p rfl) zD rfl zD rfl rfl (bs:=[OwnP Rp.u8 5 (.slice a17 x.1.length c17) x.1]) zJ (fun m hm hd=>wBytes_c (hm.arr.right hd) zC) ?_
     rintro _ _ ⟨a18,c18,rfl,rfl⟩
     try simp only [zx1,zx2,zx3]
     refine OD.alt2 0 9 [9,13,18,19,20] [0,13,18,19,20] zD rfl rfl ?_ ?_
     ·refine ODt.litP (T:=Rp.u8) (ys:=[1]) (.p rfl) zD underlying24 elem5 zF rfl rfl ⟨rfl,trivial⟩ zF (fun a13 c13=>?_)
      refine OD.call0 (.p rfl) zD rfl zD rfl rfl (wNumber_c _) ?_;rintro _ _ ⟨a22,c22,rfl,rfl⟩
      try simp only [zx1,zx2,zx3]
      refine OD.call0 (.p rfl) zD rfl zD rfl rfl (wNumber_c _) ?_;rintro _ _ ⟨a26,c26,rfl,rfl⟩
      try simp only [zx1,zx2,zx3]
      refine OD.call0 (.p rfl) zD rfl zD rfl rfl (wNumber_c _) ?_;rintro _ _ ⟨a31,c31,rfl,rfl⟩
      try simp only [zx1,zx2,zx3]
      refine OD.litP (T:=Rp.val) (ys:=[_,_,_,_,_]) (.p rfl) zD underlying109 elem24 zF rfl rfl ⟨⟨rfl,rfl⟩,⟨rfl,rfl⟩,⟨rfl,rfl⟩,⟨rfl,rfl⟩,⟨rfl,rfl⟩,trivial⟩ zF (fun a32 c32=>?_);refine OD.q 1 rfl<|ODx.nil<|S.eachOf (OwnP Rp.u8 5) (bs:=[.slice a13 1 c13,.slice a18 (bytesOf x.1).length c18,.slice a22 8 c22,.slice a26 8 c26,.slice a31 8 c31]) (ys:=txtRows x) zJ rfl ?_;refine S.pk ?_ (S.weaken (Sub.app (.cons rfl (.nil)) (.cons rfl (.cons rfl (.nil)))) (key ((a32,c32),[.slice a13 1 c13,.slice a18 (bytesOf x.1).length c18,.slice a22 8 c22,.slice a26 8 c26,.slice a31 8 c31])))
      try dsimp only
      repeat (first|exact zpa|exact zpn|(apply zpc;focus (repeat (first|exact zh|apply zt)))|apply zps)
     ·refine ODt.call0 (.p rfl) zD rfl zD rfl rfl (wNumber_c _) ?_
      rintro _ _ ⟨a22,c22,rfl,rfl⟩
      try simp only [zx1,zx2,zx3]
      refine OD.alt2 0 13 [13,18,19,20] [0,18,19,20] zD rfl rfl ?_ ?_
      ·refine ODt.litP (T:=Rp.u8) (ys:=[1]) (.p rfl) zD underlying24 elem5 zF rfl rfl ⟨rfl,trivial⟩ zF (fun a13 c13=>?_)
       refine OD.call0 (.p rfl) zD rfl zD rfl rfl (wNumber_c _) ?_;rintro _ _ ⟨a26,c26,rfl,rfl⟩
       try simp only [zx1,zx2,zx3]
       refine OD.call0 (.p rfl) zD rfl zD rfl rfl (wNumber_c _) ?_;rintro _ _ ⟨a31,c31,rfl,rfl⟩
       try simp only [zx1,zx2,zx3]
       refine OD.litP (T:=Rp.val) (ys:=[_,_,_,_,_]) (.p rfl) zD underlying109 elem24 zF rfl rfl ⟨⟨rfl,rfl⟩,⟨rfl,rfl⟩,⟨rfl,rfl⟩,⟨rfl,rfl⟩,⟨rfl,rfl⟩,trivial⟩ zF (fun a32 c32=>?_);refine OD.q 1 rfl<|ODx.nil<|S.eachOf (OwnP Rp.u8 5) (bs:=[.slice a13 1 c13,.slice a18 (bytesOf x.1).length c18,.slice a22 8 c22,.slice a26 8 c26,.slice a31 8 c31]) (ys:=txtRows x) zJ rfl ?_;refine S.pk ?_ (S.weaken (Sub.app (.cons rfl (.nil)) (.cons rfl (.cons rfl (.nil)))) (key ((a32,c32),[.slice a13 1 c13,.slice a18 (bytesOf x.1).length c18,.slice a22 8 c22,.slice a26 8 c26,.slice a31 8 c31])))
       try dsimp only
       repeat (first|exact zpa|exact zpn|(apply zpc;focus (repeat (first|exact zh|apply zt)))|apply zps)
      ·refine ODt.call0 (.p rfl) zD rfl zD rfl rfl (wNumber_c _) ?_
       rintro _ _ ⟨a26,c26,rfl,rfl⟩
       try simp only [zx1,zx2,zx3]
       refine OD.alt2 0 18 [18,19,20] [0,19,20] zD rfl rfl ?_ ?_
       ·refine ODt.litP (T:=Rp.u8) (ys:=[1]) (.p rfl) zD underlying24 elem5 zF rfl rfl ⟨rfl,trivial⟩ zF (fun a13 c13=>?_)
        refine OD.call0 (.p rfl) zD rfl zD rfl rfl (wNumber_c _) ?_;rintro _ _ ⟨a31,c31,rfl,rfl⟩
        try simp only [zx1,zx2,zx3]
        refine OD.litP (T:=Rp.val) (ys:=[_,_,_,_,_]) (.p rfl) zD underlying109 elem24 zF rfl rfl ⟨⟨rfl,rfl⟩,⟨rfl,rfl⟩,⟨rfl,rfl⟩,⟨rfl,rfl⟩,⟨rfl,rfl⟩,trivial⟩ zF (fun a32 c32=>?_);refine OD.q 1 rfl<|ODx.nil<|S.eachOf (OwnP Rp.u8 5) (bs:=[.slice a13 1 c13,.slice a18 (bytesOf x.1).length c18,.slice a22 8 c22,.slice a26 8 c26,.slice a31 8 c31]) (ys:=txtRows x) zJ rfl ?_;refine S.pk ?_ (S.weaken (Sub.app (.cons rfl (.nil)) (.cons rfl (.cons rfl (.nil)))) (key ((a32,c32),[.slice a13 1 c13,.slice a18 (bytesOf x.1).length c18,.slice a22 8 c22,.slice a26 8 c26,.slice a31 8 c31])))
        try dsimp only
        repeat (first|exact zpa|exact zpn|(apply zpc;focus (repeat (first|exact zh|apply zt)))|apply zps)
       ·refine ODt.call0 (.p rfl) zD rfl zD rfl rfl (wNumber_c _) ?_
        rintro _ _ ⟨a31,c31,rfl,rfl⟩
        try simp only [zx1,zx2,zx3]
        refine OD.litP (T:=Rp.u8) (ys:=[1]) (.p rfl) zD underlying24 elem5 zF rfl rfl ⟨rfl,trivial⟩ zF (fun a13 c13=>?_);refine OD.litP (T:=Rp.val) (ys:=[_,_,_,_,_]) (.p rfl) zD underlying109 elem24 zF rfl rfl ⟨⟨rfl,rfl⟩,⟨rfl,rfl⟩,⟨rfl,rfl⟩,⟨rfl,rfl⟩,⟨rfl,rfl⟩,trivial⟩ zF (fun a32 c32=>?_);refine OD.q 1 rfl<|ODx.nil<|S.eachOf (OwnP Rp.u8 5) (bs:=[.slice a13 1 c13,.slice a18 (bytesOf x.1).length c18,.slice a22 8 c22,.slice a26 8 c26,.slice a31 8 c31]) (ys:=txtRows x) zJ rfl ?_;refine S.pk ?_ (S.weaken (Sub.app (.cons rfl (.nil)) (.cons rfl (.cons rfl (.nil)))) (key ((a32,c32),[.slice a13 1 c13,.slice a18 (bytesOf x.1).length c18,.slice a22 8 c22,.slice a26 8 c26,.slice a31 8 c31])))
        try dsimp only
        repeat (first|exact zpa|exact zpn|(apply zpc;focus (repeat (first|exact zh|apply zt)))|apply zps)
  refine S.factS (B:=RowsP Rp.u8 5 s.2 (txtRows x)) zB (fun _ z=>EachP.len z) fun hs5=>?_;refine S.seq<|S.seq<|S.region rfl<|O.op (.p rfl) (.fieldAddr fld415x0 rfl)<|O.op (.p rfl) (.fieldAddr fld102x3 rfl)<|O.op (.p rfl) (.loadAt flat100 rfl (hbx.drop 3) rfl) ?_;refine O.op (.p rfl) (.len rfl underlying100 rfl)<|O.q 1 rfl<|O.nil<|S.block<|S.loopK2 (ι:=Nat) (κ:=(Option Addr × Nat) × List Value) (fun i p=>i≤x.2.2.2.1.length∧p.2.length=5+2*i) (fun i p=>[(37,.int .i64 (i:Int)),(4,.slice p.1.1 p.2.length p.1.2)]) [(1,_),(3,_),(35,_),(36,_)] (fun i p=>[RowsP Rp.u8 5 p.2 (txtRows x++dotRows (x.2.2.2.1.take i)),OwnP Rp.val 24 (.slice p.1.1 p.2.length p.1.2) p.2,OwnP Rp.u8 5 (.slice q.1 1 q.2) [goneB x.2.2.2.2.1]]) (fun i p=>x.2.2.2.1.length - i) (0) (s) (by exact ⟨by simp,hs5⟩) (.cons rfl (.cons rfl (.nil))) (.cons rfl (.cons rfl (.cons rfl (.cons rfl (.nil))))) rfl fun i p hx ih=>?_;have hm1:=meltRefl (g:=g);obtain ⟨hx1,hx2⟩:=hx;refine S.seq<|S.region rfl<|O.op (.p rfl) (.lss rfl rfl)<|O.nil (S.seq ?_)
  first|refine S.condD rfl (fun h38=>?_) (fun h38=>?_)|refine S.condB rfl (fun h38=>?_) (fun h38=>?_)
  ·have hi:i<x.2.2.2.1.length:=by omega
   have hrow:txtRows x++dotRows (x.2.2.2.1.take i)++[be x.2.2.2.1[i].1]++[be x.2.2.2.1[i].2.1]=txtRows x++dotRows (x.2.2.2.1.take (i+1)):=by rw [List.take_succ_eq_append_getElem hi,dotRows_snoc];simp
   refine S.skip<|S.seq<|S.block<|S.seq<|S.region rfl<|O.ia (.p rfl) underlying100 size191 rfl rfl rfl (by first|assumption|exact Arr.mono hg zE|exact Arr.left zE|exact Arr.left (Arr.mono hg zE)) (h:=fun p39 cs39 hp39 hr39=>?_);obtain ⟨rfl,hi39,hj39⟩:=DotRp.open hr39;refine O.op (.p rfl) (.loadAgg isAgg191 zD rfl hp39) ?_;refine O.opE (.p rfl) (.alloc (cs:=[.int .i64 0,.int .i64 0]) zeroValue191 rfl) ?_;rintro _ _ ⟨b6,rfl,rfl⟩;refine O.opU rfl (.storeObj zD rfl rfl rfl rfl zB zH) ?_;refine O.nil<|S.frzO zB fun g hs hm hd6=>?_;replace hg:=Fr.sub_trans hg hs;replace hR:=melted hR hm
   try replace h:=h.mono hs
   try replace k3:=k3.mono hs
   try replace k5:=k5.mono hs
   try replace k6:=k6.mono hs
   try replace hbx:=hbx.mono hs
   try replace hp39:=hp39.mono hs
   try replace hr39:=hr39.mono hs
   replace hm1:=meltTrans hm1 hm;clear hs hm;refine S.regionD (L:=[0,1,2,4,5,3,6,7,8,9]) mixedF zD ?_;refine OD.q 1 rfl<|.quiet (.p rfl) rfl (fun _=>.fieldAddr fld191x0 rfl)<|.quiet (.p rfl) rfl (fun _=>.loadAt flat3 rfl hd6 rfl) ?_;refine .quiet (.p rfl) rfl (fun _=>.fieldAddr fld191x1 rfl)<|.quiet (.p rfl) rfl (fun _=>.loadAt flat3 rfl (hd6.drop 1) rfl) ?_;refine OD.call0 (.p rfl) zD rfl zD rfl rfl (wNumber_c _) ?_;rintro _ _ ⟨a44,c44,rfl,rfl⟩
   try simp only [zx1,zx2,zx3]
   refine OD.call0 (.p rfl) zD rfl zD rfl rfl (wNumber_c _) ?_;rintro _ _ ⟨a47,c47,rfl,rfl⟩
   try simp only [zx1,zx2,zx3]
   refine OD.litP (T:=Rp.val) (ys:=[_,_]) (.p rfl) zD underlying109 elem24 zF rfl rfl ⟨⟨rfl,rfl⟩,⟨rfl,rfl⟩,trivial⟩ zF (fun a48 c48=>?_);refine OD.appendO (.p rfl) zD (T:=Rp.val) underlying109 elem24 zF rfl rfl zB zB zI zI (fun a49 c49=>?_);refine OD.q 1 rfl<|ODx.nil<|S.inBlock<|S.region rfl<|O.op (.p rfl) (.add rfl rfl (IntWalk.i64_in _ zC))<|O.q 1 rfl<|O.nil<|S.each (A:=OwnP Rp.u8 5) (bs:=p.2) (b:=.slice a44 8 c44) (a:=be x.2.2.2.1[i].1) zB zB ?_;refine S.each (A:=OwnP Rp.u8 5) (bs:=p.2++[.slice a44 8 c44]) (b:=.slice a47 8 c47) (a:=be x.2.2.2.1[i].2.1) zB zB ?_;rw [hrow,List.append_assoc,← List.length_append];exact S.melt hm1 (S.pw (ih (i+1) (((a49,c49),p.2++[.slice a44 8 c44,.slice a47 8 c47])) (by exact ⟨by omega,by simp;omega⟩) zC))
  ·clear ih
   have hi:i=x.2.2.2.1.length:=by omega
   subst hi;rw [List.take_length];have hrow:txtRows x++dotRows x.2.2.2.1++[[goneB x.2.2.2.2.1]]++[bytesOf x.2.2.2.2.2.1]=txtRows x++dotRows x.2.2.2.1++[[goneB x.2.2.2.2.1],bytesOf x.2.2.2.2.2.1]:=by simp
   have hfl:=txt_all x;refine S.exit rfl<|S.seq<|S.region rfl<|O.q 2 rfl<|O.op (.p rfl) (.fieldAddr fld415x0 rfl)<|O.op (.p rfl) (.fieldAddr fld102x5 rfl)<|O.op (.p rfl) (.loadAt flat24 rfl (hbx.drop 5) rfl) ?_;refine O.call0 (.p rfl) rfl zD rfl rfl (wBytes_c (by first|assumption|exact Arr.mono hg zE|exact Arr.left zE|exact Arr.left (Arr.mono hg zE)) zI) ?_;rintro _ _ ⟨a56,c56,rfl,rfl⟩
   try simp only [zx1,zx2,zx3]
   refine O.opE (.p rfl) (.litP (T:=Rp.val) (ys:=[_,_]) underlying109 elem24 zF rfl rfl ⟨⟨rfl,rfl⟩,⟨rfl,rfl⟩,trivial⟩ zF) ?_;rintro _ _ ⟨a57,c57,rfl,rfl⟩;refine O.opE (.p rfl) (.appendO (T:=Rp.val) underlying109 elem24 zF rfl rfl zB zB zI zI) ?_;rintro _ _ ⟨a58,c58,rfl,rfl⟩;refine O.each (A:=OwnP Rp.u8 5) (bs:=p.2) (b:=.slice q.1 1 q.2) (a:=[goneB x.2.2.2.2.1]) zB zB ?_;refine O.each (A:=OwnP Rp.u8 5) (bs:=p.2++[.slice q.1 1 q.2]) (b:=.slice a56 (bytesOf x.2.2.2.2.2.1).length c56) (a:=bytesOf x.2.2.2.2.2.1) zB zB ?_;rw [hrow,List.append_assoc];refine O.frzR zB zB fun g hs hm hall=>?_;replace hg:=Fr.sub_trans hg hs;replace hR:=melted hR hm
   try replace h:=h.mono hs
   try replace k3:=k3.mono hs
   try replace k5:=k5.mono hs
   try replace k6:=k6.mono hs
   try replace hbx:=hbx.mono hs
   replace hm1:=meltTrans hm1 hm;clear hs hm;refine O.call0 (.p rfl) rfl zD rfl rfl ((wJoin_c hall (by rw [hfl];omega))) ?_;rintro _ _ ⟨a59,c59,rfl,rfl⟩
   try simp only [zx1,zx2,zx3]
   refine O.q 1 rfl<|O.nil ?_;rw [hfl];exact S.rt results354 rfl hR ⟨a59,c59,rfl,rfl⟩
theorem rRight_c {r:Fr} {cs:List Value} {x:RecT} (h:RecRp.rel r cs x):Con prog 328 #[.agg cs.toArray] r [] (Ret fun v η=>v=.bool (recOk x)∧η=[]):=by
 obtain ⟨xa3,xa5,xa6,xc3,xc5,xc6,rfl,k0,k1,k2,k3,k5,k6⟩:=RecRp.sh h;refine Con.of (n:=12) _ rfl func328 rfl rfl rfl fun g hg R hR=>?_;have h:=h.mono hg;have k6:=k6.mono hg
 cases e:shaped x with
 |false =>
  refine S.seq<|S.region rfl<|O.opE (.p rfl) (.box (cs:=[_,_,_,_,_,_,_]) rfl rfl) ?_;rintro _ _ ⟨b1,rfl,rfl⟩;refine O.q 1 rfl<|O.nil<|S.seq<|S.region rfl<|O.op (.p rfl) (.loA (news:=[_,_,_,_,_,_,_]) isAgg102) ?_;refine O.op (.p rfl) (.build (cs:=[_,_,_,_,_,_,_]) underlying415 rfl rfl rfl rfl rfl)<|O.call0 (.p rfl) rfl zD rfl rfl (wshaped_c h) ?_;rintro _ _ ⟨rfl,rfl⟩
  try simp only [zx1,zx2,zx3]
  refine O.sF 5 rfl (by exact e) ?_;refine O.q 7 rfl<|O.nil ?_;exact S.rt results328 rfl hR ⟨by simp [recOk,e],rfl⟩
 |true =>
  refine S.seq<|S.region rfl<|O.opE (.p rfl) (.box (cs:=[_,_,_,_,_,_,_]) rfl rfl) ?_;rintro _ _ ⟨b1,rfl,rfl⟩;refine O.q 1 rfl<|O.nil<|S.seq<|S.region rfl<|O.op (.p rfl) (.loA (news:=[_,_,_,_,_,_,_]) isAgg102) ?_;refine O.op (.p rfl) (.build (cs:=[_,_,_,_,_,_,_]) underlying415 rfl rfl rfl rfl rfl)<|O.call0 (.p rfl) rfl zD rfl rfl (wshaped_c h) ?_;rintro _ _ ⟨rfl,rfl⟩
  try simp only [zx1,zx2,zx3]
  refine O.sT 5 rfl (by exact e) ?_;refine O.q 1 rfl<|O.op (.g rfl rfl) (.fieldObj fld102x6 rfl)<|O.op (.g rfl rfl) (.lo flat24) ?_;refine O.op (.g rfl rfl) (.len rfl underlying24 rfl)<|O.op (.g rfl rfl) (.eql rfl rfl)<|O.q 2 rfl<|O.nil ?_;exact S.rt results328 rfl hR ⟨by simp [recOk,e];omega,rfl⟩
theorem rText_c {r:Fr} {cs:List Value} {x:RecT} (h:RecRp.rel r cs x) (hs:shaped x=true):Con prog 329 #[.agg cs.toArray] r [] (Ret fun v η=>∃ a c,v=.slice a (recText x).length c∧η=[OwnP Rp.u8 5 (.slice a (recText x).length c) (recText x)]):=by
 obtain ⟨xa3,xa5,xa6,xc3,xc5,xc6,rfl,k0,k1,k2,k3,k5,k6⟩:=RecRp.sh h;refine Con.of (n:=11) _ rfl func329 rfl rfl rfl fun g hg R hR=>?_;have h:=h.mono hg;refine S.seq<|S.region rfl<|O.opE (.p rfl) (.box (cs:=[_,_,_,_,_,_,_]) rfl rfl) ?_;rintro _ _ ⟨b1,rfl,rfl⟩;refine O.q 1 rfl<|O.nil<|S.seq<|S.region rfl<|O.op (.p rfl) (.loA (news:=[_,_,_,_,_,_,_]) isAgg102) ?_;refine O.op (.p rfl) (.build (cs:=[_,_,_,_,_,_,_]) underlying415 rfl rfl rfl rfl rfl)<|O.opE (.p rfl) (.alloc (cs:=[.string ⟨#[]⟩,.int .i64 0,.int .i64 0,.slice none 0 0,.bool false,.slice none 0 0,.slice none 0 0]) zeroValue415 rfl) ?_;rintro _ _ ⟨b3,rfl,rfl⟩;refine O.opU rfl (.storeObj zD rfl rfl rfl rfl zB zH) ?_;refine O.nil<|S.seq<|S.seq<|S.region rfl<|O.op (.p rfl) (.loA (news:=[_,_,_,_,_,_,_]) isAgg415) ?_;refine O.call0 (.p rfl) rfl zD rfl rfl (wshaped_c h) ?_;rintro _ _ ⟨rfl,rfl⟩
 try simp only [zx1,zx2,zx3]
 refine O.sT 7 rfl (by exact hs) ?_;refine O.op (.p rfl) (.not rfl)<|O.nil<|S.condF rfl<|S.skip<|S.seq<|S.region rfl<|O.op (.p rfl) (.loA (news:=[_,_,_,_,_,_,_]) isAgg415) ?_;refine O.call0 (.p rfl) rfl zD rfl rfl (wtext_c (by first|assumption|exact Rp.rel.mono zE hg) zE) ?_;rintro _ _ ⟨a10,c10,rfl,rfl⟩
 try simp only [zx1,zx2,zx3]
 refine O.q 1 rfl<|O.nil ?_;exact S.rt results329 rfl hR ⟨a10,c10,rfl,rfl⟩
def recOut (x:RecT):List UInt8:=if recOk x then recB x else []
def recErr (x:RecT):Int:=if recOk x then 0 else 4
theorem rPut_c {r:Fr} {cs:List Value} {x:RecT} (h:RecRp.rel r cs x):Con prog 292 #[.agg cs.toArray] r [] (Ret fun v η=>∃ a c,v=.tuple #[.slice a (recOut x).length c,.int .i64 (recErr x)]∧η=[OwnP Rp.u8 5 (.slice a (recOut x).length c) (recOut x)]):=by
 obtain ⟨xa3,xa5,xa6,xc3,xc5,xc6,rfl,k0,k1,k2,k3,k5,k6⟩:=RecRp.sh h;refine Con.of (n:=13) _ rfl func292 rfl rfl rfl fun g hg R hR=>?_;have h:=h.mono hg;have k6:=k6.mono hg
 cases e:recOk x with
 |false =>
  have e1:recOut x=[]:=by simp [recOut,e]
  have e2:recErr x=4:=by simp [recErr,e]
  rw [e1,e2] at hR;refine S.seq<|S.region rfl<|O.opE (.p rfl) (.box (cs:=[_,_,_,_,_,_,_]) rfl rfl) ?_;rintro _ _ ⟨b1,rfl,rfl⟩;refine O.q 2 rfl<|O.nil<|S.seq<|S.seq<|S.region rfl<|O.op (.p rfl) (.loA (news:=[_,_,_,_,_,_,_]) isAgg102) ?_;refine O.call0 (.p rfl) rfl zD rfl rfl (rRight_c h) ?_;rintro _ _ ⟨rfl,rfl⟩
  try simp only [zx1,zx2,zx3]
  refine O.sF 5 rfl (by exact e) ?_;refine O.op (.p rfl) (.not rfl)<|O.nil<|S.condT rfl<|S.seq<|S.region rfl<|O.q 2 rfl<|O.nil<|S.addNil (T:=Rp.u8) (e:=5) ?_;refine S.ret2 results292 rfl rfl fun w hw=>Holds.end_ hR hw ?_;exact pk ⟨none,0,rfl,rfl⟩
 |true =>
  have e1:recOut x=recB x:=by simp [recOut,e]
  have e2:recErr x=0:=by simp [recErr,e]
  have hl:=recB_le e;obtain ⟨hs,hs2⟩:=recOk_iff.1 e;have hfl:[recText x,x.2.2.2.2.2.2.1].flatten=recB x:=by simp [recB]
  rw [e1,e2] at hR;refine S.seq<|S.region rfl<|O.opE (.p rfl) (.box (cs:=[_,_,_,_,_,_,_]) rfl rfl) ?_;rintro _ _ ⟨b1,rfl,rfl⟩;refine O.q 2 rfl<|O.nil<|S.seq<|S.seq<|S.region rfl<|O.op (.p rfl) (.loA (news:=[_,_,_,_,_,_,_]) isAgg102) ?_;refine O.call0 (.p rfl) rfl zD rfl rfl (rRight_c h) ?_;rintro _ _ ⟨rfl,rfl⟩
  try simp only [zx1,zx2,zx3]
  refine O.sT 5 rfl (by exact e) ?_;refine O.op (.p rfl) (.not rfl)<|O.nil<|S.condF rfl<|S.skip<|S.seq<|S.frzO zB fun g hs hm hbx=>?_;replace hg:=Fr.sub_trans hg hs;replace hR:=melted hR hm
  try replace h:=h.mono hs
  try replace k6:=k6.mono hs
  clear hs hm;refine S.regionD (L:=[0,2,3,1,4,5,6,7]) mixedF zD ?_;refine .quiet (.p rfl) rfl (fun _=>.loadAgg isAgg102 zD rfl hbx) ?_;refine .quiet (.p rfl) rfl (fun _=>.fieldAddr fld102x6 rfl)<|.quiet (.p rfl) rfl (fun _=>.loadAt flat24 rfl (hbx.drop 6) rfl) ?_;refine OD.call0 (.p rfl) zD rfl zD rfl rfl (rText_c (by first|assumption|exact Rp.rel.mono zE hg) zE) ?_;rintro _ _ ⟨a8,c8,rfl,rfl⟩
  try simp only [zx1,zx2,zx3]
  refine OD.litP (T:=Rp.val) (ys:=[_,_]) (.p rfl) zD underlying109 elem24 zF rfl rfl ⟨⟨rfl,rfl⟩,⟨rfl,rfl⟩,trivial⟩ zF (fun a11 c11=>?_);refine OD.callB (.p rfl) zD rfl zD rfl rfl (bs:=[OwnP Rp.val 24 (.slice a11 2 c11) [.slice a8 (recText x).length c8,.slice xa6 x.2.2.2.2.2.2.1.length xc6],OwnP Rp.u8 5 (.slice a8 (recText x).length c8) (recText x)]) zJ (fun m hm hd=>wJoin_c (xss:=[recText x,x.2.2.2.2.2.2.1]) ((hm.arr.right hd).rows ⟨hm.tail.arr.right hd,k6.left,trivial⟩) (by rw [hfl];omega)) ?_;rintro _ _ ⟨a12,c12,rfl,rfl⟩
  try simp only [zx1,zx2,zx3]
  refine OD.q 2 rfl<|ODx.nil ?_;rw [hfl];refine S.ret2 results292 rfl rfl fun w hw=>Holds.end_ hR hw ?_;exact pk ⟨a12,c12,rfl,rfl⟩
theorem rOver_c {r:Fr} {cs ds:List Value} {x y:RecT} (h:RecRp.rel r cs x) (h' :RecRp.rel r ds y):Con prog 297 #[.agg cs.toArray,.agg ds.toArray] r [] (Ret fun v η=>v=.bool (over x y)∧η=[]):=by
 obtain ⟨xa3,xa5,xa6,xc3,xc5,xc6,rfl,k0,k1,k2,k3,k5,k6⟩:=RecRp.sh h;obtain ⟨ya3,ya5,ya6,yc3,yc5,yc6,rfl,l0,l1,l2,l3,l5,l6⟩:=RecRp.sh h';refine Con.of (n:=31) _ rfl func297 rfl rfl rfl fun g hg R hR=>?_;have h:=h.mono hg;have h' :=h'.mono hg;have k3:=k3.mono hg;refine S.seq<|S.region rfl<|O.opE (.p rfl) (.box (cs:=[_,_,_,_,_,_,_]) rfl rfl) ?_;rintro _ _ ⟨b2,rfl,rfl⟩;refine O.opE (.p rfl) (.box (cs:=[_,_,_,_,_,_,_]) rfl rfl) ?_;rintro _ _ ⟨b3,rfl,rfl⟩;refine O.q 1 rfl<|O.nil<|S.seq<|S.frzO zB fun g hs hm hb3=>?_;replace hg:=Fr.sub_trans hg hs;replace hR:=melted hR hm
 try replace h:=h.mono hs
 try replace h' :=h'.mono hs
 try replace k3:=k3.mono hs
 clear hs hm;refine S.frzO zB fun g hs hm hb2=>?_;replace hg:=Fr.sub_trans hg hs;replace hR:=melted hR hm
 try replace h:=h.mono hs
 try replace h' :=h'.mono hs
 try replace k3:=k3.mono hs
 try replace hb3:=hb3.mono hs
 clear hs hm;refine S.regionD (L:=[0,1,2,3,4,5,6,7]) mixedF zD ?_;refine .quiet (.p rfl) rfl (fun _=>.loadAgg isAgg102 zD rfl hb2) ?_;refine .quiet (.p rfl) rfl (fun _=>.build (cs:=[_,_,_,_,_,_,_]) underlying415 rfl rfl rfl rfl rfl)<|.quiet (.p rfl) rfl (fun _=>.loadAgg isAgg102 zD rfl hb3) ?_;refine .quiet (.p rfl) rfl (fun _=>.build (cs:=[_,_,_,_,_,_,_]) underlying415 rfl rfl rfl rfl rfl)<|.lazy rfl zD rfl fun b5=>?_;refine .lazy rfl zD rfl fun b6=>?_;refine OD.storeObj rfl zD zD rfl rfl rfl rfl zB zH ?_;refine OD.storeObj rfl zD zD rfl rfl rfl rfl zB zH ?_;refine ODx.nil<|S.seq<|S.objIs (b:=b5) (cs' :=[.string (str x.1),.int .i64 x.2.1,.int .i64 x.2.2.1,.slice xa3 x.2.2.2.1.length xc3,.bool x.2.2.2.2.1,.slice xa5 x.2.2.2.2.2.1.length xc5,.slice xa6 x.2.2.2.2.2.2.1.length xc6]) zB rfl ?_;refine S.objIs (b:=b6) (cs' :=[.string (str y.1),.int .i64 y.2.1,.int .i64 y.2.2.1,.slice ya3 y.2.2.2.1.length yc3,.bool y.2.2.2.2.1,.slice ya5 y.2.2.2.2.2.1.length yc5,.slice ya6 y.2.2.2.2.2.2.1.length yc6]) zB rfl ?_;refine S.frzO zB fun g hs hm hb5=>?_;replace hg:=Fr.sub_trans hg hs;replace hR:=melted hR hm
 try replace h:=h.mono hs
 try replace h' :=h'.mono hs
 try replace k3:=k3.mono hs
 try replace hb3:=hb3.mono hs
 try replace hb2:=hb2.mono hs
 clear hs hm;refine S.frzO zB fun g hs hm hb6=>?_;replace hg:=Fr.sub_trans hg hs;replace hR:=melted hR hm
 try replace h:=h.mono hs
 try replace h' :=h'.mono hs
 try replace k3:=k3.mono hs
 try replace hb3:=hb3.mono hs
 try replace hb2:=hb2.mono hs
 try replace hb5:=hb5.mono hs
 clear hs hm
 by_cases e1:x.1=y.1
 ·cases e2:shaped x with
  |false =>
   refine S.regionD (L:=[0,1,2,3,4,5,6,7,8,9,10,11,12,13,14,15,16,17,18,19,20]) mixedF zD ?_;refine .quiet (.p rfl) rfl (fun _=>.fieldAddr fld102x0 rfl)<|.quiet (.p rfl) rfl (fun _=>.loadAt flat9 rfl hb2 rfl) ?_;refine .quiet (.p rfl) rfl (fun _=>.fieldAddr fld102x0 rfl)<|.quiet (.p rfl) rfl (fun _=>.loadAt flat9 rfl hb3 rfl) ?_;refine .quiet (.p rfl) rfl (fun _=>.eqlS rfl rfl)<|OD.sT 15 rfl (by simp [e1]) ?_;refine OD.q 1 rfl<|.quiet (.g rfl rfl) rfl (fun _=>.loadAgg isAgg415 zD rfl hb6) ?_;refine OD.call0 (.g rfl rfl) zD rfl zD rfl rfl (wshaped_c h) ?_;rintro _ _ ⟨rfl,rfl⟩
   try simp only [zx1,zx2,zx3]
   refine OD.sF 18 rfl (by exact e2) ?_;refine OD.q 13 rfl<|ODx.nil ?_;exact S.rt results297 rfl hR ⟨by simp [over,e2],rfl⟩
  |true =>
   cases e3:shaped y with
   |false =>
    refine S.regionD (L:=[0,1,2,3,4,5,6,7,8,9,10,11,12,13,14,15,16,17,18,19,20]) mixedF zD ?_;refine .quiet (.p rfl) rfl (fun _=>.fieldAddr fld102x0 rfl)<|.quiet (.p rfl) rfl (fun _=>.loadAt flat9 rfl hb2 rfl) ?_;refine .quiet (.p rfl) rfl (fun _=>.fieldAddr fld102x0 rfl)<|.quiet (.p rfl) rfl (fun _=>.loadAt flat9 rfl hb3 rfl) ?_;refine .quiet (.p rfl) rfl (fun _=>.eqlS rfl rfl)<|OD.sT 15 rfl (by simp [e1]) ?_;refine OD.q 1 rfl<|.quiet (.g rfl rfl) rfl (fun _=>.loadAgg isAgg415 zD rfl hb6) ?_;refine OD.call0 (.g rfl rfl) zD rfl zD rfl rfl (wshaped_c h) ?_;rintro _ _ ⟨rfl,rfl⟩
    try simp only [zx1,zx2,zx3]
    refine OD.sT 18 rfl (by exact e2) ?_;refine OD.q 2 rfl<|.quiet (.g rfl rfl) rfl (fun _=>.loadAgg isAgg415 zD rfl hb5) ?_;refine OD.call0 (.g rfl rfl) zD rfl zD rfl rfl (wshaped_c h') ?_;rintro _ _ ⟨rfl,rfl⟩
    try simp only [zx1,zx2,zx3]
    refine OD.sF 22 rfl (by exact e3) ?_;refine OD.q 9 rfl<|ODx.nil ?_;exact S.rt results297 rfl hR ⟨by simp [over,e3],rfl⟩
   |true =>
    refine S.regionD (L:=[0,1,2,3,4,5,6,7,8,9,10,11,12,13,14,15,16,17,18,19,20]) mixedF zD ?_;refine .quiet (.p rfl) rfl (fun _=>.fieldAddr fld102x0 rfl)<|.quiet (.p rfl) rfl (fun _=>.loadAt flat9 rfl hb2 rfl) ?_;refine .quiet (.p rfl) rfl (fun _=>.fieldAddr fld102x0 rfl)<|.quiet (.p rfl) rfl (fun _=>.loadAt flat9 rfl hb3 rfl) ?_;refine .quiet (.p rfl) rfl (fun _=>.eqlS rfl rfl)<|OD.sT 15 rfl (by simp [e1]) ?_;refine OD.q 1 rfl<|.quiet (.g rfl rfl) rfl (fun _=>.loadAgg isAgg415 zD rfl hb6) ?_;refine OD.call0 (.g rfl rfl) zD rfl zD rfl rfl (wshaped_c h) ?_;rintro _ _ ⟨rfl,rfl⟩
    try simp only [zx1,zx2,zx3]
    refine OD.sT 18 rfl (by exact e2) ?_;refine OD.q 2 rfl<|.quiet (.g rfl rfl) rfl (fun _=>.loadAgg isAgg415 zD rfl hb5) ?_;refine OD.call0 (.g rfl rfl) zD rfl zD rfl rfl (wshaped_c h') ?_;rintro _ _ ⟨rfl,rfl⟩
    try simp only [zx1,zx2,zx3]
    refine OD.sT 22 rfl (by exact e3) ?_;refine OD.q 2 rfl<|.quiet (.g rfl rfl) rfl (fun _=>.fieldAddr fld102x3 rfl)<|.quiet (.g rfl rfl) rfl (fun _=>.loadAt flat100 rfl (hb2.drop 3) rfl) ?_;refine .quiet (.g rfl rfl) rfl (fun _=>.loadAgg isAgg415 zD rfl hb5) ?_;refine OD.call0 (.g rfl rfl) zD rfl zD rfl rfl (wdot_c h') ?_;rintro _ _ ⟨rfl,rfl⟩
    try simp only [zx1,zx2,zx3]
    refine OD.call0 (.g rfl rfl) zD rfl zD rfl rfl (vHas_c (rDot y) rfl k3) ?_;rintro _ _ ⟨rfl,rfl⟩
    try simp only [zx1,zx2,zx3]
    refine OD.q 2 rfl<|ODx.nil ?_;exact S.rt results297 rfl hR ⟨by simp [over,e1,e2,e3],rfl⟩
 ·
  refine S.regionD (L:=[0,1,2,3,4,5,6,7,8,9,10,11,12,13,14,15,16,17,18,19,20]) mixedF zD ?_;refine .quiet (.p rfl) rfl (fun _=>.fieldAddr fld102x0 rfl)<|.quiet (.p rfl) rfl (fun _=>.loadAt flat9 rfl hb2 rfl) ?_;refine .quiet (.p rfl) rfl (fun _=>.fieldAddr fld102x0 rfl)<|.quiet (.p rfl) rfl (fun _=>.loadAt flat9 rfl hb3 rfl) ?_;refine .quiet (.p rfl) rfl (fun _=>.eqlS rfl rfl)<|OD.sF 15 rfl (by simp [e1]) ?_;refine OD.q 16 rfl<|ODx.nil ?_;exact S.rt results297 rfl hR ⟨by simp [over,e1],rfl⟩
def shp:List PanicEntry:=[{ v:=.iface 44 (.int .i64 4),recovered:=false }]
theorem smust_c {r:Fr} (b:Bool):Con prog 226 #[.bool b] r [] (RetP (fun v η=>b=true∧v=.tuple #[]∧η=[]) (fun ch η=>b=false∧ch=shp∧η=[])):=by
 refine Con.of (n:=5) _ rfl func226 rfl rfl rfl fun g hg R hR=>?_;refine S.seq<|S.region rfl<|O.q 1 rfl<|O.op (.p rfl) ((by first|exact .notD rfl|exact .not rfl)) ?_;refine O.nil ?_
 first|refine S.condD rfl (fun h3=>?_) (fun h3=>?_)|refine S.condB rfl (fun h3=>?_) (fun h3=>?_)
 ·refine S.region rfl<|O.op (.p rfl) (.mkIface underlying44 rfl)<|O.panic rfl rfl (fun w hw=>?_)
  exact hR _ [] w ⟨by simpa using h3,rfl,rfl⟩ hw
 ·refine S.skip<|S.end0 results226 fun w hw=>hR _ _ w ?_ hw
  exact ⟨by simpa using h3,rfl,rfl⟩
theorem scompare_c {r:Fr} {cs ds:List Value} {x y:RecT} (h:ItRp.rel r cs x) (h' :ItRp.rel r ds y):Con prog 227 #[.agg cs.toArray,.agg ds.toArray] r [] (Ret fun v η=>v=.int .i64 (cmpR x y)∧η=[]):=by
 obtain ⟨xa3,xa5,xa6,xa7,xc3,xc5,xc6,xc7,rfl,_,_⟩:=ItRp.sh h;obtain ⟨ya3,ya5,ya6,ya7,yc3,yc5,yc6,yc7,rfl,_,_⟩:=ItRp.sh h';refine Con.of (n:=21) _ rfl func227 rfl rfl rfl fun g hg R hR=>?_;have hc1:=cmpZ_in x.2.1 y.2.1;have hc2:=cmpZ_in x.2.2.1 y.2.2.1;refine S.seq<|S.region rfl<|O.opE (.p rfl) (.box (cs:=[_,_,_,_,_,_,_,_]) rfl rfl) ?_;rintro _ _ ⟨b2,rfl,rfl⟩;refine O.opE (.p rfl) (.box (cs:=[_,_,_,_,_,_,_,_]) rfl rfl) ?_;rintro _ _ ⟨b3,rfl,rfl⟩;refine O.q 1 rfl<|O.nil<|S.seq<|S.frzO zB fun g hs hm hb3=>?_;replace hg:=Fr.sub_trans hg hs;replace hR:=melted hR hm;clear hs hm;refine S.frzO zB fun g hs hm hb2=>?_;replace hg:=Fr.sub_trans hg hs;replace hR:=melted hR hm
 try replace hb3:=hb3.mono hs
 clear hs hm;refine S.regionD (L:=[0,1,2,3,4,5,7,8,9,10,11,12,6,13,14,15,16]) mixedF zD ?_;refine .quiet (.p rfl) rfl (fun _=>.fieldAddr fld220x0 rfl)<|.quiet (.p rfl) rfl (fun _=>.fieldAddr fld102x1 rfl)<|.quiet (.p rfl) rfl (fun _=>.loadAt flat3 rfl (hb2.drop 1) rfl) ?_;refine .quiet (.p rfl) rfl (fun _=>.fieldAddr fld220x0 rfl)<|.quiet (.p rfl) rfl (fun _=>.fieldAddr fld102x1 rfl)<|.quiet (.p rfl) rfl (fun _=>.loadAt flat3 rfl (hb3.drop 1) rfl) ?_;refine .quiet (.p rfl) rfl (fun _=>.fieldAddr fld220x0 rfl)<|.quiet (.p rfl) rfl (fun _=>.fieldAddr fld102x2 rfl)<|.quiet (.p rfl) rfl (fun _=>.loadAt flat3 rfl (hb2.drop 2) rfl) ?_;refine .quiet (.p rfl) rfl (fun _=>.fieldAddr fld220x0 rfl)<|.quiet (.p rfl) rfl (fun _=>.fieldAddr fld102x2 rfl)<|.quiet (.p rfl) rfl (fun _=>.loadAt flat3 rfl (hb3.drop 2) rfl) ?_;refine OD.call0 (.p rfl) zD rfl zD rfl rfl (compare_c _ _) ?_;rintro _ _ ⟨rfl,rfl⟩
 try simp only [zx1,zx2,zx3]
 refine OD.call0 (.p rfl) zD rfl zD rfl rfl (compare_c _ _) ?_;rintro _ _ ⟨rfl,rfl⟩
 try simp only [zx1,zx2,zx3]
 refine OD.litP (T:=Rp.i64) (ys:=[_,_]) (.p rfl) zD underlying104 elem3 zF rfl rfl ⟨⟨rfl,by first|assumption|(constructor<;>omega)⟩,⟨rfl,by first|assumption|(constructor<;>omega)⟩,trivial⟩ zF (fun a19 c19=>?_);refine OD.callS (.p rfl) zD rfl zD rfl rfl zB cmpOr_d ?_;rintro _ _ ⟨rfl,rfl⟩
 try simp only [zx1,zx2,zx3]
 refine OD.q 1 rfl<|ODx.nil<|S.ret results227 rfl fun w hw=>Holds.end_ hR hw ?_;refine ⟨_,⟨congrArg _ ?_,rfl⟩,by repeat (first|exact zpa|exact zpn|(apply zpc;focus (repeat (first|exact zh|apply zt)))|apply zps)⟩;unfold cmpR firstNZ firstNZ firstNZ
 split
 ·rfl
 ·split
  ·rfl
  ·rename_i h2;exact (Classical.not_not.1 h2).symm
theorem sadd_c {r:Fr} {tR:TypeId} {b:Nat} {va:Value} {xs ys:List RecT} (ha:Arr RecRp r va ys) (h1:oneK xs=true) (hl:xs.length+ys.length≤100000000000) :
  Con prog 225 #[.pointer (some ⟨b,0,none⟩),va] r [RowP r tR 220 5 b xs]
   (RetP (fun v η=>oneK (xs++ys)=true∧v=.tuple #[]∧η=[RowP r tR 220 5 b (xs++ys)]) (fun ch η=>oneK (xs++ys)=false∧ch=shp∧η=[])):=by
 have hrec:=ha;refine Con.of (n:=56) _ rfl func225 rfl rfl rfl fun g hg R hR=>?_;have ha:=ha.mono hg;obtain ⟨a1,c1,rfl⟩:=ha.shape;refine S.seq<|S.region rfl<|O.q 1 rfl<|O.op (.p rfl) (.len rfl underlying22 rfl)<|O.q 1 rfl<|O.nil<|S.block<|S.conv (B:=RowP r tR 220 5 b xs) (C:=RowP r tR 220 5 b (xs++ys.take 0)) zB (fun m x=>⟨m,Fr.sub_refl _,by rw [List.take_zero,List.append_nil];exact x⟩) ?_;refine S.loopK (ι:=Nat) (fun i=>i≤ys.length∧oneK (xs++ys.take i)=true) (fun i=>[(10,.int .i64 (i:Int))]) [(0,_),(8,_),(9,_)] (fun i=>[RowP r tR 220 5 b (xs++ys.take i)]) (fun i=>ys.length - i) (0) (by exact ⟨by simp,by simpa using h1⟩) (.cons rfl (.nil)) (.cons rfl (.cons rfl (.cons rfl (.nil)))) rfl fun i hx ih=>?_;have hm1:=meltRefl (g:=g);obtain ⟨hx1,hx2⟩:=hx;refine S.seq<|S.region rfl<|O.op (.p rfl) (.lss rfl rfl)<|O.nil (S.seq ?_)
 first|refine S.condD rfl (fun h11=>?_) (fun h11=>?_)|refine S.condB rfl (fun h11=>?_) (fun h11=>?_)
 ·have hi:i<ys.length:=by omega
  have htk:xs++ys.take (i+1)=(xs++ys.take i)++[ys[i]]:=by rw [List.take_succ_eq_append_getElem hi,List.append_assoc]
  have hsn:=oneK_snoc (x:=ys[i]) hx2;rw [← htk] at hsn;have hbad:oneK (xs++ys.take (i+1))=false→oneK (xs++ys)=false:=fun q=>by
   rw [Bool.eq_false_iff];intro q2;have:=oneK_take (xs.length+(i+1)) q2;rw [List.take_append,List.take_of_length_le (Nat.le_add_right _ _),Nat.add_sub_cancel_left,q] at this
   cases this
  have hlen:(xs++ys.take i).length=xs.length+i:=by simp;omega
  generalize hzs:xs++ys.take i=zs at hx2 hsn htk hlen ⊢;refine S.skip<|S.seq<|S.block<|S.seq<|S.region rfl<|O.ib (.p rfl) underlying22 size102 rfl rfl rfl hrec hg (h:=fun p12 cs12 hp12 hrr12=>?_);have hr12:=Rp.rel.mono hrr12 hg;obtain ⟨ra3_12,ra5_12,ra6_12,rc3_12,rc5_12,rc6_12,rfl,ho0_12,ho1_12,ho2_12,ha3_12,ha5_12,ha6_12⟩:=RecRp.sh hr12;refine O.op (.p rfl) (.loadAgg isAgg102 zD rfl hp12) ?_;refine O.opE (.p rfl) (.alloc (cs:=[.string ⟨#[]⟩,.int .i64 0,.int .i64 0,.slice none 0 0,.bool false,.slice none 0 0,.slice none 0 0]) zeroValue102 rfl) ?_;rintro _ _ ⟨b5,rfl,rfl⟩;refine O.opU rfl (.storeObj zD rfl rfl rfl rfl zB zH) ?_;refine O.nil<|S.seq<|S.region rfl<|O.op (.p rfl) (.loA (news:=[_,_,_,_,_,_,_]) isAgg102) ?_;refine O.call0 (.p rfl) rfl zD rfl rfl (rPut_c (by first|assumption|exact Rp.rel.mono zE hg)) ?_;rintro _ _ ⟨a16,c16,rfl,rfl⟩
  try simp only [zx1,zx2,zx3]
  refine O.q 5 rfl<|O.nil<|S.seq<|S.objIs (b:=b5) (cs' :=[.string (str ys[i].1),.int .i64 ys[i].2.1,.int .i64 ys[i].2.2.1,.slice ra3_12 ys[i].2.2.2.1.length rc3_12,.bool ys[i].2.2.2.2.1,.slice ra5_12 ys[i].2.2.2.2.2.1.length rc5_12,.slice ra6_12 ys[i].2.2.2.2.2.2.1.length rc6_12]) zB rfl ?_
  cases e:recOk ys[i] with
  |false =>
   have hno:oneK (xs++ys)=false:=hbad (by rw [Bool.eq_false_iff];intro q;have:=(hsn.1 q).1;rw [e] at this;cases this);refine S.regionD (L:=[0,1,2,3,4,5,6,7,8,9,10,11,12,13,14,15,16,17,18,19,20,21,22,23]) mixedF zD ?_;refine OD.q 1 rfl<|.quiet (.p rfl) rfl (fun _=>.eql rfl rfl)<|OD.sF 20 rfl (by simp [recErr,e]) ?_;refine OD.q 21 rfl<|OD.callP0 (.p rfl) zD rfl zD rfl rfl (smust_c _) (fun ch η' w hX hW=>by (obtain ⟨hb,rfl,rfl⟩:=hX;exact hR _ _ w ⟨hno,rfl,rfl⟩ hW.drop_all)) ?_;rintro _ _ ⟨hb42,rfl,rfl⟩
   try simp only [zx1,zx2,zx3]
   exact absurd hb42 zL
  |true =>
   have eo:recOut ys[i]=recB ys[i]:=by simp [recOut,e]
   rw [eo]
   by_cases h0:zs.length=0
   ·have hyes:=hsn.2 ⟨e,fun h=>absurd h zC⟩
    refine S.frzO zB fun g hs hm hb5=>?_;replace hg:=Fr.sub_trans hg hs;replace hR:=melted hR hm
    try replace ha:=ha.mono hs
    try replace hp12:=hp12.mono hs
    try replace hr12:=hr12.mono hs
    try replace ha3_12:=ha3_12.mono hs
    try replace ha5_12:=ha5_12.mono hs
    try replace ha6_12:=ha6_12.mono hs
    replace hm1:=meltTrans hm1 hm;clear hs hm;have hg_q:=hg;have hR_q:=hR
    try have ha_q:=ha
    try have hp12_q:=hp12
    try have hr12_q:=hr12
    try have ha3_12_q:=ha3_12
    try have ha5_12_q:=ha5_12
    try have ha6_12_q:=ha6_12
    try have hb5_q:=hb5
    refine S.frzH (B:=RowP r tR 220 5 b zs) zB fun gq hsq ⟨mq,hmq,hsmq⟩ hbq=>?_;replace hg:=Fr.sub_trans hg hsq;replace hR:=backR hR hbq
    try replace ha:=ha.mono hsq
    try replace hp12:=hp12.mono hsq
    try replace hr12:=hr12.mono hsq
    try replace ha3_12:=ha3_12.mono hsq
    try replace ha5_12:=ha5_12.mono hsq
    try replace ha6_12:=ha6_12.mono hsq
    try replace hb5:=hb5.mono hsq
    obtain ⟨qa,qc,hqat,hqar⟩:=RowP.read hg hsmq hmq;refine S.regionD (L:=[0,1,2,3,4,5,6,7,8,9,10,11,12,13,14,15,16,17,18,19,20,21,22,23]) mixedF zD ?_;refine OD.q 1 rfl<|.quiet (.p rfl) rfl (fun _=>.eql rfl rfl)<|OD.sT 20 rfl (by simp [recErr,e]) ?_;refine OD.q 2 rfl<|.quiet (.g rfl rfl) rfl (fun _=>.nilCheck rfl)<|.quiet (.g rfl rfl) rfl (fun _=>.fieldAddr fld218x0 rfl)<|.quiet (.g rfl rfl) rfl (fun _=>.loadAt flat216 rfl hqat rfl) ?_;refine .quiet (.g rfl rfl) rfl (fun _=>.len rfl underlying216 rfl)<|.quiet (.g rfl rfl) rfl (fun _=>.eql rfl rfl)<|OD.sT 27 rfl (by exact decide_eq_true zC) ?_;refine OD.q 14 rfl<|OD.callP0 (.p rfl) zD rfl zD rfl rfl (smust_c _) (fun ch η' w hX hW=>by (exact absurd hX.1 zL)) ?_;rintro _ _ ⟨hb42,rfl,rfl⟩
    try simp only [zx1,zx2,zx3]
    refine ODx.nil<|S.back hbq ?_;replace hg:=hg_q;replace hR:=hR_q
    try replace ha:=ha_q
    try replace hp12:=hp12_q
    try replace hr12:=hr12_q
    try replace ha3_12:=ha3_12_q
    try replace ha5_12:=ha5_12_q
    try replace ha6_12:=ha6_12_q
    try replace hb5:=hb5_q
    clear hg_q hR_q;refine S.open (A:=RowP r tR 220 5 b zs) zB (fun m x=>x) fun p=>?_;simp only [List.cons_append,List.nil_append];refine S.factS (B:=EachP (ItO r 5) p.2 zs) zB (fun _ z=>EachP.len z) fun hcl=>?_;have hpl:p.2.length≤100000000000:=by omega
    have hg_o:=hg;have hR_o:=hR
    try have ha_o:=ha
    try have hp12_o:=hp12
    try have hr12_o:=hr12
    try have ha3_12_o:=ha3_12
    try have ha5_12_o:=ha5_12
    try have ha6_12_o:=ha6_12
    try have hb5_o:=hb5
    refine S.frzH (B:=obj b tR [.slice p.1.1 zs.length p.1.2]) zB fun go hso ⟨mo,hmo,hsmo⟩ hbo=>?_;replace hg:=Fr.sub_trans hg hso;replace hR:=backR hR hbo
    try replace ha:=ha.mono hso
    try replace hp12:=hp12.mono hso
    try replace hr12:=hr12.mono hso
    try replace ha3_12:=ha3_12.mono hso
    try replace ha5_12:=ha5_12.mono hso
    try replace ha6_12:=ha6_12.mono hso
    try replace hb5:=hb5.mono hso
    have hato:=(obj_at hmo).mono hsmo;refine S.regionD (L:=[0,1,2,3,4,5,6,7,8,9,10,11,12]) mixedF zD ?_;refine OD.q 2 rfl<|.quiet (.p rfl) rfl (fun _=>.nilCheck rfl)<|.quiet (.p rfl) rfl (fun _=>.fieldAddr fld218x0 rfl)<|.quiet (.p rfl) rfl (fun _=>.loadAt flat216 rfl hato rfl) ?_;refine .quiet (.p rfl) rfl (fun _=>.loadAgg isAgg102 zD rfl hb5) ?_;refine OD.q 1 rfl<|.quiet (.p rfl) rfl (fun _=>.build (cs:=[_,_,_,_,_,_,_,_]) underlying220 rfl rfl rfl rfl rfl)<|OD.litP (T:=(Rp.cells 8)) (ys:=[_]) (.p rfl) zD underlying216 elem220 zF rfl rfl ⟨⟨rfl,rfl,by first|(simp;done)|(intro v hv;simp [Value.cells] at hv;rcases hv with rfl|rfl<;>rfl)|(refine List.forall_mem_cons.2 ⟨rfl,?_⟩;repeat (first|exact (fun _ h=>absurd h List.not_mem_nil)|refine List.forall_mem_cons.2 ⟨rfl,?_⟩))⟩,trivial⟩ zF (fun a51 c51=>?_);refine OD.appendO (.p rfl) zD (T:=(Rp.cells 8)) underlying216 elem220 zF rfl rfl zB zB zI zI (fun a52 c52=>?_);refine .quiet (.p rfl) rfl (fun _=>.nilCheck rfl)<|.quiet (.p rfl) rfl (fun _=>.fieldAddr fld218x0 rfl)<|OD.last1 rfl zD (fun _ hw=>hbo hw) flat216 rfl rfl zN zB zW ?_;replace hg:=hg_o;replace hR:=hR_o
    try replace ha:=ha_o
    try replace hp12:=hp12_o
    try replace hr12:=hr12_o
    try replace ha3_12:=ha3_12_o
    try replace ha5_12:=ha5_12_o
    try replace ha6_12:=ha6_12_o
    try replace hb5:=hb5_o
    clear hg_o hR_o;refine S.inBlock<|S.region rfl<|O.op (.p rfl) (.add rfl rfl (IntWalk.i64_in _ zC))<|O.q 1 rfl<|O.nil<|S.ownIs (T:=Rp.cells 8) (e:=220) (v' :=.slice a52 (zs++[ys[i]]).length c52) (xs' :=p.2++[[.string (str ys[i].1),.int .i64 ys[i].2.1,.int .i64 ys[i].2.2.1,.slice ra3_12 ys[i].2.2.2.1.length rc3_12,.bool ys[i].2.2.2.2.1,.slice ra5_12 ys[i].2.2.2.2.2.1.length rc5_12,.slice ra6_12 ys[i].2.2.2.2.2.2.1.length rc6_12,.slice a16 (recB ys[i]).length c16]]) zB (by simp [hcl]) zU ?_;refine S.objIs (b:=b) (cs' :=[.slice a52 (zs++[ys[i]]).length c52]) zB (by simp [hcl]) ?_;refine S.conv (B:=OwnP Rp.u8 5 (.slice a16 (recB ys[i]).length c16) (recB ys[i])) (C:=ItO r 5 [.string (str ys[i].1),.int .i64 ys[i].2.1,.int .i64 ys[i].2.2.1,.slice ra3_12 ys[i].2.2.2.1.length rc3_12,.bool ys[i].2.2.2.2.1,.slice ra5_12 ys[i].2.2.2.2.2.1.length rc5_12,.slice ra6_12 ys[i].2.2.2.2.2.2.1.length rc6_12,.slice a16 (recB ys[i]).length c16] ys[i]) zB (fun m x=>⟨m,Fr.sub_refl _,[.string (str ys[i].1),.int .i64 ys[i].2.1,.int .i64 ys[i].2.2.1,.slice ra3_12 ys[i].2.2.2.1.length rc3_12,.bool ys[i].2.2.2.2.1,.slice ra5_12 ys[i].2.2.2.2.2.1.length rc5_12,.slice ra6_12 ys[i].2.2.2.2.2.2.1.length rc6_12],a16,c16,rfl,hrr12,x⟩) ?_
    refine S.each (A:=ItO r 5) (bs:=p.2) (b:=[.string (str ys[i].1),.int .i64 ys[i].2.1,.int .i64 ys[i].2.2.1,.slice ra3_12 ys[i].2.2.2.1.length rc3_12,.bool ys[i].2.2.2.2.1,.slice ra5_12 ys[i].2.2.2.2.2.1.length rc5_12,.slice ra6_12 ys[i].2.2.2.2.2.2.1.length rc6_12,.slice a16 (recB ys[i]).length c16]) (a:=ys[i]) zB zB ?_;refine S.foldS (A:=RowP r tR 220 5 b (zs++[ys[i]])) (bs:=[obj b tR [.slice a52 (zs++[ys[i]]).length c52],OwnP (Rp.cells 8) 220 (.slice a52 (zs++[ys[i]]).length c52) (p.2++[[.string (str ys[i].1),.int .i64 ys[i].2.1,.int .i64 ys[i].2.2.1,.slice ra3_12 ys[i].2.2.2.1.length rc3_12,.bool ys[i].2.2.2.2.1,.slice ra5_12 ys[i].2.2.2.2.2.1.length rc5_12,.slice ra6_12 ys[i].2.2.2.2.2.2.1.length rc6_12,.slice a16 (recB ys[i]).length c16]]),EachP (ItO r 5) (p.2++[[.string (str ys[i].1),.int .i64 ys[i].2.1,.int .i64 ys[i].2.2.1,.slice ra3_12 ys[i].2.2.2.1.length rc3_12,.bool ys[i].2.2.2.2.1,.slice ra5_12 ys[i].2.2.2.2.2.1.length rc5_12,.slice ra6_12 ys[i].2.2.2.2.2.2.1.length rc6_12,.slice a16 (recB ys[i]).length c16]]) (zs++[ys[i]])]) zJ (fun m x=>⟨((a52,c52),p.2++[[.string (str ys[i].1),.int .i64 ys[i].2.1,.int .i64 ys[i].2.2.1,.slice ra3_12 ys[i].2.2.2.1.length rc3_12,.bool ys[i].2.2.2.2.1,.slice ra5_12 ys[i].2.2.2.2.2.1.length rc5_12,.slice ra6_12 ys[i].2.2.2.2.2.2.1.length rc6_12,.slice a16 (recB ys[i]).length c16]]),x⟩) ?_;rw [← htk];exact S.melt hm1 (S.pw (ih (i+1) (by exact ⟨by omega,hyes⟩) zC))
   ·by_cases hk:ys[i].1=(zs[0]'zC).1
    ·have hyes:=hsn.2 ⟨e,fun h=>hk⟩
     refine S.frzO zB fun g hs hm hb5=>?_;replace hg:=Fr.sub_trans hg hs;replace hR:=melted hR hm
     try replace ha:=ha.mono hs
     try replace hp12:=hp12.mono hs
     try replace hr12:=hr12.mono hs
     try replace ha3_12:=ha3_12.mono hs
     try replace ha5_12:=ha5_12.mono hs
     try replace ha6_12:=ha6_12.mono hs
     replace hm1:=meltTrans hm1 hm;clear hs hm;have hg_q:=hg;have hR_q:=hR
     try have ha_q:=ha
     try have hp12_q:=hp12
     try have hr12_q:=hr12
     try have ha3_12_q:=ha3_12
     try have ha5_12_q:=ha5_12
     try have ha6_12_q:=ha6_12
     try have hb5_q:=hb5
     refine S.frzH (B:=RowP r tR 220 5 b zs) zB fun gq hsq ⟨mq,hmq,hsmq⟩ hbq=>?_;replace hg:=Fr.sub_trans hg hsq;replace hR:=backR hR hbq
     try replace ha:=ha.mono hsq
     try replace hp12:=hp12.mono hsq
     try replace hr12:=hr12.mono hsq
     try replace ha3_12:=ha3_12.mono hsq
     try replace ha5_12:=ha5_12.mono hsq
     try replace ha6_12:=ha6_12.mono hsq
     try replace hb5:=hb5.mono hsq
     obtain ⟨qa,qc,hqat,hqar⟩:=RowP.read hg hsmq hmq;refine S.regionD (L:=[0,1,2,3,4,5,6,7,8,9,10,11,12,13,14,15,16,17,18,19,20,21,22,23]) mixedF zD ?_;refine OD.q 1 rfl<|.quiet (.p rfl) rfl (fun _=>.eql rfl rfl)<|OD.sT 20 rfl (by simp [recErr,e]) ?_;refine OD.q 2 rfl<|.quiet (.g rfl rfl) rfl (fun _=>.nilCheck rfl)<|.quiet (.g rfl rfl) rfl (fun _=>.fieldAddr fld218x0 rfl)<|.quiet (.g rfl rfl) rfl (fun _=>.loadAt flat216 rfl hqat rfl) ?_;refine .quiet (.g rfl rfl) rfl (fun _=>.len rfl underlying216 rfl)<|.quiet (.g rfl rfl) rfl (fun _=>.eql rfl rfl)<|OD.sF 27 rfl (by exact decide_eq_false zC) ?_;refine OD.q 2 rfl<|.quiet (.g rfl rfl) rfl (fun _=>.nilCheck rfl)<|.quiet (.g rfl rfl) rfl (fun _=>.fieldAddr fld218x0 rfl)<|.quiet (.g rfl rfl) rfl (fun _=>.loadAt flat216 rfl hqat rfl) ?_;refine OD.ia (.g rfl rfl) underlying216 size220 rfl rfl (show _=(((0):Nat):Int) by omega) (by first|assumption|exact Arr.mono hg zE|exact Arr.left zE|exact Arr.left (Arr.mono hg zE)) (h:=fun p33 cs33 hp33 hr33=>?_);obtain ⟨ia3_33,ia5_33,ia6_33,ia7_33,ic3_33,ic5_33,ic6_33,ic7_33,rfl,hr1_33,ha7_33⟩:=ItRp.sh hr33;refine .quiet (.g rfl rfl) rfl (fun _=>.fieldAddr fld220x0 rfl)<|.quiet (.g rfl rfl) rfl (fun _=>.fieldAddr fld102x0 rfl)<|.quiet (.g rfl rfl) rfl (fun _=>.loadAt flat9 rfl hp33 rfl) ?_
     refine .quiet (.g rfl rfl) rfl (fun _=>.fieldAddr fld102x0 rfl)<|.quiet (.g rfl rfl) rfl (fun _=>.loadAt flat9 rfl hb5 rfl) ?_;refine .quiet (.g rfl rfl) rfl (fun _=>.eqlS rfl rfl)<|OD.sT 39 rfl (by simp [hk]) ?_;refine OD.q 2 rfl<|OD.callP0 (.p rfl) zD rfl zD rfl rfl (smust_c _) (fun ch η' w hX hW=>by (exact absurd hX.1 zL)) ?_;rintro _ _ ⟨hb42,rfl,rfl⟩
     try simp only [zx1,zx2,zx3]
     refine ODx.nil<|S.back hbq ?_;replace hg:=hg_q;replace hR:=hR_q
     try replace ha:=ha_q
     try replace hp12:=hp12_q
     try replace hr12:=hr12_q
     try replace ha3_12:=ha3_12_q
     try replace ha5_12:=ha5_12_q
     try replace ha6_12:=ha6_12_q
     try replace hb5:=hb5_q
     clear hg_q hR_q;refine S.open (A:=RowP r tR 220 5 b zs) zB (fun m x=>x) fun p=>?_;simp only [List.cons_append,List.nil_append];refine S.factS (B:=EachP (ItO r 5) p.2 zs) zB (fun _ z=>EachP.len z) fun hcl=>?_;have hpl:p.2.length≤100000000000:=by omega
     have hg_o:=hg;have hR_o:=hR
     try have ha_o:=ha
     try have hp12_o:=hp12
     try have hr12_o:=hr12
     try have ha3_12_o:=ha3_12
     try have ha5_12_o:=ha5_12
     try have ha6_12_o:=ha6_12
     try have hb5_o:=hb5
     refine S.frzH (B:=obj b tR [.slice p.1.1 zs.length p.1.2]) zB fun go hso ⟨mo,hmo,hsmo⟩ hbo=>?_;replace hg:=Fr.sub_trans hg hso;replace hR:=backR hR hbo
     try replace ha:=ha.mono hso
     try replace hp12:=hp12.mono hso
     try replace hr12:=hr12.mono hso
     try replace ha3_12:=ha3_12.mono hso
     try replace ha5_12:=ha5_12.mono hso
     try replace ha6_12:=ha6_12.mono hso
     try replace hb5:=hb5.mono hso
     have hato:=(obj_at hmo).mono hsmo;refine S.regionD (L:=[0,1,2,3,4,5,6,7,8,9,10,11,12]) mixedF zD ?_;refine OD.q 2 rfl<|.quiet (.p rfl) rfl (fun _=>.nilCheck rfl)<|.quiet (.p rfl) rfl (fun _=>.fieldAddr fld218x0 rfl)<|.quiet (.p rfl) rfl (fun _=>.loadAt flat216 rfl hato rfl) ?_;refine .quiet (.p rfl) rfl (fun _=>.loadAgg isAgg102 zD rfl hb5) ?_;refine OD.q 1 rfl<|.quiet (.p rfl) rfl (fun _=>.build (cs:=[_,_,_,_,_,_,_,_]) underlying220 rfl rfl rfl rfl rfl)<|OD.litP (T:=(Rp.cells 8)) (ys:=[_]) (.p rfl) zD underlying216 elem220 zF rfl rfl ⟨⟨rfl,rfl,by first|(simp;done)|(intro v hv;simp [Value.cells] at hv;rcases hv with rfl|rfl<;>rfl)|(refine List.forall_mem_cons.2 ⟨rfl,?_⟩;repeat (first|exact (fun _ h=>absurd h List.not_mem_nil)|refine List.forall_mem_cons.2 ⟨rfl,?_⟩))⟩,trivial⟩ zF (fun a51 c51=>?_);refine OD.appendO (.p rfl) zD (T:=(Rp.cells 8)) underlying216 elem220 zF rfl rfl zB zB zI zI (fun a52 c52=>?_);refine .quiet (.p rfl) rfl (fun _=>.nilCheck rfl)<|.quiet (.p rfl) rfl (fun _=>.fieldAddr fld218x0 rfl)<|OD.last1 rfl zD (fun _ hw=>hbo hw) flat216 rfl rfl zN zB zW ?_;replace hg:=hg_o;replace hR:=hR_o
     try replace ha:=ha_o
     try replace hp12:=hp12_o
     try replace hr12:=hr12_o
     try replace ha3_12:=ha3_12_o
     try replace ha5_12:=ha5_12_o
     try replace ha6_12:=ha6_12_o
     try replace hb5:=hb5_o
     clear hg_o hR_o;refine S.inBlock<|S.region rfl<|O.op (.p rfl) (.add rfl rfl (IntWalk.i64_in _ zC))<|O.q 1 rfl<|O.nil<|S.ownIs (T:=Rp.cells 8) (e:=220) (v' :=.slice a52 (zs++[ys[i]]).length c52) (xs' :=p.2++[[.string (str ys[i].1),.int .i64 ys[i].2.1,.int .i64 ys[i].2.2.1,.slice ra3_12 ys[i].2.2.2.1.length rc3_12,.bool ys[i].2.2.2.2.1,.slice ra5_12 ys[i].2.2.2.2.2.1.length rc5_12,.slice ra6_12 ys[i].2.2.2.2.2.2.1.length rc6_12,.slice a16 (recB ys[i]).length c16]]) zB (by simp [hcl]) zU ?_;refine S.objIs (b:=b) (cs' :=[.slice a52 (zs++[ys[i]]).length c52]) zB (by simp [hcl]) ?_;refine S.conv (B:=OwnP Rp.u8 5 (.slice a16 (recB ys[i]).length c16) (recB ys[i])) (C:=ItO r 5 [.string (str ys[i].1),.int .i64 ys[i].2.1,.int .i64 ys[i].2.2.1,.slice ra3_12 ys[i].2.2.2.1.length rc3_12,.bool ys[i].2.2.2.2.1,.slice ra5_12 ys[i].2.2.2.2.2.1.length rc5_12,.slice ra6_12 ys[i].2.2.2.2.2.2.1.length rc6_12,.slice a16 (recB ys[i]).length c16] ys[i]) zB (fun m x=>⟨m,Fr.sub_refl _,[.string (str ys[i].1),.int .i64 ys[i].2.1,.int .i64 ys[i].2.2.1,.slice ra3_12 ys[i].2.2.2.1.length rc3_12,.bool ys[i].2.2.2.2.1,.slice ra5_12 ys[i].2.2.2.2.2.1.length rc5_12,.slice ra6_12 ys[i].2.2.2.2.2.2.1.length rc6_12],a16,c16,rfl,hrr12,x⟩) ?_
     refine S.each (A:=ItO r 5) (bs:=p.2) (b:=[.string (str ys[i].1),.int .i64 ys[i].2.1,.int .i64 ys[i].2.2.1,.slice ra3_12 ys[i].2.2.2.1.length rc3_12,.bool ys[i].2.2.2.2.1,.slice ra5_12 ys[i].2.2.2.2.2.1.length rc5_12,.slice ra6_12 ys[i].2.2.2.2.2.2.1.length rc6_12,.slice a16 (recB ys[i]).length c16]) (a:=ys[i]) zB zB ?_;refine S.foldS (A:=RowP r tR 220 5 b (zs++[ys[i]])) (bs:=[obj b tR [.slice a52 (zs++[ys[i]]).length c52],OwnP (Rp.cells 8) 220 (.slice a52 (zs++[ys[i]]).length c52) (p.2++[[.string (str ys[i].1),.int .i64 ys[i].2.1,.int .i64 ys[i].2.2.1,.slice ra3_12 ys[i].2.2.2.1.length rc3_12,.bool ys[i].2.2.2.2.1,.slice ra5_12 ys[i].2.2.2.2.2.1.length rc5_12,.slice ra6_12 ys[i].2.2.2.2.2.2.1.length rc6_12,.slice a16 (recB ys[i]).length c16]]),EachP (ItO r 5) (p.2++[[.string (str ys[i].1),.int .i64 ys[i].2.1,.int .i64 ys[i].2.2.1,.slice ra3_12 ys[i].2.2.2.1.length rc3_12,.bool ys[i].2.2.2.2.1,.slice ra5_12 ys[i].2.2.2.2.2.1.length rc5_12,.slice ra6_12 ys[i].2.2.2.2.2.2.1.length rc6_12,.slice a16 (recB ys[i]).length c16]]) (zs++[ys[i]])]) zJ (fun m x=>⟨((a52,c52),p.2++[[.string (str ys[i].1),.int .i64 ys[i].2.1,.int .i64 ys[i].2.2.1,.slice ra3_12 ys[i].2.2.2.1.length rc3_12,.bool ys[i].2.2.2.2.1,.slice ra5_12 ys[i].2.2.2.2.2.1.length rc5_12,.slice ra6_12 ys[i].2.2.2.2.2.2.1.length rc6_12,.slice a16 (recB ys[i]).length c16]]),x⟩) ?_;rw [← htk];exact S.melt hm1 (S.pw (ih (i+1) (by exact ⟨by omega,hyes⟩) zC))
    ·have hno:oneK (xs++ys)=false:=hbad (by rw [Bool.eq_false_iff];intro q;exact hk ((hsn.1 q).2 zC))
     refine S.frzO zB fun g hs hm hb5=>?_;replace hg:=Fr.sub_trans hg hs;replace hR:=melted hR hm
     try replace ha:=ha.mono hs
     try replace hp12:=hp12.mono hs
     try replace hr12:=hr12.mono hs
     try replace ha3_12:=ha3_12.mono hs
     try replace ha5_12:=ha5_12.mono hs
     try replace ha6_12:=ha6_12.mono hs
     replace hm1:=meltTrans hm1 hm;clear hs hm;have hg_q:=hg;have hR_q:=hR
     try have ha_q:=ha
     try have hp12_q:=hp12
     try have hr12_q:=hr12
     try have ha3_12_q:=ha3_12
     try have ha5_12_q:=ha5_12
     try have ha6_12_q:=ha6_12
     try have hb5_q:=hb5
     refine S.frzH (B:=RowP r tR 220 5 b zs) zB fun gq hsq ⟨mq,hmq,hsmq⟩ hbq=>?_;replace hg:=Fr.sub_trans hg hsq;replace hR:=backR hR hbq
     try replace ha:=ha.mono hsq
     try replace hp12:=hp12.mono hsq
     try replace hr12:=hr12.mono hsq
     try replace ha3_12:=ha3_12.mono hsq
     try replace ha5_12:=ha5_12.mono hsq
     try replace ha6_12:=ha6_12.mono hsq
     try replace hb5:=hb5.mono hsq
     obtain ⟨qa,qc,hqat,hqar⟩:=RowP.read hg hsmq hmq;refine S.regionD (L:=[0,1,2,3,4,5,6,7,8,9,10,11,12,13,14,15,16,17,18,19,20,21,22,23]) mixedF zD ?_;refine OD.q 1 rfl<|.quiet (.p rfl) rfl (fun _=>.eql rfl rfl)<|OD.sT 20 rfl (by simp [recErr,e]) ?_;refine OD.q 2 rfl<|.quiet (.g rfl rfl) rfl (fun _=>.nilCheck rfl)<|.quiet (.g rfl rfl) rfl (fun _=>.fieldAddr fld218x0 rfl)<|.quiet (.g rfl rfl) rfl (fun _=>.loadAt flat216 rfl hqat rfl) ?_;refine .quiet (.g rfl rfl) rfl (fun _=>.len rfl underlying216 rfl)<|.quiet (.g rfl rfl) rfl (fun _=>.eql rfl rfl)<|OD.sF 27 rfl (by exact decide_eq_false zC) ?_;refine OD.q 2 rfl<|.quiet (.g rfl rfl) rfl (fun _=>.nilCheck rfl)<|.quiet (.g rfl rfl) rfl (fun _=>.fieldAddr fld218x0 rfl)<|.quiet (.g rfl rfl) rfl (fun _=>.loadAt flat216 rfl hqat rfl) ?_;refine OD.ia (.g rfl rfl) underlying216 size220 rfl rfl (show _=(((0):Nat):Int) by omega) (by first|assumption|exact Arr.mono hg zE|exact Arr.left zE|exact Arr.left (Arr.mono hg zE)) (h:=fun p33 cs33 hp33 hr33=>?_);obtain ⟨ia3_33,ia5_33,ia6_33,ia7_33,ic3_33,ic5_33,ic6_33,ic7_33,rfl,hr1_33,ha7_33⟩:=ItRp.sh hr33;refine .quiet (.g rfl rfl) rfl (fun _=>.fieldAddr fld220x0 rfl)<|.quiet (.g rfl rfl) rfl (fun _=>.fieldAddr fld102x0 rfl)<|.quiet (.g rfl rfl) rfl (fun _=>.loadAt flat9 rfl hp33 rfl) ?_
     refine .quiet (.g rfl rfl) rfl (fun _=>.fieldAddr fld102x0 rfl)<|.quiet (.g rfl rfl) rfl (fun _=>.loadAt flat9 rfl hb5 rfl) ?_;refine .quiet (.g rfl rfl) rfl (fun _=>.eqlS rfl rfl)<|OD.sF 39 rfl (by simp;exact fun q=>hk q.symm) ?_;refine OD.q 2 rfl<|OD.callP0 (.p rfl) zD rfl zD rfl rfl (smust_c _) (fun ch η' w hX hW=>by (obtain ⟨hb,rfl,rfl⟩:=hX;exact hR _ _ w ⟨hno,rfl,rfl⟩ hW.drop_all)) ?_;rintro _ _ ⟨hb42,rfl,rfl⟩
     try simp only [zx1,zx2,zx3]
     exact absurd hb42 zL
 ·clear ih
  have hi:i=ys.length:=by omega
  subst hi;rw [List.take_length] at hx2 ⊢;refine S.exit rfl<|S.end0 results225 fun w hw=>Holds.end_ hR hw ?_;exact pk ⟨hx2,rfl,rfl⟩
end Go.Proofs.YtojafegjlahajaaGreatDoor
