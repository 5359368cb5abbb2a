/- Texts of this proof. -/
import Derived.Test.YtojafegjlahajaaGreatDoorQRef8
open Go Go.Sp Go.Proofs.Tryz
set_option maxRecDepth 100000
set_option maxHeartbeats 1000000
attribute [local irreducible] obj Own OwnP
namespace Go.Proofs.YtojafegjlahajaaGreatDoor
def recHead (x:RecT):List UInt8:=[1]++(bytesOf x.1++(be x.2.1++(be x.2.2.1++be x.2.2.2.1.length)))
theorem r8text_c {r:Fr} {cs:List Value} {x:RecT} (h:RecRp.rel r cs x) (hs:shaped x=true) :
  Con prog 301 #[.agg cs.toArray] r [] (Ret fun v η=>∃ a c,v=.slice a (recText x).length c∧η=[OwnP Rp.u8 5 (.slice a (recText x).length c) (recText x)]):=by
 obtain ⟨xa3,xa5,xa6,xc3,xc5,xc6,rfl,k0,k1,k2,k3,k5,k6⟩:=RecRp.sh h;obtain ⟨m0,m1,_,m3,_,m5,_⟩:=shaped_iff.1 hs;have m4:=rises_len m3;have hfl:[[1],bytesOf x.1,be x.2.1,be x.2.2.1,be x.2.2.2.1.length].flatten=recHead x:=by simp [recHead]
 have hhl:(recHead x).length=33+x.1.length:=by simp [recHead];omega
 refine Con.of (n:=60) _ rfl func301 rfl rfl rfl fun g hg R hR=>?_;have h:=h.mono hg;have k3:=k3.mono hg;have k5:=k5.mono hg;have k6:=k6.mono hg;refine S.seq<|S.region rfl<|O.opE (.p rfl) (.box (cs:=[_,_,_,_,_,_,_]) rfl rfl) ?_;rintro _ _ ⟨b1,rfl,rfl⟩;refine O.q 1 rfl<|O.nil<|S.seq<|S.seq<|S.frzO zD fun g hs hm hb1=>?_;replace hg:=Fr.sub_trans hg hs;replace hR:=melted hR hm
 try replace h:=h.mono hs
 try replace k3:=k3.mono hs
 try replace k5:=k5.mono hs
 try replace k6:=k6.mono hs
 clear hs hm;refine S.region rfl<|O.op (.p rfl) (.loadAgg isAgg102 zC rfl hb1) ?_;refine O.call0 (.p rfl) rfl zC rfl rfl ((r8shape_c h)) ?_;rintro _ _ ⟨rfl,rfl⟩
 try simp only [zx1,zx2,zx3]
 refine O.sT 7 rfl (by exact hs) ?_;refine O.op (.p rfl) (.not rfl)<|O.nil<|S.condF rfl<|S.skip<|S.seq<|S.regionJ (L:=[1,2,5,6,8,9,11,12,13,0,3,4,7,10,14,15,16,17]) (fun (s:Option Addr × Nat)=>[(3,.slice s.1 (recHead x).length s.2)]) [(1,_)] (fun (s:Option Addr × Nat)=>[OwnP Rp.u8 5 (.slice s.1 (recHead x).length s.2) (recHead x)]) (.cons rfl (.nil)) F.mixed zC (fun kk key=>?_) (fun s=>?_)
 ·refine .quiet (.p rfl) rfl (fun _=>.fieldAddr fld102x0 rfl)<|.quiet (.p rfl) rfl (fun _=>.loadAt flat9 rfl hb1 rfl) ?_
  refine .quiet (.p rfl) rfl (fun _=>.fieldAddr fld102x1 rfl)<|.quiet (.p rfl) rfl (fun _=>.loadAt flat3 rfl (hb1.drop 1) rfl) ?_;refine .quiet (.p rfl) rfl (fun _=>.fieldAddr fld102x2 rfl)<|.quiet (.p rfl) rfl (fun _=>.loadAt flat3 rfl (hb1.drop 2) rfl) ?_;refine .quiet (.p rfl) rfl (fun _=>.fieldAddr fld102x3 rfl)<|.quiet (.p rfl) rfl (fun _=>.loadAt flat100 rfl (hb1.drop 3) rfl) ?_;refine .quiet (.p rfl) rfl (fun _=>.len rfl underlying100 rfl)<|OD.alt2 0 3 [3,4,7,10,14,15,16,17] [0,4,7,10,14,15,16,17] zC rfl rfl ?_ ?_
  ·refine ODt.litP (T:=Rp.u8) (ys:=[1]) (.p rfl) zC underlying24 elem5 zF rfl rfl ⟨rfl,trivial⟩ zF (fun a9 c9=>?_)
   refine OD.strBytesO (.p rfl) zC underlying9 underlying24 underlying5 rfl zW (fun a12 c12=>?_);refine OD.callB (.p rfl) zC rfl zC rfl rfl (bs:=[OwnP Rp.u8 5 (.slice a12 x.1.length c12) x.1]) zL (fun m hm hd=>refBytes_c (hm.arr.right hd) zB) ?_;rintro _ _ ⟨a13,c13,rfl,rfl⟩
   try simp only [zx1,zx2,zx3]
   refine OD.call0 (.p rfl) zC rfl zC rfl rfl (refNumber_c _) ?_;rintro _ _ ⟨a16,c16,rfl,rfl⟩
   try simp only [zx1,zx2,zx3]
   refine OD.call0 (.p rfl) zC rfl zC rfl rfl (refNumber_c _) ?_;rintro _ _ ⟨a19,c19,rfl,rfl⟩
   try simp only [zx1,zx2,zx3]
   refine OD.call0 (.p rfl) zC rfl zC rfl rfl (refNumber_c _) ?_;rintro _ _ ⟨a23,c23,rfl,rfl⟩
   try simp only [zx1,zx2,zx3]
   refine OD.litP (T:=Rp.val) (ys:=[_,_,_,_,_]) (.p rfl) zC underlying109 elem24 zF rfl rfl ⟨⟨rfl,rfl⟩,⟨rfl,rfl⟩,⟨rfl,rfl⟩,⟨rfl,rfl⟩,⟨rfl,rfl⟩,trivial⟩ zF (fun a24 c24=>?_);refine OD.callB (.p rfl) zC rfl zC rfl rfl (bs:=[OwnP Rp.val 24 (.slice a24 5 c24) [.slice a9 1 c9,.slice a13 (bytesOf x.1).length c13,.slice a16 8 c16,.slice a19 8 c19,.slice a23 8 c23],OwnP Rp.u8 5 (.slice a9 1 c9) [1],OwnP Rp.u8 5 (.slice a13 (bytesOf x.1).length c13) (bytesOf x.1),OwnP Rp.u8 5 (.slice a16 8 c16) (be x.2.1),OwnP Rp.u8 5 (.slice a19 8 c19) (be x.2.2.1),OwnP Rp.u8 5 (.slice a23 8 c23) (be x.2.2.2.1.length)]) zL (fun m hm hd=>refJoin_c (xss:=[[1],bytesOf x.1,be x.2.1,be x.2.2.1,be x.2.2.2.1.length]) ((hm.arr.right hd).rows ⟨hm.tail.arr.right hd,hm.tail.tail.arr.right hd,hm.tail.tail.tail.arr.right hd,hm.tail.tail.tail.tail.arr.right hd,hm.tail.tail.tail.tail.tail.arr.right hd,trivial⟩) (by rw [hfl];omega)) ?_;rintro _ _ ⟨a25,c25,rfl,rfl⟩
   try simp only [zx1,zx2,zx3]
   rw [hfl];refine OD.q 1 rfl<|ODx.nil<|S.pk ?_ (S.weaken (Sub.app (.cons rfl (.nil)) (.cons rfl (.nil))) (key (a25,c25)))
   try dsimp only
   repeat (first|exact zpa|exact zpn|(apply zpc;focus (repeat (first|exact zh|apply zt)))|apply zps)
  ·refine ODt.strBytesO (.p rfl) zC underlying9 underlying24 underlying5 rfl zW (fun a12 c12=>?_)
   refine OD.alt2 0 4 [4,7,10,14,15,16,17] [0,7,10,14,15,16,17] zC rfl rfl ?_ ?_
   ·refine ODt.litP (T:=Rp.u8) (ys:=[1]) (.p rfl) zC underlying24 elem5 zF rfl rfl ⟨rfl,trivial⟩ zF (fun a9 c9=>?_)
    refine OD.callB (.p rfl) zC rfl zC rfl rfl (bs:=[OwnP Rp.u8 5 (.slice a12 x.1.length c12) x.1]) zL (fun m hm hd=>refBytes_c (hm.arr.right hd) zB) ?_;rintro _ _ ⟨a13,c13,rfl,rfl⟩
    try simp only [zx1,zx2,zx3]
    refine OD.call0 (.p rfl) zC rfl zC rfl rfl (refNumber_c _) ?_;rintro _ _ ⟨a16,c16,rfl,rfl⟩
    try simp only [zx1,zx2,zx3]
    refine OD.call0 (.p rfl) zC rfl zC rfl rfl (refNumber_c _) ?_;rintro _ _ ⟨a19,c19,rfl,rfl⟩
    try simp only [zx1,zx2,zx3]
    refine OD.call0 (.p rfl) zC rfl zC rfl rfl (refNumber_c _) ?_;rintro _ _ ⟨a23,c23,rfl,rfl⟩
    try simp only [zx1,zx2,zx3]
    refine OD.litP (T:=Rp.val) (ys:=[_,_,_,_,_]) (.p rfl) zC underlying109 elem24 zF rfl rfl ⟨⟨rfl,rfl⟩,⟨rfl,rfl⟩,⟨rfl,rfl⟩,⟨rfl,rfl⟩,⟨rfl,rfl⟩,trivial⟩ zF (fun a24 c24=>?_);refine OD.callB (.p rfl) zC rfl zC rfl rfl (bs:=[OwnP Rp.val 24 (.slice a24 5 c24) [.slice a9 1 c9,.slice a13 (bytesOf x.1).length c13,.slice a16 8 c16,.slice a19 8 c19,.slice a23 8 c23],OwnP Rp.u8 5 (.slice a9 1 c9) [1],OwnP Rp.u8 5 (.slice a13 (bytesOf x.1).length c13) (bytesOf x.1),OwnP Rp.u8 5 (.slice a16 8 c16) (be x.2.1),OwnP Rp.u8 5 (.slice a19 8 c19) (be x.2.2.1),OwnP Rp.u8 5 (.slice a23 8 c23) (be x.2.2.2.1.length)]) zL (fun m hm hd=>refJoin_c (xss:=[[1],bytesOf x.1,be x.2.1,be x.2.2.1,be x.2.2.2.1.length]) ((hm.arr.right hd).rows ⟨hm.tail.arr.right hd,hm.tail.tail.arr.right hd,hm.tail.tail.tail.arr.right hd,hm.tail.tail.tail.tail.arr.right hd,hm.tail.tail.tail.tail.tail.arr.right hd,trivial⟩) (by rw [hfl];omega)) ?_;rintro _ _ ⟨a25,c25,rfl,rfl⟩
    try simp only [zx1,zx2,zx3]
    rw [hfl];refine OD.q 1 rfl<|ODx.nil<|S.pk ?_ (S.weaken (Sub.app (.cons rfl (.nil)) (.cons rfl (.nil))) (key (a25,c25)))
    try dsimp only
    repeat (first|exact zpa|exact zpn|(apply zpc;focus (repeat (first|exact zh|apply zt)))|apply zps)
   ·refine ODt.callB (.p rfl) zC rfl zC rfl rfl (bs:=[OwnP Rp.u8 5 (.slice a12 x.1.length c12) x.1]) zL (fun m hm hd=>refBytes_c (hm.arr.right hd) zB) ?_
    rintro _ _ ⟨a13,c13,rfl,rfl⟩
    try simp only [zx1,zx2,zx3]
    refine OD.alt2 0 7 [7,10,14,15,16,17] [0,10,14,15,16,17] zC rfl rfl ?_ ?_
    ·refine ODt.litP (T:=Rp.u8) (ys:=[1]) (.p rfl) zC underlying24 elem5 zF rfl rfl ⟨rfl,trivial⟩ zF (fun a9 c9=>?_)
     refine OD.call0 (.p rfl) zC rfl zC rfl rfl (refNumber_c _) ?_;rintro _ _ ⟨a16,c16,rfl,rfl⟩
     try simp only [zx1,zx2,zx3]
     refine OD.call0 (.p rfl) zC rfl zC rfl rfl (refNumber_c _) ?_;rintro _ _ ⟨a19,c19,rfl,rfl⟩
     try simp only [zx1,zx2,zx3]
     refine OD.call0 (.p rfl) zC rfl zC rfl rfl (refNumber_c _) ?_;rintro _ _ ⟨a23,c23,rfl,rfl⟩
     try simp only [zx1,zx2,zx3]
     refine OD.litP (T:=Rp.val) (ys:=[_,_,_,_,_]) (.p rfl) zC underlying109 elem24 zF rfl rfl ⟨⟨rfl,rfl⟩,⟨rfl,rfl⟩,⟨rfl,rfl⟩,⟨rfl,rfl⟩,⟨rfl,rfl⟩,trivial⟩ zF (fun a24 c24=>?_);refine OD.callB (.p rfl) zC rfl zC rfl rfl (bs:=[OwnP Rp.val 24 (.slice a24 5 c24) [.slice a9 1 c9,.slice a13 (bytesOf x.1).length c13,.slice a16 8 c16,.slice a19 8 c19,.slice a23 8 c23],OwnP Rp.u8 5 (.slice a9 1 c9) [1],OwnP Rp.u8 5 (.slice a13 (bytesOf x.1).length c13) (bytesOf x.1),OwnP Rp.u8 5 (.slice a16 8 c16) (be x.2.1),OwnP Rp.u8 5 (.slice a19 8 c19) (be x.2.2.1),OwnP Rp.u8 5 (.slice a23 8 c23) (be x.2.2.2.1.length)]) zL (fun m hm hd=>refJoin_c (xss:=[[1],bytesOf x.1,be x.2.1,be x.2.2.1,be x.2.2.2.1.length]) ((hm.arr.right hd).rows ⟨hm.tail.arr.right hd,hm.tail.tail.arr.right hd,hm.tail.tail.tail.arr.right hd,hm.tail.tail.tail.tail.arr.right hd,hm.tail.tail.tail.tail.tail.arr.right hd,trivial⟩) (by rw [hfl];omega)) ?_;rintro _ _ ⟨a25,c25,rfl,rfl⟩
     try simp only [zx1,zx2,zx3]
     rw [hfl];refine OD.q 1 rfl<|ODx.nil<|S.pk ?_ (S.weaken (Sub.app (.cons rfl (.nil)) (.cons rfl (.nil))) (key (a25,c25)))
     try dsimp only
     repeat (first|exact zpa|exact zpn|(apply zpc;focus (repeat (first|exact zh|apply zt)))|apply zps)
    ·refine ODt.call0 (.p rfl) zC rfl zC rfl rfl (refNumber_c _) ?_
     rintro _ _ ⟨a16,c16,rfl,rfl⟩
     try simp only [zx1,zx2,zx3]
     refine OD.alt2 0 10 [10,14,15,16,17] [0,14,15,16,17] zC rfl rfl ?_ ?_
     ·refine ODt.litP (T:=Rp.u8) (ys:=[1]) (.p rfl) zC underlying24 elem5 zF rfl rfl ⟨rfl,trivial⟩ zF (fun a9 c9=>?_)
      refine OD.call0 (.p rfl) zC rfl zC rfl rfl (refNumber_c _) ?_;rintro _ _ ⟨a19,c19,rfl,rfl⟩
      try simp only [zx1,zx2,zx3]
      refine OD.call0 (.p rfl) zC rfl zC rfl rfl (refNumber_c _) ?_;rintro _ _ ⟨a23,c23,rfl,rfl⟩
      try simp only [zx1,zx2,zx3]
      refine OD.litP (T:=Rp.val) (ys:=[_,_,_,_,_]) (.p rfl) zC underlying109 elem24 zF rfl rfl ⟨⟨rfl,rfl⟩,⟨rfl,rfl⟩,⟨rfl,rfl⟩,⟨rfl,rfl⟩,⟨rfl,rfl⟩,trivial⟩ zF (fun a24 c24=>?_);refine OD.callB (.p rfl) zC rfl zC rfl rfl (bs:=[OwnP Rp.val 24 (.slice a24 5 c24) [.slice a9 1 c9,.slice a13 (bytesOf x.1).length c13,.slice a16 8 c16,.slice a19 8 c19,.slice a23 8 c23],OwnP Rp.u8 5 (.slice a9 1 c9) [1],OwnP Rp.u8 5 (.slice a13 (bytesOf x.1).length c13) (bytesOf x.1),OwnP Rp.u8 5 (.slice a16 8 c16) (be x.2.1),OwnP Rp.u8 5 (.slice a19 8 c19) (be x.2.2.1),OwnP Rp.u8 5 (.slice a23 8 c23) (be x.2.2.2.1.length)]) zL (fun m hm hd=>refJoin_c (xss:=[[1],bytesOf x.1,be x.2.1,be x.2.2.1,be x.2.2.2.1.length]) ((hm.arr.right hd).rows ⟨hm.tail.arr.right hd,hm.tail.tail.arr.right hd,hm.tail.tail.tail.arr.right hd,hm.tail.tail.tail.tail.arr.right hd,hm.tail.tail.tail.tail.tail.arr.right hd,trivial⟩) (by rw [hfl];omega)) ?_;rintro _ _ ⟨a25,c25,rfl,rfl⟩
      try simp only [zx1,zx2,zx3]
      rw [hfl];refine OD.q 1 rfl<|ODx.nil<|S.pk ?_ (S.weaken (Sub.app (.cons rfl (.nil)) (.cons rfl (.nil))) (key (a25,c25)))
      try dsimp only
      repeat (first|exact zpa|exact zpn|(apply zpc;focus (repeat (first|exact zh|apply zt)))|apply zps)
     ·refine ODt.call0 (.p rfl) zC rfl zC rfl rfl (refNumber_c _) ?_
      rintro _ _ ⟨a19,c19,rfl,rfl⟩
      try simp only [zx1,zx2,zx3]
      refine OD.alt2 0 14 [14,15,16,17] [0,15,16,17] zC rfl rfl ?_ ?_
      ·refine ODt.litP (T:=Rp.u8) (ys:=[1]) (.p rfl) zC underlying24 elem5 zF rfl rfl ⟨rfl,trivial⟩ zF (fun a9 c9=>?_)
       refine OD.call0 (.p rfl) zC rfl zC rfl rfl (refNumber_c _) ?_;rintro _ _ ⟨a23,c23,rfl,rfl⟩
       try simp only [zx1,zx2,zx3]
       refine OD.litP (T:=Rp.val) (ys:=[_,_,_,_,_]) (.p rfl) zC underlying109 elem24 zF rfl rfl ⟨⟨rfl,rfl⟩,⟨rfl,rfl⟩,⟨rfl,rfl⟩,⟨rfl,rfl⟩,⟨rfl,rfl⟩,trivial⟩ zF (fun a24 c24=>?_);refine OD.callB (.p rfl) zC rfl zC rfl rfl (bs:=[OwnP Rp.val 24 (.slice a24 5 c24) [.slice a9 1 c9,.slice a13 (bytesOf x.1).length c13,.slice a16 8 c16,.slice a19 8 c19,.slice a23 8 c23],OwnP Rp.u8 5 (.slice a9 1 c9) [1],OwnP Rp.u8 5 (.slice a13 (bytesOf x.1).length c13) (bytesOf x.1),OwnP Rp.u8 5 (.slice a16 8 c16) (be x.2.1),OwnP Rp.u8 5 (.slice a19 8 c19) (be x.2.2.1),OwnP Rp.u8 5 (.slice a23 8 c23) (be x.2.2.2.1.length)]) zL (fun m hm hd=>refJoin_c (xss:=[[1],bytesOf x.1,be x.2.1,be x.2.2.1,be x.2.2.2.1.length]) ((hm.arr.right hd).rows ⟨hm.tail.arr.right hd,hm.tail.tail.arr.right hd,hm.tail.tail.tail.arr.right hd,hm.tail.tail.tail.tail.arr.right hd,hm.tail.tail.tail.tail.tail.arr.right hd,trivial⟩) (by rw [hfl];omega)) ?_;rintro _ _ ⟨a25,c25,rfl,rfl⟩
       try simp only [zx1,zx2,zx3]
       rw [hfl];refine OD.q 1 rfl<|ODx.nil<|S.pk ?_ (S.weaken (Sub.app (.cons rfl (.nil)) (.cons rfl (.nil))) (key (a25,c25)))
       try dsimp only
       repeat (first|exact zpa|exact zpn|(apply zpc;focus (repeat (first|exact zh|apply zt)))|apply zps)
      ·refine ODt.call0 (.p rfl) zC rfl zC rfl rfl (refNumber_c _) ?_
       rintro _ _ ⟨a23,c23,rfl,rfl⟩
       try simp only [zx1,zx2,zx3]
       refine OD.litP (T:=Rp.u8) (ys:=[1]) (.p rfl) zC underlying24 elem5 zF rfl rfl ⟨rfl,trivial⟩ zF (fun a9 c9=>?_);refine OD.litP (T:=Rp.val) (ys:=[_,_,_,_,_]) (.p rfl) zC underlying109 elem24 zF rfl rfl ⟨⟨rfl,rfl⟩,⟨rfl,rfl⟩,⟨rfl,rfl⟩,⟨rfl,rfl⟩,⟨rfl,rfl⟩,trivial⟩ zF (fun a24 c24=>?_);refine OD.callB (.p rfl) zC rfl zC rfl rfl (bs:=[OwnP Rp.val 24 (.slice a24 5 c24) [.slice a9 1 c9,.slice a13 (bytesOf x.1).length c13,.slice a16 8 c16,.slice a19 8 c19,.slice a23 8 c23],OwnP Rp.u8 5 (.slice a9 1 c9) [1],OwnP Rp.u8 5 (.slice a13 (bytesOf x.1).length c13) (bytesOf x.1),OwnP Rp.u8 5 (.slice a16 8 c16) (be x.2.1),OwnP Rp.u8 5 (.slice a19 8 c19) (be x.2.2.1),OwnP Rp.u8 5 (.slice a23 8 c23) (be x.2.2.2.1.length)]) zL (fun m hm hd=>refJoin_c (xss:=[[1],bytesOf x.1,be x.2.1,be x.2.2.1,be x.2.2.2.1.length]) ((hm.arr.right hd).rows ⟨hm.tail.arr.right hd,hm.tail.tail.arr.right hd,hm.tail.tail.tail.arr.right hd,hm.tail.tail.tail.tail.arr.right hd,hm.tail.tail.tail.tail.tail.arr.right hd,trivial⟩) (by rw [hfl];omega)) ?_;rintro _ _ ⟨a25,c25,rfl,rfl⟩
       try simp only [zx1,zx2,zx3]
       rw [hfl];refine OD.q 1 rfl<|ODx.nil<|S.pk ?_ (S.weaken (Sub.app (.cons rfl (.nil)) (.cons rfl (.nil))) (key (a25,c25)))
       try dsimp only
       repeat (first|exact zpa|exact zpn|(apply zpc;focus (repeat (first|exact zh|apply zt)))|apply zps)
 refine S.seq<|S.seq<|S.region rfl<|O.q 1 rfl<|O.nil<|S.block<|S.ownIs (T:=Rp.u8) (e:=5) (v' :=.slice s.1 (recHead x++dotsB (x.2.2.2.1.take 0)).length s.2) (xs' :=recHead x++dotsB (x.2.2.2.1.take 0)) zD zI zI ?_;refine S.slot 3 (v' :=.slice s.1 (recHead x++dotsB (x.2.2.2.1.take 0)).length s.2) rfl zI ?_;refine S.loopK2 (ι:=Nat) (κ:=Option Addr × Nat) (fun i q=>i≤x.2.2.2.1.length) (fun i q=>[(3,.slice q.1 (recHead x++dotsB (x.2.2.2.1.take i)).length q.2),(4,.int .i64 (i:Int))]) [(1,_)] (fun i q=>[OwnP Rp.u8 5 (.slice q.1 (recHead x++dotsB (x.2.2.2.1.take i)).length q.2) (recHead x++dotsB (x.2.2.2.1.take i))]) (fun i q=>x.2.2.2.1.length - i) (0) (s) zI (.cons rfl (.cons rfl (.nil))) (.cons rfl (.nil)) rfl fun i q hx ih=>?_;have hm1:=meltRefl (g:=g);refine S.seq<|S.seq<|S.region rfl<|O.q 1 rfl<|O.op (.p rfl) (.fieldAddr fld102x3 rfl)<|O.op (.p rfl) (.loadAt flat100 rfl (hb1.drop 3) rfl) ?_;refine O.op (.p rfl) (.len rfl underlying100 rfl)<|O.op (.p rfl) (.lss rfl rfl)<|O.nil ?_
 first|refine S.condD rfl (fun h30=>?_) (fun h30=>?_)|refine S.condB rfl (fun h30=>?_) (fun h30=>?_)
 ·have hi:i<x.2.2.2.1.length:=by omega
  have htk:recHead x++dotsB (x.2.2.2.1.take i)++(be x.2.2.2.1[i].1++be x.2.2.2.1[i].2.1)=recHead x++dotsB (x.2.2.2.1.take (i+1)):=by rw [List.take_succ_eq_append_getElem hi,dotsB_snoc,List.append_assoc]
  have hln:(recHead x++dotsB (x.2.2.2.1.take i)).length≤1000:=by rw [List.length_append,dotsB_length,List.length_take];omega
  generalize recHead x++dotsB (x.2.2.2.1.take i)=so at htk hln ⊢;have hfl2:[so,be x.2.2.2.1[i].1,be x.2.2.2.1[i].2.1].flatten=recHead x++dotsB (x.2.2.2.1.take (i+1)):=by rw [← htk];simp
  have hl2:[so,be x.2.2.2.1[i].1,be x.2.2.2.1[i].2.1].flatten.length≤2000:=by simp;omega
  generalize hD:x.2.2.2.1[i]=dt at htk hfl2 hl2;refine S.skip<|S.seq<|S.block<|S.regionD (L:=[0,1,2,3,4,5,6,8,9,10,11,12,13,7,14,15,16,17]) F.mixed zC<|OD.q 1 rfl<|.quiet (.p rfl) rfl (fun _=>.fieldAddr fld102x3 rfl)<|.quiet (.p rfl) rfl (fun _=>.loadAt flat100 rfl (hb1.drop 3) rfl) ?_;refine OD.q 1 rfl<|OD.ia (.p rfl) underlying100 size191 rfl rfl rfl (k3) (h:=fun p37 cs37 hp37 hr37=>?_);obtain ⟨rfl,hi37,hj37⟩:=DotRp.open hr37;rw [hD] at hp37;refine .quiet (.p rfl) rfl (fun _=>.fieldAddr fld191x0 rfl)<|.quiet (.p rfl) rfl (fun _=>.loadAt flat3 rfl hp37 rfl) ?_;refine .quiet (.p rfl) rfl (fun _=>.fieldAddr fld102x3 rfl)<|.quiet (.p rfl) rfl (fun _=>.loadAt flat100 rfl (hb1.drop 3) rfl) ?_;refine OD.q 1 rfl<|OD.ia (.p rfl) underlying100 size191 rfl rfl rfl (k3) (h:=fun p44 cs44 hp44 hr44=>?_);obtain ⟨rfl,hi44,hj44⟩:=DotRp.open hr44;rw [hD] at hp44;refine .quiet (.p rfl) rfl (fun _=>.fieldAddr fld191x1 rfl)<|.quiet (.p rfl) rfl (fun _=>.loadAt flat3 rfl (hp44.drop 1) rfl) ?_;refine OD.call0 (.p rfl) zC rfl zC rfl rfl (refNumber_c _) ?_;rintro _ _ ⟨a40,c40,rfl,rfl⟩
  try simp only [zx1,zx2,zx3]
  refine OD.call0 (.p rfl) zC rfl zC rfl rfl (refNumber_c _) ?_;rintro _ _ ⟨a47,c47,rfl,rfl⟩
  try simp only [zx1,zx2,zx3]
  refine OD.litP (T:=Rp.val) (ys:=[_,_,_]) (.p rfl) zC underlying109 elem24 zF rfl rfl ⟨⟨rfl,rfl⟩,⟨rfl,rfl⟩,⟨rfl,rfl⟩,trivial⟩ zF (fun a48 c48=>?_);refine OD.callB (.p rfl) zC rfl zC rfl rfl (bs:=[OwnP Rp.val 24 (.slice a48 3 c48) [.slice q.1 so.length q.2,.slice a40 8 c40,.slice a47 8 c47],OwnP Rp.u8 5 (.slice q.1 so.length q.2) so,OwnP Rp.u8 5 (.slice a40 8 c40) (be dt.1),OwnP Rp.u8 5 (.slice a47 8 c47) (be dt.2.1)]) zL (fun m hm hd=>refJoin_c (xss:=[so,be dt.1,be dt.2.1]) ((hm.arr.right hd).rows ⟨hm.tail.arr.right hd,hm.tail.tail.arr.right hd,hm.tail.tail.tail.arr.right hd,trivial⟩) zB) ?_;rintro _ _ ⟨a49,c49,rfl,rfl⟩
  try simp only [zx1,zx2,zx3]
  rw [hfl2];refine OD.q 1 rfl<|ODx.nil<|S.inBlock<|S.region rfl<|O.q 1 rfl<|O.op (.p rfl) (.add rfl rfl (IntWalk.i64_in _ zB))<|O.q 1 rfl<|O.nil ?_;exact S.pw (ih (i+1) ((a49,c49)) zB zB)
 ·clear ih
  have hi:i=x.2.2.2.1.length:=by omega
  subst hi;rw [List.take_length];generalize hso:recHead x++dotsB x.2.2.2.1=so;have hsl:so.length≤2000:=by rw [← hso,List.length_append,dotsB_length];omega
  have hrt:[so,[goneB x.2.2.2.2.1],bytesOf x.2.2.2.2.2.1].flatten=recText x:=by rw [← hso];simp [recHead,recText]
  have hrl:(recText x).length≤100000:=by rw [recText_length];omega
  refine S.exit rfl<|S.seq<|S.region rfl<|O.q 1 rfl<|O.nil (S.seq (S.seq ?_))
  cases g4:x.2.2.2.2.1 with
  |false =>
   rw [g4] at hrt;refine S.region rfl<|O.op (.p rfl) (.fieldAddr fld102x4 rfl)<|O.op (.p rfl) (.loadAt flat4 rfl (hb1.drop 4) rfl) ?_;refine O.sF 51 rfl (by exact g4) ?_;refine O.nil<|S.condF rfl<|S.skip<|S.seq<|S.region rfl<|O.q 2 rfl<|O.opE (.p rfl) (.litP (T:=Rp.u8) (ys:=[goneB false]) underlying24 elem5 zF rfl rfl ⟨rfl,trivial⟩ zF) ?_;rintro _ _ ⟨a54,c54,rfl,rfl⟩;refine O.op (.p rfl) (.fieldAddr fld102x5 rfl)<|O.op (.p rfl) (.loadAt flat24 rfl (hb1.drop 5) rfl) ?_;refine O.call0 (.p rfl) rfl zC rfl rfl (refBytes_c (by first|assumption|exact Arr.mono hg zE|exact Arr.left zE|exact Arr.left (Arr.mono hg zE)) zG) ?_;rintro _ _ ⟨a57,c57,rfl,rfl⟩
   try simp only [zx1,zx2,zx3]
   refine O.opE (.p rfl) (.litP (T:=Rp.val) (ys:=[_,_,_]) underlying109 elem24 zF rfl rfl ⟨⟨rfl,rfl⟩,⟨rfl,rfl⟩,⟨rfl,rfl⟩,trivial⟩ zF) ?_;rintro _ _ ⟨a58,c58,rfl,rfl⟩;refine O.callB (.p rfl) rfl zC rfl rfl (bs:=[OwnP Rp.val 24 (.slice a58 3 c58) [.slice q.1 so.length q.2,.slice a54 1 c54,.slice a57 (bytesOf x.2.2.2.2.2.1).length c57],OwnP Rp.u8 5 (.slice q.1 so.length q.2) so,OwnP Rp.u8 5 (.slice a54 1 c54) [goneB false],OwnP Rp.u8 5 (.slice a57 (bytesOf x.2.2.2.2.2.1).length c57) (bytesOf x.2.2.2.2.2.1)]) zL (fun m hm hd=>refJoin_c (xss:=[so,[goneB false],bytesOf x.2.2.2.2.2.1]) ((hm.arr.right hd).rows ⟨hm.tail.arr.right hd,hm.tail.tail.arr.right hd,hm.tail.tail.tail.arr.right hd,trivial⟩) (by rw [hrt];omega)) ?_;rintro _ _ ⟨a59,c59,rfl,rfl⟩
   try simp only [zx1,zx2,zx3]
   rw [hrt];refine O.q 1 rfl<|O.nil ?_;exact S.rt results301 rfl hR ⟨a59,c59,rfl,rfl⟩
  |true =>
   rw [g4] at hrt;refine S.region rfl<|O.op (.p rfl) (.fieldAddr fld102x4 rfl)<|O.op (.p rfl) (.loadAt flat4 rfl (hb1.drop 4) rfl) ?_;refine O.sT 51 rfl (by exact g4) ?_;refine O.nil<|S.condT rfl<|S.region rfl<|O.q 1 rfl<|O.nil<|S.seq<|S.region rfl<|O.q 2 rfl<|O.opE (.p rfl) (.litP (T:=Rp.u8) (ys:=[goneB true]) underlying24 elem5 zF rfl rfl ⟨rfl,trivial⟩ zF) ?_;rintro _ _ ⟨a54,c54,rfl,rfl⟩;refine O.op (.p rfl) (.fieldAddr fld102x5 rfl)<|O.op (.p rfl) (.loadAt flat24 rfl (hb1.drop 5) rfl) ?_;refine O.call0 (.p rfl) rfl zC rfl rfl (refBytes_c (by first|assumption|exact Arr.mono hg zE|exact Arr.left zE|exact Arr.left (Arr.mono hg zE)) zG) ?_;rintro _ _ ⟨a57,c57,rfl,rfl⟩
   try simp only [zx1,zx2,zx3]
   refine O.opE (.p rfl) (.litP (T:=Rp.val) (ys:=[_,_,_]) underlying109 elem24 zF rfl rfl ⟨⟨rfl,rfl⟩,⟨rfl,rfl⟩,⟨rfl,rfl⟩,trivial⟩ zF) ?_;rintro _ _ ⟨a58,c58,rfl,rfl⟩;refine O.callB (.p rfl) rfl zC rfl rfl (bs:=[OwnP Rp.val 24 (.slice a58 3 c58) [.slice q.1 so.length q.2,.slice a54 1 c54,.slice a57 (bytesOf x.2.2.2.2.2.1).length c57],OwnP Rp.u8 5 (.slice q.1 so.length q.2) so,OwnP Rp.u8 5 (.slice a54 1 c54) [goneB true],OwnP Rp.u8 5 (.slice a57 (bytesOf x.2.2.2.2.2.1).length c57) (bytesOf x.2.2.2.2.2.1)]) zL (fun m hm hd=>refJoin_c (xss:=[so,[goneB true],bytesOf x.2.2.2.2.2.1]) ((hm.arr.right hd).rows ⟨hm.tail.arr.right hd,hm.tail.tail.arr.right hd,hm.tail.tail.tail.arr.right hd,trivial⟩) (by rw [hrt];omega)) ?_;rintro _ _ ⟨a59,c59,rfl,rfl⟩
   try simp only [zx1,zx2,zx3]
   rw [hrt];refine O.q 1 rfl<|O.nil ?_;exact S.rt results301 rfl hR ⟨a59,c59,rfl,rfl⟩
theorem r8put_c {r:Fr} {cs:List Value} {x:RecT} (h:RecRp.rel r cs x) :
  Con prog 232 #[.agg cs.toArray] r [] (Ret fun v η=>∃ a c,v=.tuple #[.slice a (recOut x).length c,.int .i64 (recErr x)]∧η=[OwnP Rp.u8 5 (.slice a (recOut x).length c) (recOut x)]):=by
 obtain ⟨xa3,xa5,xa6,xc3,xc5,xc6,rfl,k0,k1,k2,k3,k5,k6⟩:=RecRp.sh h;refine Con.of (n:=13) _ rfl func232 rfl rfl rfl fun g hg R hR=>?_;have h:=h.mono hg;have k6:=k6.mono hg;refine S.seq<|S.region rfl<|O.opE (.p rfl) (.box (cs:=[_,_,_,_,_,_,_]) rfl rfl) ?_;rintro _ _ ⟨b1,rfl,rfl⟩;refine O.q 2 rfl<|O.nil<|S.seq<|S.seq<|S.frzO zD fun g hs hm hb1=>?_;replace hg:=Fr.sub_trans hg hs;replace hR:=melted hR hm
 try replace h:=h.mono hs
 try replace k6:=k6.mono hs
 clear hs hm
 cases e:recOk x with
 |false =>
  have e1:recOut x=[]:=by simp [recOut,e]
  have e2:recErr x=4:=by simp [recErr,e]
  rw [e1,e2] at hR;refine S.region rfl<|O.op (.p rfl) (.loadAgg isAgg102 zC rfl hb1) ?_;refine O.call0 (.p rfl) rfl zC rfl rfl ((r8right_c h)) ?_;rintro _ _ ⟨rfl,rfl⟩
  try simp only [zx1,zx2,zx3]
  refine O.sF 5 rfl (by exact e) ?_;refine O.op (.p rfl) (.not rfl)<|O.nil<|S.condT rfl<|S.seq<|S.region rfl<|O.q 2 rfl<|O.nil<|S.addNil (T:=Rp.u8) (e:=5) ?_;refine S.ret2 results232 rfl rfl fun w hw=>Holds.end_ hR hw ?_;exact pk ⟨none,0,rfl,rfl⟩
 |true =>
  have e1:recOut x=recB x:=by simp [recOut,e]
  have e2:recErr x=0:=by simp [recErr,e]
  rw [e1,e2] at hR;have hs:=(recOk_iff.1 e).1;have hbl:=recB_le e;have htl:=recText_le hs;have hfl:[recText x,x.2.2.2.2.2.2.1].flatten=recB x:=by simp [recB]
  refine S.region rfl<|O.op (.p rfl) (.loadAgg isAgg102 zC rfl hb1) ?_;refine O.call0 (.p rfl) rfl zC rfl rfl ((r8right_c h)) ?_;rintro _ _ ⟨rfl,rfl⟩
  try simp only [zx1,zx2,zx3]
  refine O.sT 5 rfl (by exact e) ?_;refine O.op (.p rfl) (.not rfl)<|O.nil<|S.condF rfl<|S.skip<|S.seq<|S.regionD (L:=[0,2,3,1,4,5,6,7]) F.mixed zC<|.quiet (.p rfl) rfl (fun _=>.loadAgg isAgg102 zC rfl hb1) ?_;refine .quiet (.p rfl) rfl (fun _=>.fieldAddr fld102x6 rfl)<|.quiet (.p rfl) rfl (fun _=>.loadAt flat24 rfl (hb1.drop 6) rfl) ?_;refine OD.call0 (.p rfl) zC rfl zC rfl rfl ((r8text_c h hs)) ?_;rintro _ _ ⟨a8,c8,rfl,rfl⟩
  try simp only [zx1,zx2,zx3]
  refine OD.litP (T:=Rp.val) (ys:=[_,_]) (.p rfl) zC underlying109 elem24 zF rfl rfl ⟨⟨rfl,rfl⟩,⟨rfl,rfl⟩,trivial⟩ zF (fun a11 c11=>?_);refine OD.callB (.p rfl) zC rfl zC rfl rfl (bs:=[OwnP Rp.val 24 (.slice a11 2 c11) [.slice a8 (recText x).length c8,.slice xa6 x.2.2.2.2.2.2.1.length xc6],OwnP Rp.u8 5 (.slice a8 (recText x).length c8) (recText x)]) zL (fun m hm hd=>refJoin_c (xss:=[recText x,x.2.2.2.2.2.2.1]) ((hm.arr.right hd).rows ⟨hm.tail.arr.right hd,k6.left,trivial⟩) (by rw [hfl];omega)) ?_;rintro _ _ ⟨a12,c12,rfl,rfl⟩
  try simp only [zx1,zx2,zx3]
  rw [hfl];refine OD.q 2 rfl<|ODx.nil<|S.ret2 results232 rfl rfl fun w hw=>Holds.end_ hR hw ?_;exact pk ⟨a12,c12,rfl,rfl⟩
theorem r9ahead_c {r:Fr} {cs ds:List Value} {x y:RecT} (h:RecRp.rel r cs x) (h' :RecRp.rel r ds y):Con prog 230 #[.agg cs.toArray,.agg ds.toArray] r [] (Ret fun v η=>v=.bool (decide (cmpR x y<0))∧η=[]):=by
 obtain ⟨xa3,xa5,xa6,xc3,xc5,xc6,rfl,k0,k1,k2,k3,k5,k6⟩:=RecRp.sh h;obtain ⟨ya3,ya5,ya6,yc3,yc5,yc6,rfl,j0,j1,j2,j3,j5,j6⟩:=RecRp.sh h';have hc:=cmpR_lt (a:=x) (b:=y);refine Con.of (n:=24) _ rfl func230 rfl rfl rfl fun g hg R hR=>?_;refine S.seq<|S.region rfl<|O.opE (.p rfl) (.box (cs:=[_,_,_,_,_,_,_]) rfl rfl) ?_;rintro _ _ ⟨b2,rfl,rfl⟩;refine O.opE (.p rfl) (.box (cs:=[_,_,_,_,_,_,_]) rfl rfl) ?_;rintro _ _ ⟨b3,rfl,rfl⟩;refine O.q 1 rfl<|O.nil<|S.seq<|S.region rfl<|O.op (.p rfl) (.fieldObj fld102x1 rfl)<|O.op (.p rfl) (.lo flat3) ?_;refine O.op (.p rfl) (.fieldObj fld102x1 rfl)<|O.op (.p rfl) (.lo flat3) ?_;refine O.op (.p rfl) (.lss rfl rfl)<|O.q 1 rfl ?_
 first|refine O.caseD 10 rfl (fun h10=>?_) (fun h10=>?_)|refine O.caseB 10 rfl (fun h10=>?_) (fun h10=>?_)
 ·refine O.q 14 rfl<|O.nil<|S.ret results230 rfl fun w hw=>Holds.end_ hR hw ?_
  first|exact ⟨_,⟨congrArg _ (decide_eq_true (hc.2 zB)).symm,rfl⟩,by repeat (first|exact zpa|exact zpn|(apply zpc;focus (repeat (first|exact zh|apply zt)))|apply zps)⟩|exact ⟨_,⟨congrArg _ (decide_eq_false (fun q=>absurd (hc.1 q) zB)).symm,rfl⟩,by repeat (first|exact zpa|exact zpn|(apply zpc;focus (repeat (first|exact zh|apply zt)))|apply zps)⟩|exact ⟨_,⟨congrArg _ (decide_eq_decide.2 (by rw [hc];omega)),rfl⟩,by repeat (first|exact zpa|exact zpn|(apply zpc;focus (repeat (first|exact zh|apply zt)))|apply zps)⟩
 ·refine O.op (.g rfl rfl) (.fieldObj fld102x1 rfl)<|O.op (.g rfl rfl) (.lo flat3) ?_
  refine O.op (.g rfl rfl) (.fieldObj fld102x1 rfl)<|O.op (.g rfl rfl) (.lo flat3) ?_;refine O.op (.g rfl rfl) (.eql rfl rfl)<|O.q 1 rfl ?_
  first|refine O.caseD 16 rfl (fun h16=>?_) (fun h16=>?_)|refine O.caseB 16 rfl (fun h16=>?_) (fun h16=>?_)
  ·refine O.op (.g rfl rfl) (.fieldObj fld102x2 rfl)<|O.op (.g rfl rfl) (.lo flat3) ?_
   refine O.op (.g rfl rfl) (.fieldObj fld102x2 rfl)<|O.op (.g rfl rfl) (.lo flat3) ?_;refine O.op (.g rfl rfl) (.lss rfl rfl)<|O.q 3 rfl<|O.nil<|S.ret results230 rfl fun w hw=>Holds.end_ hR hw ?_
   first|exact ⟨_,⟨congrArg _ (decide_eq_true (hc.2 zB)).symm,rfl⟩,by repeat (first|exact zpa|exact zpn|(apply zpc;focus (repeat (first|exact zh|apply zt)))|apply zps)⟩|exact ⟨_,⟨congrArg _ (decide_eq_false (fun q=>absurd (hc.1 q) zB)).symm,rfl⟩,by repeat (first|exact zpa|exact zpn|(apply zpc;focus (repeat (first|exact zh|apply zt)))|apply zps)⟩|exact ⟨_,⟨congrArg _ (decide_eq_decide.2 (by rw [hc];omega)),rfl⟩,by repeat (first|exact zpa|exact zpn|(apply zpc;focus (repeat (first|exact zh|apply zt)))|apply zps)⟩
  ·refine O.q 8 rfl<|O.nil<|S.ret results230 rfl fun w hw=>Holds.end_ hR hw ?_
   first|exact ⟨_,⟨congrArg _ (decide_eq_true (hc.2 zB)).symm,rfl⟩,by repeat (first|exact zpa|exact zpn|(apply zpc;focus (repeat (first|exact zh|apply zt)))|apply zps)⟩|exact ⟨_,⟨congrArg _ (decide_eq_false (fun q=>absurd (hc.1 q) zB)).symm,rfl⟩,by repeat (first|exact zpa|exact zpn|(apply zpc;focus (repeat (first|exact zh|apply zt)))|apply zps)⟩|exact ⟨_,⟨congrArg _ (decide_eq_decide.2 (by rw [hc];omega)),rfl⟩,by repeat (first|exact zpa|exact zpn|(apply zpc;focus (repeat (first|exact zh|apply zt)))|apply zps)⟩
theorem r9one_c {r:Fr} {va:Value} {l:List RecT} (ha:Arr RecRp r va l):Con prog 229 #[va] r [] (Ret fun v η=>v=.bool (oneK l)∧η=[]):=by
 have har:=ha;refine Con.of (n:=28) _ rfl func229 rfl rfl rfl fun g hg R hR=>?_;have ha:=ha.mono hg;have hbd:=ha.bound;obtain ⟨a1,c1,rfl⟩:=ha.shape;refine S.seq<|S.region rfl<|O.q 1 rfl<|O.nil<|S.seq<|S.seq<|S.region rfl<|O.q 1 rfl<|O.nil<|S.block<|S.loopK (ι:=Nat) (fun i=>i≤l.length∧oneK (l.take i)=true) (fun i=>[(3,.int .i64 (i:Int))]) [(0,_)] (fun i=>[]) (fun i=>l.length - i) (0) zY (.cons rfl (.nil)) (.cons rfl (.nil)) rfl fun i hx ih=>?_;have hm1:=meltRefl (g:=g);obtain ⟨hx1,hx2⟩:=hx;refine S.seq<|S.seq<|S.region rfl<|O.q 2 rfl<|O.op (.p rfl) (.len rfl underlying22 rfl)<|O.op (.p rfl) (.lss rfl rfl)<|O.nil ?_
 first|refine S.condD rfl (fun h7=>?_) (fun h7=>?_)|refine S.condB rfl (fun h7=>?_) (fun h7=>?_)
 ·have hi:i<l.length:=by omega
  have h0:0<l.length:=by omega
  have hst:=oneK_step hi hx2
  cases e1:recOk l[i] with
  |false =>
   have hno:oneK l=false:=oneK_none (i:=i+1) (Bool.eq_false_iff.2 fun q=>by rw [e1] at hst;exact absurd (hst.1 q).1 zI);refine S.skip<|S.seq<|S.block<|S.seq<|S.regionD (L:=[0,1,2,3,4,5,6,7,8,9,10,11,12,13,14,15,16,17]) F.mixed zC<|OD.q 2 rfl<|OD.ib (.p rfl) underlying22 size102 rfl rfl rfl har hg (h:=fun p12 cs12 hp12 hrr12=>?_);have hr12:=Rp.rel.mono hrr12 hg;obtain ⟨ra3_12,ra5_12,ra6_12,rc3_12,rc5_12,rc6_12,rfl,ho0_12,ho1_12,ho2_12,ha3_12,ha5_12,ha6_12⟩:=RecRp.sh hr12;refine .quiet (.p rfl) rfl (fun _=>.loadAgg isAgg102 zC rfl hp12) ?_;refine OD.call0 (.p rfl) zC rfl zC rfl rfl ((r8right_c hr12)) ?_;rintro _ _ ⟨rfl,rfl⟩
   try simp only [zx1,zx2,zx3]
   refine OD.sF 14 rfl (by exact e1) ?_;refine .quiet (.p rfl) rfl (fun _=>.not rfl)<|OD.q 12 rfl<|ODx.nil<|S.condT rfl<|S.seq<|S.region rfl<|O.q 1 rfl<|O.nil ?_;exact S.rt results229 rfl hR ⟨by rw [hno],rfl⟩
  |true =>
   by_cases e2:l[i].1=l[0].1
   ·
    refine S.skip<|S.seq<|S.block<|S.seq<|S.regionD (L:=[0,1,2,3,4,5,6,7,8,9,10,11,12,13,14,15,16,17]) F.mixed zC<|OD.q 2 rfl<|OD.ib (.p rfl) underlying22 size102 rfl rfl rfl har hg (h:=fun p12 cs12 hp12 hrr12=>?_);have hr12:=Rp.rel.mono hrr12 hg;obtain ⟨ra3_12,ra5_12,ra6_12,rc3_12,rc5_12,rc6_12,rfl,ho0_12,ho1_12,ho2_12,ha3_12,ha5_12,ha6_12⟩:=RecRp.sh hr12;refine .quiet (.p rfl) rfl (fun _=>.loadAgg isAgg102 zC rfl hp12) ?_;refine OD.call0 (.p rfl) zC rfl zC rfl rfl ((r8right_c hr12)) ?_;rintro _ _ ⟨rfl,rfl⟩
    try simp only [zx1,zx2,zx3]
    refine OD.sT 14 rfl (by exact e1) ?_;refine .quiet (.p rfl) rfl (fun _=>.not rfl)<|OD.q 3 rfl<|OD.ib (.g rfl rfl) underlying22 size102 rfl rfl rfl har hg (h:=fun p19 cs19 hp19 hrr19=>?_);have hr19:=Rp.rel.mono hrr19 hg;obtain ⟨ra3_19,ra5_19,ra6_19,rc3_19,rc5_19,rc6_19,rfl,ho0_19,ho1_19,ho2_19,ha3_19,ha5_19,ha6_19⟩:=RecRp.sh hr19;refine .quiet (.g rfl rfl) rfl (fun _=>.fieldAddr fld102x0 rfl)<|.quiet (.g rfl rfl) rfl (fun _=>.loadAt flat9 rfl hp19 rfl) ?_;refine OD.q 1 rfl<|OD.ib (.g rfl rfl) underlying22 size102 rfl rfl (show _=(((0):Nat):Int) by omega) har hg (h:=fun p23 cs23 hp23 hrr23=>?_);have hr23:=Rp.rel.mono hrr23 hg;obtain ⟨ra3_23,ra5_23,ra6_23,rc3_23,rc5_23,rc6_23,rfl,ho0_23,ho1_23,ho2_23,ha3_23,ha5_23,ha6_23⟩:=RecRp.sh hr23;refine .quiet (.g rfl rfl) rfl (fun _=>.fieldAddr fld102x0 rfl)<|.quiet (.g rfl rfl) rfl (fun _=>.loadAt flat9 rfl hp23 rfl) ?_;refine .quiet (.g rfl rfl) rfl (fun _=>.neqS rfl rfl)<|OD.sF 26 rfl (by simp [e2]) ?_;refine OD.q 1 rfl<|ODx.nil<|S.condF rfl<|S.skip<|S.inBlock<|S.region rfl<|O.q 1 rfl<|O.op (.p rfl) (.add rfl rfl (IntWalk.i64_in _ zB))<|O.q 1 rfl<|O.nil ?_;exact S.wk (ih (i+1) (by exact ⟨by omega,hst.2 ⟨e1,e2⟩⟩) zB)
   ·have hno:oneK l=false:=oneK_none (i:=i+1) (Bool.eq_false_iff.2 fun q=>e2 (hst.1 q).2)
    refine S.skip<|S.seq<|S.block<|S.seq<|S.regionD (L:=[0,1,2,3,4,5,6,7,8,9,10,11,12,13,14,15,16,17]) F.mixed zC<|OD.q 2 rfl<|OD.ib (.p rfl) underlying22 size102 rfl rfl rfl har hg (h:=fun p12 cs12 hp12 hrr12=>?_);have hr12:=Rp.rel.mono hrr12 hg;obtain ⟨ra3_12,ra5_12,ra6_12,rc3_12,rc5_12,rc6_12,rfl,ho0_12,ho1_12,ho2_12,ha3_12,ha5_12,ha6_12⟩:=RecRp.sh hr12;refine .quiet (.p rfl) rfl (fun _=>.loadAgg isAgg102 zC rfl hp12) ?_;refine OD.call0 (.p rfl) zC rfl zC rfl rfl ((r8right_c hr12)) ?_;rintro _ _ ⟨rfl,rfl⟩
    try simp only [zx1,zx2,zx3]
    refine OD.sT 14 rfl (by exact e1) ?_;refine .quiet (.p rfl) rfl (fun _=>.not rfl)<|OD.q 3 rfl<|OD.ib (.g rfl rfl) underlying22 size102 rfl rfl rfl har hg (h:=fun p19 cs19 hp19 hrr19=>?_);have hr19:=Rp.rel.mono hrr19 hg;obtain ⟨ra3_19,ra5_19,ra6_19,rc3_19,rc5_19,rc6_19,rfl,ho0_19,ho1_19,ho2_19,ha3_19,ha5_19,ha6_19⟩:=RecRp.sh hr19;refine .quiet (.g rfl rfl) rfl (fun _=>.fieldAddr fld102x0 rfl)<|.quiet (.g rfl rfl) rfl (fun _=>.loadAt flat9 rfl hp19 rfl) ?_;refine OD.q 1 rfl<|OD.ib (.g rfl rfl) underlying22 size102 rfl rfl (show _=(((0):Nat):Int) by omega) har hg (h:=fun p23 cs23 hp23 hrr23=>?_);have hr23:=Rp.rel.mono hrr23 hg;obtain ⟨ra3_23,ra5_23,ra6_23,rc3_23,rc5_23,rc6_23,rfl,ho0_23,ho1_23,ho2_23,ha3_23,ha5_23,ha6_23⟩:=RecRp.sh hr23;refine .quiet (.g rfl rfl) rfl (fun _=>.fieldAddr fld102x0 rfl)<|.quiet (.g rfl rfl) rfl (fun _=>.loadAt flat9 rfl hp23 rfl) ?_;refine .quiet (.g rfl rfl) rfl (fun _=>.neqS rfl rfl)<|OD.sT 26 rfl (by simp [e2]) ?_;refine OD.q 1 rfl<|ODx.nil<|S.condT rfl<|S.seq<|S.region rfl<|O.q 1 rfl<|O.nil ?_;exact S.rt results229 rfl hR ⟨by rw [hno],rfl⟩
 ·clear ih
  have hi:i=l.length:=by omega
  subst hi;rw [List.take_length] at hx2;refine S.exit rfl<|S.seq<|S.region rfl<|O.q 1 rfl<|O.nil ?_;exact S.rt results229 rfl hR ⟨by rw [hx2],rfl⟩
theorem r9right_c {r:Fr} {va:Value} {l:List RecT} (ha:Arr RecRp r va l):Con prog 148 #[va] r [] (Ret fun v η=>v=.bool (decide (SRight l))∧η=[]):=by
 have har:=ha;have hS:=SRight_iff (l:=l);refine Con.of (n:=49) _ rfl func148 rfl rfl rfl fun g hg R hR=>?_;have ha:=ha.mono hg;have hbd:=ha.bound;obtain ⟨a1,c1,rfl⟩:=ha.shape
 cases e0:oneK l with
 |false =>
  refine S.seq<|S.region rfl<|O.q 1 rfl<|O.nil<|S.seq<|S.seq<|S.region rfl<|O.q 1 rfl<|O.call0 (.p rfl) rfl zC rfl rfl ((r9one_c ha)) ?_;rintro _ _ ⟨rfl,rfl⟩
  try simp only [zx1,zx2,zx3]
  refine O.sF 6 rfl (by exact e0) ?_;refine O.op (.p rfl) (.not rfl)<|O.nil<|S.condT rfl<|S.seq<|S.region rfl<|O.q 1 rfl<|O.nil ?_;exact S.rt results148 rfl hR ⟨congrArg _ (decide_eq_false fun q=>by rw [e0] at hS;exact absurd (hS.1 q).1 zI).symm,rfl⟩
 |true =>
  refine S.seq<|S.region rfl<|O.q 1 rfl<|O.nil<|S.seq<|S.seq<|S.region rfl<|O.q 1 rfl<|O.call0 (.p rfl) rfl zC rfl rfl ((r9one_c ha)) ?_;rintro _ _ ⟨rfl,rfl⟩
  try simp only [zx1,zx2,zx3]
  refine O.sT 6 rfl (by exact e0) ?_;refine O.op (.p rfl) (.not rfl)<|O.nil<|S.condF rfl<|S.skip<|S.seq<|S.seq<|S.region rfl<|O.q 1 rfl<|O.nil<|S.block<|S.loopK (ι:=Nat) (fun i=>i≤l.length∧∀ j (h:j<l.length),j<i→(∀ h0:0<j,cmpR l[j-1] l[j]<0)∧∀ k (hk:k<l.length),over l[j] l[k]=false) (fun i=>[(3,.int .i64 (i:Int))]) [(0,_)] (fun i=>[]) (fun i=>l.length - i) (0) (by exact ⟨by simp,fun j h q=>absurd q zB⟩) (.cons rfl (.nil)) (.cons rfl (.nil)) rfl fun i hx ih=>?_;have hm1:=meltRefl (g:=g);obtain ⟨hx1,hx2⟩:=hx;refine S.seq<|S.seq<|S.region rfl<|O.q 2 rfl<|O.op (.p rfl) (.len rfl underlying22 rfl)<|O.op (.p rfl) (.lss rfl rfl)<|O.nil ?_
  first|refine S.condD rfl (fun h11=>?_) (fun h11=>?_)|refine S.condB rfl (fun h11=>?_) (fun h11=>?_)
  ·have hi:i<l.length:=by omega
   by_cases c1:0<i∧∃ hk:i - 1<l.length,¬ cmpR l[i - 1] l[i]<0
   ·obtain ⟨c2,hk,c3⟩:=c1
    refine S.skip<|S.seq<|S.block<|S.seq<|S.seq<|S.regionD (L:=[0,1,2,3,4,5,6,7,8,9,10,11,12,13,14]) F.mixed zC<|OD.q 1 rfl<|.quiet (.p rfl) rfl (fun _=>.gtr rfl rfl)<|OD.sT 15 rfl (by exact decide_eq_true zB) ?_;refine OD.q 3 rfl<|.quiet (.g rfl rfl) rfl (fun _=>.sub rfl rfl (IntWalk.i64_in _ zB))<|OD.ib (.g rfl rfl) underlying22 size102 rfl rfl (show _=(((i - 1):Nat):Int) by omega) har hg (h:=fun p20 cs20 hp20 hrr20=>?_);have hr20:=Rp.rel.mono hrr20 hg;obtain ⟨ra3_20,ra5_20,ra6_20,rc3_20,rc5_20,rc6_20,rfl,ho0_20,ho1_20,ho2_20,ha3_20,ha5_20,ha6_20⟩:=RecRp.sh hr20;refine .quiet (.g rfl rfl) rfl (fun _=>.loadAgg isAgg102 zC rfl hp20) ?_;refine OD.q 2 rfl<|OD.ib (.g rfl rfl) underlying22 size102 rfl rfl rfl har hg (h:=fun p24 cs24 hp24 hrr24=>?_);have hr24:=Rp.rel.mono hrr24 hg;obtain ⟨ra3_24,ra5_24,ra6_24,rc3_24,rc5_24,rc6_24,rfl,ho0_24,ho1_24,ho2_24,ha3_24,ha5_24,ha6_24⟩:=RecRp.sh hr24;refine .quiet (.g rfl rfl) rfl (fun _=>.loadAgg isAgg102 zC rfl hp24) ?_;refine OD.call0 (.g rfl rfl) zC rfl zC rfl rfl ((r9ahead_c hr20 hr24)) ?_;rintro _ _ ⟨rfl,rfl⟩
    try simp only [zx1,zx2,zx3]
    refine OD.sF 26 rfl (by exact decide_eq_false c3) ?_;refine .quiet (.g rfl rfl) rfl (fun _=>.not rfl)<|OD.q 1 rfl<|ODx.nil<|S.condT rfl<|S.seq<|S.region rfl<|O.q 1 rfl<|O.nil ?_;exact S.rt results148 rfl hR ⟨congrArg _ (decide_eq_false fun q=>c3 (((hS.1 q).2 i hi).1 c2)).symm,rfl⟩
   ·have hup:∀ h0:0<i,cmpR l[i - 1] l[i]<0:=fun h0=>Classical.byContradiction fun q=>c1 ⟨h0,by omega,q⟩
    have hk:i - 1<l.length:=by omega
    refine S.skip<|S.seq<|S.block<|S.seq<|S.seq<|S.cut2 (fun (u:Unit)=>True) (fun (u:Unit)=>[]) [(0,_),(3,_)] (fun (u:Unit)=>[]) (.cons rfl (.cons rfl (.nil))) (fun key=>?_) (fun u hx=>?_)
    ·have hm2:=meltRefl (g:=g)
     by_cases c2:0<i
     ·
      refine S.regionD (L:=[0,1,2,3,4,5,6,7,8,9,10,11,12,13,14]) F.mixed zC ?_;refine OD.q 1 rfl<|.quiet (.p rfl) rfl (fun _=>.gtr rfl rfl)<|OD.sT 15 rfl (by exact decide_eq_true zB) ?_;refine OD.q 3 rfl<|.quiet (.g rfl rfl) rfl (fun _=>.sub rfl rfl (IntWalk.i64_in _ zB))<|OD.ib (.g rfl rfl) underlying22 size102 rfl rfl (show _=(((i - 1):Nat):Int) by omega) har hg (h:=fun p20 cs20 hp20 hrr20=>?_);have hr20:=Rp.rel.mono hrr20 hg;obtain ⟨ra3_20,ra5_20,ra6_20,rc3_20,rc5_20,rc6_20,rfl,ho0_20,ho1_20,ho2_20,ha3_20,ha5_20,ha6_20⟩:=RecRp.sh hr20;refine .quiet (.g rfl rfl) rfl (fun _=>.loadAgg isAgg102 zC rfl hp20) ?_;refine OD.q 2 rfl<|OD.ib (.g rfl rfl) underlying22 size102 rfl rfl rfl har hg (h:=fun p24 cs24 hp24 hrr24=>?_);have hr24:=Rp.rel.mono hrr24 hg;obtain ⟨ra3_24,ra5_24,ra6_24,rc3_24,rc5_24,rc6_24,rfl,ho0_24,ho1_24,ho2_24,ha3_24,ha5_24,ha6_24⟩:=RecRp.sh hr24;refine .quiet (.g rfl rfl) rfl (fun _=>.loadAgg isAgg102 zC rfl hp24) ?_;refine OD.call0 (.g rfl rfl) zC rfl zC rfl rfl ((r9ahead_c hr20 hr24)) ?_;rintro _ _ ⟨rfl,rfl⟩
      try simp only [zx1,zx2,zx3]
      refine OD.sT 26 rfl (by exact decide_eq_true (hup c2)) ?_;refine .quiet (.g rfl rfl) rfl (fun _=>.not rfl)<|OD.q 1 rfl<|ODx.nil<|S.condF rfl<|S.skip<|S.pk ?_ (S.weaken ?_ (key (()) (by trivial)))
      ·repeat (first|exact zpa|exact zpn|(apply zpc;focus (repeat (first|exact zh|apply zt)))|apply zps)
      repeat (first|exact Sub.nil|refine Sub.cons rfl ?_)
     ·
      refine S.regionD (L:=[0,1,2,3,4,5,6,7,8,9,10,11,12,13,14]) F.mixed zC ?_;refine OD.q 1 rfl<|.quiet (.p rfl) rfl (fun _=>.gtr rfl rfl)<|OD.sF 15 rfl (by exact decide_eq_false zB) ?_;refine OD.q 13 rfl<|ODx.nil<|S.condF rfl<|S.skip<|S.pk ?_ (S.weaken ?_ (key (()) (by trivial)))
      ·repeat (first|exact zpa|exact zpn|(apply zpc;focus (repeat (first|exact zh|apply zt)))|apply zps)
      repeat (first|exact Sub.nil|refine Sub.cons rfl ?_)
    ·refine S.seq<|S.region rfl<|O.q 1 rfl<|O.nil<|S.block<|S.loopK (ι:=Nat) (fun k=>k≤l.length∧∀ j (h:j<l.length),j<k→over l[i] l[j]=false) (fun k=>[(4,.int .i64 (k:Int))]) [(0,_),(3,_)] (fun k=>[]) (fun k=>l.length - k) (0) (by exact ⟨by simp,fun j h q=>absurd q zB⟩) (.cons rfl (.nil)) (.cons rfl (.cons rfl (.nil))) rfl fun k hx ih=>?_
     have hm2:=meltRefl (g:=g);obtain ⟨hy1,hy2⟩:=hx;refine S.seq<|S.seq<|S.region rfl<|O.q 2 rfl<|O.op (.p rfl) (.len rfl underlying22 rfl)<|O.op (.p rfl) (.lss rfl rfl)<|O.nil ?_
     first|refine S.condD rfl (fun h32=>?_) (fun h32=>?_)|refine S.condB rfl (fun h32=>?_) (fun h32=>?_)
     ·have hkk:k<l.length:=by omega
      by_cases d1:i=k
      ·have hself:over l[i] l[k]=false:=by subst d1;exact over_self _
       refine S.skip<|S.seq<|S.block<|S.seq<|S.regionD (L:=[0,1,2,3,4,5,6,7,8,9,10,11,12,13]) F.mixed zC<|OD.q 2 rfl<|.quiet (.p rfl) rfl (fun _=>.neq rfl rfl)<|OD.sF 37 rfl (by exact decide_eq_false zB) ?_;refine OD.q 11 rfl<|ODx.nil<|S.condF rfl<|S.skip<|S.inBlock<|S.region rfl<|O.q 1 rfl<|O.op (.p rfl) (.add rfl rfl (IntWalk.i64_in _ zB))<|O.q 1 rfl<|O.nil ?_;exact S.wk (ih (k+1) (by exact ⟨by omega,lt_step hy2 fun _=>hself⟩) zB)
      ·cases d2:over l[i] l[k] with
       |true =>
        refine S.skip<|S.seq<|S.block<|S.seq<|S.regionD (L:=[0,1,2,3,4,5,6,7,8,9,10,11,12,13]) F.mixed zC<|OD.q 2 rfl<|.quiet (.p rfl) rfl (fun _=>.neq rfl rfl)<|OD.sT 37 rfl (by exact decide_eq_true zB) ?_;refine OD.q 3 rfl<|OD.ib (.g rfl rfl) underlying22 size102 rfl rfl rfl har hg (h:=fun p41 cs41 hp41 hrr41=>?_);have hr41:=Rp.rel.mono hrr41 hg;obtain ⟨ra3_41,ra5_41,ra6_41,rc3_41,rc5_41,rc6_41,rfl,ho0_41,ho1_41,ho2_41,ha3_41,ha5_41,ha6_41⟩:=RecRp.sh hr41;refine .quiet (.g rfl rfl) rfl (fun _=>.loadAgg isAgg102 zC rfl hp41) ?_;refine OD.q 2 rfl<|OD.ib (.g rfl rfl) underlying22 size102 rfl rfl rfl har hg (h:=fun p45 cs45 hp45 hrr45=>?_);have hr45:=Rp.rel.mono hrr45 hg;obtain ⟨ra3_45,ra5_45,ra6_45,rc3_45,rc5_45,rc6_45,rfl,ho0_45,ho1_45,ho2_45,ha3_45,ha5_45,ha6_45⟩:=RecRp.sh hr45;refine .quiet (.g rfl rfl) rfl (fun _=>.loadAgg isAgg102 zC rfl hp45) ?_;refine OD.call0 (.g rfl rfl) zC rfl zC rfl rfl ((r8over_c hr41 hr45)) ?_;rintro _ _ ⟨rfl,rfl⟩
        try simp only [zx1,zx2,zx3]
        refine OD.sT 47 rfl (by exact d2) ?_;refine OD.q 1 rfl<|ODx.nil<|S.condT rfl<|S.seq<|S.region rfl<|O.q 1 rfl<|O.nil ?_;exact S.rt results148 rfl hR ⟨congrArg _ (decide_eq_false fun q=>by rw [((hS.1 q).2 i hi).2 k hkk] at d2;cases d2).symm,rfl⟩
       |false =>
        refine S.skip<|S.seq<|S.block<|S.seq<|S.regionD (L:=[0,1,2,3,4,5,6,7,8,9,10,11,12,13]) F.mixed zC<|OD.q 2 rfl<|.quiet (.p rfl) rfl (fun _=>.neq rfl rfl)<|OD.sT 37 rfl (by exact decide_eq_true zB) ?_;refine OD.q 3 rfl<|OD.ib (.g rfl rfl) underlying22 size102 rfl rfl rfl har hg (h:=fun p41 cs41 hp41 hrr41=>?_);have hr41:=Rp.rel.mono hrr41 hg;obtain ⟨ra3_41,ra5_41,ra6_41,rc3_41,rc5_41,rc6_41,rfl,ho0_41,ho1_41,ho2_41,ha3_41,ha5_41,ha6_41⟩:=RecRp.sh hr41;refine .quiet (.g rfl rfl) rfl (fun _=>.loadAgg isAgg102 zC rfl hp41) ?_;refine OD.q 2 rfl<|OD.ib (.g rfl rfl) underlying22 size102 rfl rfl rfl har hg (h:=fun p45 cs45 hp45 hrr45=>?_);have hr45:=Rp.rel.mono hrr45 hg;obtain ⟨ra3_45,ra5_45,ra6_45,rc3_45,rc5_45,rc6_45,rfl,ho0_45,ho1_45,ho2_45,ha3_45,ha5_45,ha6_45⟩:=RecRp.sh hr45;refine .quiet (.g rfl rfl) rfl (fun _=>.loadAgg isAgg102 zC rfl hp45) ?_;refine OD.call0 (.g rfl rfl) zC rfl zC rfl rfl ((r8over_c hr41 hr45)) ?_;rintro _ _ ⟨rfl,rfl⟩
        try simp only [zx1,zx2,zx3]
        refine OD.sF 47 rfl (by exact d2) ?_;refine OD.q 1 rfl<|ODx.nil<|S.condF rfl<|S.skip<|S.inBlock<|S.region rfl<|O.q 1 rfl<|O.op (.p rfl) (.add rfl rfl (IntWalk.i64_in _ zB))<|O.q 1 rfl<|O.nil ?_;exact S.wk (ih (k+1) (by exact ⟨by omega,lt_step hy2 fun _=>d2⟩) zB)
     ·clear ih
      have hkk:k=l.length:=by omega
      refine S.exit rfl<|S.inBlock<|S.region rfl<|O.q 1 rfl<|O.op (.p rfl) (.add rfl rfl (IntWalk.i64_in _ zB))<|O.q 1 rfl<|O.nil ?_;exact S.wk (ih (i+1) (by exact ⟨by omega,lt_step hx2 fun _=>⟨hup,fun k hk=>hy2 k hk zB⟩⟩) zB)
  ·clear ih
   have hi:i=l.length:=by omega
   subst hi;refine S.exit rfl<|S.seq<|S.region rfl<|O.q 1 rfl<|O.nil ?_;exact S.rt results148 rfl hR ⟨congrArg _ (decide_eq_true (hS.2 ⟨e0,fun j h=>hx2 j h h⟩)).symm,rfl⟩
end Go.Proofs.YtojafegjlahajaaGreatDoor
