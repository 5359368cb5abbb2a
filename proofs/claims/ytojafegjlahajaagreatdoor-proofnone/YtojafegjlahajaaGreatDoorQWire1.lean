/- Texts of this proof. -/
import Derived.Test.YtojafegjlahajaaGreatDoorQSha2
import Derived.Test.YtojafegjlahajaaGreatDoorQSpDel
open Go Go.Sp Go.Proofs.Tryz
set_option maxRecDepth 100000
set_option maxHeartbeats 1000000
attribute [local irreducible] obj Own OwnP
namespace Go.Proofs.YtojafegjlahajaaGreatDoor
def hashC (M:List UInt8) (a:Option Addr) (c:Nat):List Value:=w64s (feed shaH M)++[.slice a (remB M).length c,.int .u64 (M.length:Int),.bool true]
theorem hashC_x (M:List UInt8) (a:Option Addr) (c:Nat):∃ x0 x1 x2 x3 x4 x5 x6 x7,feed shaH M=[x0,x1,x2,x3,x4,x5,x6,x7]∧hashC M a c=[.int .u64 (x0.toNat:Int),.int .u64 (x1.toNat:Int),.int .u64 (x2.toNat:Int),.int .u64 (x3.toNat:Int),.int .u64 (x4.toNat:Int),.int .u64 (x5.toNat:Int),.int .u64 (x6.toNat:Int),.int .u64 (x7.toNat:Int),.slice a (remB M).length c,.int .u64 (M.length:Int),.bool true]:=by
 obtain ⟨x0,x1,x2,x3,x4,x5,x6,x7,h⟩:=list8 (feed_len shaH M rfl);exact ⟨x0,x1,x2,x3,x4,x5,x6,x7,h,by rw [hashC,h];rfl⟩
theorem hash_left {v:List U64} {y:Value} {rest:List Value} (hv:v.length=8):(w64s v++y::rest)[8]?=some y:=by
 rw [List.getElem?_append_right (by rw [w64s_length];omega),w64s_length,hv];rfl
theorem hash_set {v:List U64} {y z:Value} {rest:List Value} (hv:v.length=8):(w64s v++y::rest).set 8 z=w64s v++z::rest:=by
 rw [List.set_append_right _ _ (by rw [w64s_length];omega),w64s_length,hv];rfl
theorem hash_len {v:List U64} {y z w:Value} (hv:v.length=8):8<(w64s v++[y,z,w]).length:=by
 rw [List.length_append,w64s_length,hv];exact (show 8<8+3 by decide)
theorem there_c {r:Fr} {b:Nat} {M:List UInt8} {a:Option Addr} {c:Nat} (h:At r ⟨b,0,none⟩ (hashC M a c)):Con prog 210 #[.pointer (some ⟨b,0,none⟩)] r [] (Ret fun v η=>v=.bool true∧η=[]):=by
 obtain ⟨x0,x1,x2,x3,x4,x5,x6,x7,hx,hc⟩:=hashC_x M a c;rw [hc] at h;refine Con.of (n:=11) _ rfl func210 rfl rfl rfl fun g hg R hR=>?_;have h:=h.mono hg;refine S.seq<|S.region rfl<|O.q 1 rfl<|O.nil<|S.seq<|S.region rfl<|O.q 1 rfl<|O.op (.p rfl) (.neqP underlying192 rfl rfl)<|O.sT 4 rfl zG ?_;refine O.q 2 rfl<|O.op (.g rfl rfl) (.nilCheck rfl)<|O.op (.g rfl rfl) (.fieldAddr fld278x3 rfl)<|O.op (.g rfl rfl) (.loadAt flat4 rfl (h.drop 10) rfl) ?_;refine O.sT 9 rfl zG ?_;refine O.q 2 rfl<|O.nil ?_;exact S.rt results210 rfl hR ⟨rfl,rfl⟩
theorem write_c {r:Fr} {bh:Nat} {va:Value} {M:List UInt8} {a:Option Addr} {c:Nat} {ps:List (List UInt8)} (hp:Arr (Rp.slice Rp.u8) r va ps) (hK:At r ⟨1,0,none⟩ (w64s shaK)) (hl:M.length+ps.flatten.length≤1000000000000) :
  Con prog 127 #[.pointer (some ⟨bh,0,none⟩),va] r [obj bh 278 (hashC M a c),OwnP Rp.u8 5 (.slice a (remB M).length c) (remB M)]
   (Ret fun v η=>∃ a' c',v=.int .i64 0∧η=[obj bh 278 (hashC (M++ps.flatten) a' c'),OwnP Rp.u8 5 (.slice a' (remB (M++ps.flatten)).length c') (remB (M++ps.flatten))]):=by
 have hpr:=hp;obtain ⟨a1,c1,rfl⟩:=hp.shape;have hpb:=hp.bound;refine Con.of (n:=99) _ rfl func127 rfl rfl rfl fun g hg R hR=>?_;have hp:=hp.mono hg;have hK:=hK.mono hg;have hg_o:=hg;have hR_o:=hR
 try have hp_o:=hp
 try have hK_o:=hK
 refine S.frzH (B:=obj bh 278 (hashC M a c)) zB fun go hso ⟨mo,hmo,hsmo⟩ hbo=>?_;replace hg:=Fr.sub_trans hg hso;replace hR:=backR hR hbo
 try replace hp:=hp.mono hso
 try replace hK:=hK.mono hso
 have hat:=(obj_at hmo).mono hsmo;refine S.seq<|S.region rfl<|O.q 1 rfl<|O.nil<|S.seq<|S.seq<|S.region rfl<|O.q 1 rfl<|O.call0 (.p rfl) rfl zD rfl rfl ((there_c hat)) ?_;rintro _ _ ⟨rfl,rfl⟩
 try simp only [zx1,zx2,zx3]
 refine O.sT 9 rfl zG ?_;refine O.op (.p rfl) (.not rfl)<|O.nil<|S.condF rfl<|S.skip<|S.seq<|S.seq<|S.back hbo ?_;replace hg:=hg_o;replace hR:=hR_o
 try replace hp:=hp_o
 try replace hK:=hK_o
 clear hg_o hR_o;refine S.region rfl<|O.q 1 rfl<|O.op (.p rfl) (.len rfl underlying109 rfl)<|O.q 1 rfl<|O.nil<|S.block<|S.loopK3 (ι:=Nat) (κ:=Option Addr × Nat) (υ:=List UInt8) (fun i s Q=>i≤ps.length∧Q=M++(ps.take i).flatten) (fun i s Q=>[(13,.int .i64 (i:Int))]) [(0,_),(11,_),(12,_)] (fun i s Q=>[obj bh 278 (hashC Q s.1 s.2),OwnP Rp.u8 5 (.slice s.1 (remB Q).length s.2) (remB Q)]) (fun i s Q=>ps.length - i) (0) ((a,c)) (M) (by exact ⟨by simp,by simp⟩) (.cons rfl (.nil)) (.cons rfl (.cons rfl (.cons rfl (.nil)))) rfl fun i s Q hx ih=>?_;have hm1:=meltRefl (g:=g);obtain ⟨hx1,hQ⟩:=hx;refine S.seq<|S.region rfl<|O.op (.p rfl) (.lss rfl rfl)<|O.nil (S.seq ?_)
 first|refine S.condD rfl (fun h14=>?_) (fun h14=>?_)|refine S.condB rfl (fun h14=>?_) (fun h14=>?_)
 ·have hi:i<ps.length:=by omega
  have hst:Q++ps[i]=M++(ps.take (i+1)).flatten:=by rw [hQ,List.append_assoc,List.take_succ_eq_append_getElem hi,List.flatten_append];simp
  have hql:Q.length+ps[i].length≤1000000000000:=by
   have h1:=congrArg List.length hst;have h2:=congrArg (fun l=>(List.flatten l).length) (List.take_append_drop (i+1) ps);simp only [List.flatten_append,List.length_append] at h1 h2
   omega
  have hrl:(remB Q).length<128:=by rw [remB_len];omega
  obtain ⟨x0,x1,x2,x3,x4,x5,x6,x7,hx,hc⟩:=hashC_x Q s.1 s.2;refine S.skip<|S.seq<|S.block<|S.seq<|S.region rfl<|O.ib (.p rfl) underlying109 size24 rfl rfl rfl hpr hg (h:=fun p15 cs15 hp15 hrr15=>?_);have hr15:=Rp.rel.mono hrr15 hg;obtain ⟨v15,rfl,hq15⟩:=hr15;obtain ⟨a15,c15,rfl⟩:=hq15.shape;refine O.op (.p rfl) (.loadAt flat24 rfl hp15 rfl) ?_;refine O.q 1 rfl<|O.nil (S.seq ?_);generalize ps[i]=p at *;refine S.objIs (b:=bh) (cs' :=[.int .u64 (x0.toNat:Int),.int .u64 (x1.toNat:Int),.int .u64 (x2.toNat:Int),.int .u64 (x3.toNat:Int),.int .u64 (x4.toNat:Int),.int .u64 (x5.toNat:Int),.int .u64 (x6.toNat:Int),.int .u64 (x7.toNat:Int),.slice s.1 (remB Q).length s.2,.int .u64 (Q.length:Int),.bool true]) zB hc ?_;refine S.region rfl<|O.q 1 rfl<|O.op (.p rfl) (.nilCheck rfl)<|O.op (.p rfl) (.fieldObj fld278x2 rfl)<|O.op (.p rfl) (.lo flat274) ?_;refine O.q 1 rfl<|O.op (.p rfl) (.len rfl underlying24 rfl)<|O.op (.p rfl) (.cvt underlying3 underlying274 rfl)<|O.slot 23 (v' :=.int .u64 (p.length:Int)) rfl (by rw [wrapN zC]) ?_;refine O.op (.p rfl) (.addW rfl rfl)<|O.slot 24 (v' :=.int .u64 ((Q.length+p.length:Nat):Int)) rfl (by rw [← Int.natCast_add,wrapN zC]) ?_;refine O.op (.p rfl) (.nilCheck rfl)<|O.op (.p rfl) (.fieldObj fld278x2 rfl)<|O.opU rfl (.store1 flat274 rfl rfl zN zB zH) ?_
  refine O.nil<|S.seq<|S.seq<|S.region rfl<|O.q 1 rfl<|O.op (.p rfl) (.nilCheck rfl)<|O.op (.p rfl) (.fieldObj fld278x1 rfl)<|O.op (.p rfl) (.lo flat24) ?_;refine O.op (.p rfl) (.len rfl underlying24 rfl)<|O.op (.p rfl) (.sub rfl rfl (IntWalk.i64_in _ zC))<|O.q 1 rfl<|O.op (.p rfl) (.len rfl underlying24 rfl)<|O.op (.p rfl) (.min2 rfl rfl)<|O.slot 35 (v' :=.int .i64 ((min (128 - (remB Q).length) p.length:Nat):Int)) rfl (by exact congrArg (Value.int .i64) (by split<;>omega)) ?_;refine O.q 1 rfl<|O.nil (S.seq ?_);have hn1:min (128 - (remB Q).length) p.length≤p.length:=by omega
  have hn2:(remB Q).length+min (128 - (remB Q).length) p.length≤128:=by omega
  have hn3:(remB Q).length+min (128 - (remB Q).length) p.length<128→min (128 - (remB Q).length) p.length=p.length:=by omega
  generalize min (128 - (remB Q).length) p.length=n at *;refine S.objIs (b:=bh) (cs' :=[.int .u64 (x0.toNat:Int),.int .u64 (x1.toNat:Int),.int .u64 (x2.toNat:Int),.int .u64 (x3.toNat:Int),.int .u64 (x4.toNat:Int),.int .u64 (x5.toNat:Int),.int .u64 (x6.toNat:Int),.int .u64 (x7.toNat:Int),.slice s.1 (remB Q).length s.2,.int .u64 ((Q.length+p.length:Nat):Int),.bool true]) zB rfl ?_;refine S.cut2 (fun (x:(List UInt8 × List UInt8) × (Option Addr × Nat) × (Option Addr × Nat))=>remB x.1.1=[]∧x.1.1++x.1.2=Q++p∧Arr Rp.u8 g.h (.slice x.2.2.1 x.1.2.length x.2.2.2) x.1.2) (fun (x:(List UInt8 × List UInt8) × (Option Addr × Nat) × (Option Addr × Nat))=>[(6,.slice x.2.2.1 x.1.2.length x.2.2.2)]) [(0,_),(11,_),(12,_),(13,_)] (fun (x:(List UInt8 × List UInt8) × (Option Addr × Nat) × (Option Addr × Nat))=>[obj bh 278 (w64s (feed shaH x.1.1)++[.slice x.2.1.1 0 x.2.1.2,.int .u64 ((Q.length+p.length:Nat):Int),.bool true]),OwnP Rp.u8 5 (.slice x.2.1.1 0 x.2.1.2) []]) (.cons rfl (.cons rfl (.cons rfl (.cons rfl (.nil))))) (fun key=>?_) (fun x hx=>?_)
  ·have hm2:=meltRefl (g:=g)
   refine S.region rfl<|O.q 1 rfl<|O.op (.p rfl) (.nilCheck rfl)<|O.op (.p rfl) (.fieldObj fld278x1 rfl)<|O.op (.p rfl) (.lo flat24) ?_;refine O.op (.p rfl) (.len rfl underlying24 rfl)<|O.op (.p rfl) (.gtr rfl rfl)<|O.nil ?_
   first|refine S.condD rfl (fun h41=>?_) (fun h41=>?_)|refine S.condB rfl (fun h41=>?_) (fun h41=>?_)
   ·refine S.seq<|S.regionD (L:=[0,1,2,3,5,6,7,9,10,11,4,8,12,13,14,15]) mixedF zD ?_
    refine OD.q 2 rfl<|.quiet (.p rfl) rfl (fun _=>.nilCheck rfl)<|.quiet (.p rfl) rfl (fun _=>.fieldObj fld278x1 rfl)<|OD.q 2 rfl<|OD.sliceTo (b:=n) (.p rfl) underlying24 size5 rfl rfl zE zI zI (fun u49 ha49=>?_);obtain ⟨a49,c49,rfl⟩:=ha49.shape;refine OD.q 2 rfl<|OD.sliceFrom (a:=n) (.p rfl) underlying24 size5 rfl rfl zE zI zI (fun u53 ha53=>?_);obtain ⟨a53,c53,rfl⟩:=ha53.shape;refine OD.loadL (.p rfl) zD (fun _=>.loadObj flat24 rfl zB zG) ?_;refine OD.appendP (.p rfl) zD (T:=Rp.u8) pure_u8 underlying24 elem5 zF rfl rfl zB (by first|assumption|exact Arr.mono hg zE|exact Arr.left zE|exact Arr.left (Arr.mono hg zE)) zI zI (fun a50 c50=>?_);refine .quiet (.p rfl) rfl (fun _=>.nilCheck rfl)<|.quiet (.p rfl) rfl (fun _=>.fieldObj fld278x1 rfl)<|OD.store1 rfl zD flat24 rfl rfl zN zB zH ?_;refine OD.q 1 rfl<|ODx.nil (S.seq (S.seq ?_));have htl:(p.take n).length=n:=by rw [List.length_take];omega
    have hal:(remB Q++p.take n).length=(remB Q).length+n:=by rw [List.length_append,htl]
    refine S.region rfl<|O.q 1 rfl<|O.op (.p rfl) (.nilCheck rfl)<|O.op (.p rfl) (.fieldObj fld278x1 rfl)<|O.op (.p rfl) (.lo flat24) ?_;refine O.op (.p rfl) (.len rfl underlying24 rfl)<|O.op (.p rfl) (.lss rfl rfl)<|O.nil ?_
    first|refine S.condD rfl (fun h61=>?_) (fun h61=>?_)|refine S.condB rfl (fun h61=>?_) (fun h61=>?_)
    ·have hlt:(remB Q).length+n<128:=by omega
     have hnp:=hn3 hlt;have htp:p.take n=p:=List.take_of_length_le zC;obtain ⟨e1,e2⟩:=feed_part shaH (b:=Q) (c:=p) (by rw [← htp,hal];exact hlt);have hml:(Q++p).length=Q.length+p.length:=List.length_append;have hE:(remB Q).length+(p.take n).length=(remB (Q++p)).length:=by rw [e2,List.length_append,htp]
     refine S.objIs (b:=bh) (cs' :=hashC (Q++p) a50 c50) zB (by rw [hE,hashC,e1,hx,hml];rfl) ?_;refine S.ownIs (T:=Rp.u8) (e:=5) (v' :=.slice a50 (remB (Q++p)).length c50) (xs' :=remB (Q++p)) zB (by rw [hE]) (by rw [e2,htp]) ?_;refine S.exit rfl<|S.region rfl<|O.op (.p rfl) (.add rfl rfl (IntWalk.i64_in _ zC))<|O.q 1 rfl<|O.nil ?_;exact S.pw (ih (i+1) ((a50,c50)) (Q++p) (by exact ⟨by omega,hst⟩) zC)
    ·have heq:(remB Q++p.take n).length=128:=by rw [hal];omega
     obtain ⟨e1,e2⟩:=feed_full shaH (b:=Q) (c:=p.take n) heq;rw [hx] at e1;have hg_l:=hg;have hR_l:=hR
     try have hp_l:=hp
     try have hK_l:=hK
     try have hp15_l:=hp15
     try have hr15_l:=hr15
     try have hq15_l:=hq15
     try have ha49_l:=ha49
     try have ha53_l:=ha53
     refine S.frzH (B:=OwnP Rp.u8 5 (.slice a50 ((remB Q).length+(p.take n).length) c50) (remB Q++p.take n)) zB fun gl hsl ⟨ml,hml,hsml⟩ hbl=>?_;replace hg:=Fr.sub_trans hg hsl;replace hR:=backR hR hbl
     try replace hp:=hp.mono hsl
     try replace hK:=hK.mono hsl
     try replace hp15:=hp15.mono hsl
     try replace hr15:=hr15.mono hsl
     try replace hq15:=hq15.mono hsl
     try replace ha49:=ha49.mono hsl
     try replace ha53:=ha53.mono hsl
     have hla:=(OwnP.arr hml).mono hsml;refine S.skip<|S.seq<|S.regionD (L:=[0,1,2,3,4,5,6,7]) mixedF zD ?_;refine OD.q 1 rfl<|.quiet (.p rfl) rfl (fun _=>.nilCheck rfl)<|.quiet (.p rfl) rfl (fun _=>.fieldObj fld278x0 rfl)<|OD.q 1 rfl<|.quiet (.p rfl) rfl (fun _=>.nilCheck rfl)<|.quiet (.p rfl) rfl (fun _=>.fieldObj fld278x1 rfl)<|OD.loadL (.p rfl) zD (fun _=>.loadObj flat24 rfl zB zG) ?_;refine OD.callS (.p rfl) zD rfl zD rfl rfl zB (block_c (T:=278) (v:=[x0,x1,x2,x3,x4,x5,x6,x7]) (rest:=[.slice a50 ((remB Q).length+(p.take n).length) c50,.int .u64 ((Q.length+p.length:Nat):Int),.bool true]) rfl hla heq hK) ?_;rintro _ _ ⟨rfl,rfl⟩
     try simp only [zx1,zx2,zx3]
     refine ODx.nil<|S.back hbl ?_;replace hg:=hg_l;replace hR:=hR_l
     try replace hp:=hp_l
     try replace hK:=hK_l
     try replace hp15:=hp15_l
     try replace hr15:=hr15_l
     try replace hq15:=hq15_l
     try replace ha49:=ha49_l
     try replace ha53:=ha53_l
     clear hg_l hR_l;have hvl:(shaBlk [x0,x1,x2,x3,x4,x5,x6,x7] (remB Q++p.take n)).length=8:=shaBlk_len _ _ rfl;refine S.region rfl<|O.q 2 rfl<|O.op (.p rfl) (.nilCheck rfl)<|O.op (.p rfl) (.fieldObj fld278x1 rfl)<|O.op (.p rfl) (.loadObj flat24 rfl zB (hash_left hvl)) ?_;refine O.op (.p rfl) (.sliceTo0 (T:=Rp.u8) (q:=0) underlying24 size5 rfl rfl rfl (Nat.zero_le _))<|O.op (.p rfl) (.nilCheck rfl)<|O.op (.p rfl) (.fieldObj fld278x1 rfl)<|O.opU rfl (.store1 flat24 rfl rfl rfl zB (hash_len hvl)) ?_;refine O.nil<|S.objIs (b:=bh) (cs' :=w64s (feed shaH (Q++p.take n))++[.slice a50 0 c50,.int .u64 ((Q.length+p.length:Nat):Int),.bool true]) zB (by rw [hash_set hvl,e1]) ?_;refine S.conv (B:=OwnP Rp.u8 5 (.slice a50 ((remB Q).length+(p.take n).length) c50) (remB Q++p.take n)) (C:=OwnP Rp.u8 5 (.slice a50 0 c50) []) zB (fun h x=>⟨h,Fr.sub_refl _,OwnP.take (ys:=remB Q++p.take n) rfl x⟩) ?_;refine S.pk ?_ (S.weaken ?_ (key (((Q++p.take n,p.drop n),(a50,c50),(a53,c53))) (by exact ⟨e2,by rw [List.append_assoc,List.take_append_drop],ha53⟩)))
     ·repeat (first|exact zpa|exact zpn|(apply zpc;focus (repeat (first|exact zh|apply zt)))|apply zps)
     repeat (first|exact Sub.nil|refine Sub.cons rfl ?_)
   ·have h0:remB Q=[]:=List.eq_nil_of_length_eq_zero zC
    have h00:(remB Q).length=0:=by rw [h0];rfl
    refine S.objIs (b:=bh) (cs' :=w64s (feed shaH Q)++[.slice s.1 0 s.2,.int .u64 ((Q.length+p.length:Nat):Int),.bool true]) zB (by rw [h00,hx];rfl) ?_;refine S.ownIs (T:=Rp.u8) (e:=5) (v' :=.slice s.1 0 s.2) (xs' :=[]) zB (by rw [h00]) h0 ?_;refine S.skip<|S.pk ?_ (S.weaken ?_ (key (((Q,p),s,(a15,c15))) (by exact ⟨h0,rfl,hq15⟩)))
    ·repeat (first|exact zpa|exact zpn|(apply zpc;focus (repeat (first|exact zh|apply zt)))|apply zps)
    repeat (first|exact Sub.nil|refine Sub.cons rfl ?_)
  ·obtain ⟨⟨M1,p1⟩,⟨al,cl⟩,⟨a6,c6⟩⟩:=x
   obtain ⟨h0,h1,h2⟩:=hx;simp only at h0 h1 h2 ⊢;obtain ⟨f1,f2⟩:=feed_zero shaH (b:=M1) (c:=p1) h0;rw [h1] at f1 f2;refine S.seq<|S.block<|S.loopK2 (ι:=Nat) (κ:=Option Addr × Nat) (fun k u=>128*k≤p1.length∧Arr Rp.u8 g.h (.slice u.1 (p1.drop (128*k)).length u.2) (p1.drop (128*k))) (fun k u=>[(6,.slice u.1 (p1.drop (128*k)).length u.2)]) [(0,_),(11,_),(12,_),(13,_)] (fun k u=>[obj bh 278 (w64s (feedN (feed shaH M1) p1 k)++[.slice al 0 cl,.int .u64 ((Q.length+p.length:Nat):Int),.bool true]),OwnP Rp.u8 5 (.slice al 0 cl) []]) (fun k u=>p1.length - k) (0) ((a6,c6)) (by exact ⟨by omega,h2⟩) (.cons rfl (.nil)) (.cons rfl (.cons rfl (.cons rfl (.cons rfl (.nil))))) rfl fun k u hx ih=>?_;have hm2:=meltRefl (g:=g);obtain ⟨hk1,hk2⟩:=hx;have hdl:(p1.drop (128*k)).length=p1.length - 128*k:=List.length_drop;have hvk:(feedN (feed shaH M1) p1 k).length=8:=feedN_len _ _ (feed_len _ _ rfl) k;refine S.seq<|S.seq<|S.region rfl<|O.q 1 rfl<|O.op (.p rfl) (.len rfl underlying24 rfl)<|O.op (.p rfl) (.geq rfl rfl)<|O.nil ?_
   first|refine S.condD rfl (fun h80=>?_) (fun h80=>?_)|refine S.condB rfl (fun h80=>?_) (fun h80=>?_)
   ·have hk3:128*(k+1)≤p1.length:=by omega
    have hdd:(p1.drop (128*k)).drop 128=p1.drop (128*(k+1)):=by rw [List.drop_drop,Nat.mul_succ]
    refine S.skip<|S.seq<|S.block<|S.regionD (L:=[0,1,2,3,4,5]) mixedF zD<|OD.q 1 rfl<|.quiet (.p rfl) rfl (fun _=>.nilCheck rfl)<|.quiet (.p rfl) rfl (fun _=>.fieldObj fld278x0 rfl)<|OD.q 1 rfl<|OD.sliceTo (b:=128) (.p rfl) underlying24 size5 rfl rfl zE zI zI (fun u87 ha87=>?_);obtain ⟨a87,c87,rfl⟩:=ha87.shape;refine OD.callS (.p rfl) zD rfl zD rfl rfl zB (block_c (T:=278) (v:=feedN (feed shaH M1) p1 k) (rest:=[.slice al 0 cl,.int .u64 ((Q.length+p.length:Nat):Int),.bool true]) hvk ha87 (by rw [List.length_take];omega) hK) ?_;rintro _ _ ⟨rfl,rfl⟩
    try simp only [zx1,zx2,zx3]
    refine ODx.nil<|S.inBlock<|S.region rfl<|O.q 1 rfl<|O.sliceFrom (a:=128) (.p rfl) underlying24 size5 rfl rfl zE zI zI (fun u82 ha82=>?_);obtain ⟨a82,c82,rfl⟩:=ha82.shape;refine O.q 1 rfl<|O.nil ?_;rw [hdd] at ha82 ⊢;exact S.pw (ih (k+1) ((a82,c82)) (by exact ⟨by omega,ha82⟩) zC)
   ·clear ih
    have hkk:k=p1.length / 128:=by omega
    have hfk:feedN (feed shaH M1) p1 k=feed shaH (Q++p):=by rw [hkk];exact f1.symm
    have hrk:p1.drop (128*k)=remB (Q++p):=by rw [hkk];exact f2.symm
    have hml:(Q++p).length=Q.length+p.length:=List.length_append;refine S.exit rfl ?_;rw [hfk,hrk];rw [hrk] at hk2 hdl;have hvk' :(feed shaH (Q++p)).length=8:=feed_len _ _ rfl;refine S.region rfl<|O.q 2 rfl<|O.op (.p rfl) (.nilCheck rfl)<|O.op (.p rfl) (.fieldObj fld278x1 rfl)<|O.op (.p rfl) (.loadObj flat24 rfl zB (hash_left hvk')) ?_;refine O.q 1 rfl<|O.opE (.p rfl) (.appendP (T:=Rp.u8) pure_u8 underlying24 elem5 zF rfl rfl zB (by first|assumption|exact Arr.mono hg zE|exact Arr.left zE|exact Arr.left (Arr.mono hg zE)) zI zI) ?_;rintro _ _ ⟨a95,c95,rfl,rfl⟩;refine O.op (.p rfl) (.nilCheck rfl)<|O.op (.p rfl) (.fieldObj fld278x1 rfl)<|O.opU rfl (.store1 flat24 rfl rfl rfl zB (hash_len hvk')) ?_;refine O.nil<|S.inBlock<|S.objIs (b:=bh) (cs' :=hashC (Q++p) a95 c95) zB (by rw [hash_set hvk',hashC,hml,List.length_nil,Nat.zero_add]) ?_;refine S.ownIs (T:=Rp.u8) (e:=5) (v' :=.slice a95 (remB (Q++p)).length c95) (xs' :=remB (Q++p)) zB (by rw [List.length_nil,Nat.zero_add]) (by rw [List.nil_append]) ?_;refine S.region rfl<|O.op (.p rfl) (.add rfl rfl (IntWalk.i64_in _ zC))<|O.q 1 rfl<|O.nil ?_;exact S.pw (ih (i+1) ((a95,c95)) (Q++p) (by exact ⟨by omega,hst⟩) zC)
 ·clear ih
  have hi:i=ps.length:=by omega
  subst hi;rw [List.take_length] at hQ;subst hQ;refine S.exit rfl<|S.seq<|S.region rfl<|O.q 1 rfl<|O.nil ?_;exact S.rt results127 rfl hR ⟨s.1,s.2,rfl,rfl⟩
theorem set_be (n:Int) (i:Nat) (h:i<8):(List.replicate (8 - i) (0:UInt8)++(be n).drop (8 - i)).set (7 - i) (beAt n i)=List.replicate (8 - (i+1)) 0++(be n).drop (8 - (i+1)):=by
 match i,h with
 |0,_|1,_|2,_|3,_|4,_|5,_|6,_|7,_=>rfl
theorem wNumber_c {r:Fr} (n:Int):Con prog 147 #[.int .i64 n] r [] (Ret fun v η=>∃ a c,v=.slice a 8 c∧η=[OwnP Rp.u8 5 v (be n)]):=by
 refine Con.of (n:=23) _ rfl func147 rfl rfl rfl fun g hg R hR=>?_;refine S.seq<|S.region rfl<|O.q 1 rfl<|O.nil<|S.seq<|S.region rfl<|O.opE (.p rfl) (.makeP (T:=Rp.u8) (0:UInt8) (m:=8) underlying24 elem5 zF rfl rfl rfl rfl rfl zF zF) ?_;rintro _ _ ⟨a,c,rfl,rfl⟩;refine O.q 1 rfl<|O.nil<|S.seq<|S.seq<|S.region rfl<|O.q 1 rfl<|O.op (.p rfl) (.len rfl underlying24 rfl)<|O.q 1 rfl<|O.nil<|S.block<|S.loopK (ι:=Nat) (fun i=>i≤8) (fun i=>[(8,.int .i64 (i:Int))]) [(0,_),(3,_),(7,_)] (fun i=>[OwnP Rp.u8 5 (.slice a 8 c) (List.replicate (8 - i) 0++(be n).drop (8 - i))]) (fun i=>8 - i) (0) zL (.cons rfl (.nil)) (.cons rfl (.cons rfl (.cons rfl (.nil)))) rfl fun i hx ih=>?_;have hm1:=meltRefl (g:=g);refine S.seq<|S.region rfl<|O.op (.p rfl) (.lss rfl rfl)<|O.nil (S.seq ?_)
 first|refine S.condD rfl (fun h9=>?_) (fun h9=>?_)|refine S.condB rfl (fun h9=>?_) (fun h9=>?_)
 ·refine S.skip<|S.seq<|S.block<|S.seq<|S.region rfl<|O.q 2 rfl<|O.nil<|S.region rfl<|O.q 2 rfl<|O.op (.p rfl) (.sub rfl rfl (IntWalk.i64_in _ zC))<|O.q 1 rfl<|O.op (.p rfl) (.cvt underlying3 underlying274 rfl)<|O.q 1 rfl<|O.op (.p rfl) (.mul rfl rfl (IntWalk.i64_in _ zC))<|O.op (.p rfl) (.shr rfl rfl zC)<|O.op (.p rfl) (.cvt underlying274 underlying5 rfl)<|O.opE (.p rfl) (.idxOwn (T:=Rp.u8) underlying24 size5 rfl rfl (show _=(((7 - i):Nat):Int) by omega) zB zR) ?_
  rintro _ _ ⟨p20,rfl,hp20,rfl⟩;refine O.opU rfl (.storeOwn size5 rfl hp20 rfl zB zR (show _=_ by simp only [Value.cells,byteV];rw [shift_byte n i zC _ rfl]:Rp.rel _ _ _ (beAt n i))) ?_;refine O.nil<|S.inBlock<|S.region rfl<|O.op (.p rfl) (.add rfl rfl (IntWalk.i64_in _ zC))<|O.q 1 rfl<|O.nil ?_;rw [set_be n i zC];exact S.wk (ih (i+1) zC zC)
 ·refine S.exit rfl<|S.seq<|S.region rfl<|O.q 2 rfl<|O.nil<|S.ret results147 rfl fun w hw=>hR _ _ w ?_ hw
  have:i=8:=by omega
  subst this;exact ⟨a,c,rfl,rfl⟩
theorem cloneB_c {r:Fr} {va:Value} {xs:List UInt8} (ha:Arr Rp.u8 r va xs) (hl:xs.length≤140737488355328) :
  Con prog 95 #[va] r [] (Ret fun v η=>∃ a c,v=.slice a xs.length c∧η=[OwnP Rp.u8 5 v xs]):=by
 refine Con.of (n:=8) _ rfl func95 rfl rfl rfl fun g hg R hR=>?_;have ha:=ha.mono hg;obtain ⟨a1,c1,rfl⟩:=ha.shape
 cases a1 with
 |none =>
  refine S.seq<|S.region rfl<|O.q 1 rfl<|O.nil<|S.seq<|S.seq<|S.region rfl<|O.q 1 rfl<|O.op (.p rfl) (.eqlNil underlying24 rfl rfl)<|O.nil<|S.condT rfl<|S.seq<|S.region rfl<|O.q 1 rfl<|O.nil ?_;obtain ⟨rfl,_,rfl⟩:=Arr.nil_of zF ha;refine S.addNil (T:=Rp.u8) (e:=5) ?_;refine S.ret results95 rfl fun w hw=>hR _ _ w ?_ hw;exact ⟨none,0,rfl,rfl⟩
 |some a1 =>
  refine S.seq<|S.region rfl<|O.q 1 rfl<|O.nil<|S.seq<|S.seq<|S.region rfl<|O.q 1 rfl<|O.op (.p rfl) (.eqlNil underlying24 rfl rfl)<|O.nil<|S.condF rfl<|S.skip<|S.seq<|S.region rfl<|O.opE (.p rfl) (.litP (T:=Rp.u8) (ys:=[]) underlying24 elem5 zF rfl rfl trivial zF) ?_;rintro _ _ ⟨a5,c5,rfl,rfl⟩;refine O.q 1 rfl<|O.opE (.p rfl) (.appendP (T:=Rp.u8) pure_u8 underlying24 elem5 zF rfl rfl zB (by first|assumption|exact Arr.mono hg zE|exact Arr.left zE|exact Arr.left (Arr.mono hg zE)) zI zI) ?_;rintro _ _ ⟨a7,c7,rfl,rfl⟩;refine O.q 1 rfl<|O.nil<|S.ret results95 rfl fun w hw=>hR _ _ w ?_ hw;exact ⟨a7,c7,by simp,by simp⟩
theorem growB0_c {r:Fr} (m:Nat) (hm:m≤140737488355328):Con prog 289 #[.slice none 0 0,.int .i64 (m:Int)] r [] (Ret fun v η=>∃ a c,v=.slice a 0 c∧η=[OwnP Rp.u8 5 v []]):=by
 refine Con.of (n:=27) _ rfl func289 rfl rfl rfl fun g hg R hR=>?_;refine S.seq<|S.region rfl<|O.q 1 rfl<|O.nil<|S.seq<|S.seq<|S.region rfl<|O.q 1 rfl<|O.op (.p rfl) (.lss rfl rfl)<|O.nil ?_
 first|refine S.condD rfl (fun h6=>?_) (fun h6=>?_)|refine S.condB rfl (fun h6=>?_) (fun h6=>?_)
 ·exact absurd h6 zC
 ·refine S.skip<|S.seq<|S.seq<|S.region rfl<|O.q 2 rfl<|O.op (.p rfl) (.cap rfl underlying24 rfl)<|O.q 1 rfl<|O.op (.p rfl) (.len rfl underlying24 rfl)<|O.op (.p rfl) (.sub rfl rfl (IntWalk.i64_in _ zC))<|O.op (.p rfl) (.sub rfl rfl (IntWalk.i64_in _ zC))<|O.q 1 rfl<|O.nil<|S.seq<|S.region rfl<|O.q 1 rfl<|O.op (.p rfl) (.gtr rfl rfl)<|O.nil ?_
  first|refine S.condD rfl (fun h16=>?_) (fun h16=>?_)|refine S.condB rfl (fun h16=>?_) (fun h16=>?_)
  ·refine S.region rfl<|O.q 2 rfl<|O.op (.p rfl) (.cap rfl underlying24 rfl)<|O.op (.p rfl) (.sliceNil underlying24 size5 rfl rfl rfl)<|O.q 1 rfl<|O.opE (.p rfl) (.appendZ0 (T:=Rp.u8) (a:=0) (m:=m) underlying24 underlying3 elem5 zF rfl rfl rfl zC zC zC zC) ?_
   rintro _ _ ⟨a22,c22,rfl,rfl⟩;refine O.q 1 rfl<|O.op (.p rfl) (.len rfl underlying24 rfl)<|O.opE (.p rfl) (.cutOwn (T:=Rp.u8) (m:=0) underlying24 size5 rfl rfl rfl zB zC) ?_;rintro _ _ ⟨a25,c25,rfl,rfl⟩;refine O.q 1 rfl<|O.nil<|S.seq<|S.region rfl<|O.q 2 rfl<|O.nil<|S.ret results289 rfl fun w hw=>hR _ _ w ?_ hw;exact ⟨a25,c25,rfl,by simp⟩
  ·have hm0:m=0:=by omega
   subst hm0;refine S.addNil (T:=Rp.u8) (e:=5) ?_;refine S.skip<|S.seq<|S.region rfl<|O.q 2 rfl<|O.nil<|S.ret results289 rfl fun w hw=>hR _ _ w ?_ hw;exact ⟨none,0,rfl,rfl⟩
theorem flat_len_q (xss:List (List UInt8)) (i:Nat) (h:i<xss.length):(xss.take (i+1)).flatten=(xss.take i).flatten++xss[i]:=by
 rw [List.take_succ_eq_append_getElem h,List.flatten_append,List.flatten_singleton]
theorem flat_le (xss:List (List UInt8)) (i:Nat):(xss.take i).flatten.length≤xss.flatten.length:=by
 have:xss.flatten=(xss.take i).flatten++(xss.drop i).flatten:=by rw [← List.flatten_append,List.take_append_drop]
 rw [this,List.length_append];omega
theorem concatB_c {r:Fr} {va:Value} {xss:List (List UInt8)} (ha:Arr (Rp.slice Rp.u8) r va xss) (hl:xss.flatten.length≤140737488355328) :
  Con prog 216 #[va] r [] (Ret fun v η=>∃ a c,v=.slice a xss.flatten.length c∧η=[OwnP Rp.u8 5 v xss.flatten]):=by
 refine Con.of (n:=36) _ rfl func216 rfl rfl rfl fun g hg R hR=>?_;have ha:=ha.mono hg;have hbd:=ha.bound;obtain ⟨a1,c1,rfl⟩:=ha.shape;refine S.seq<|S.region rfl<|O.q 1 rfl<|O.nil<|S.seq<|S.region rfl<|O.q 1 rfl<|O.nil<|S.seq<|S.seq<|S.region rfl<|O.q 1 rfl<|O.op (.p rfl) (.len rfl underlying109 rfl)<|O.q 1 rfl<|O.nil<|S.block<|S.loopK2 (ι:=Nat) (κ:=Nat) (fun i s=>i≤xss.length∧s=(xss.take i).flatten.length) (fun i s=>[(11,.int .i64 (i:Int)),(3,.int .i64 (s:Int))]) [(0,_),(9,_),(10,_)] (fun i s=>[]) (fun i s=>xss.length - i) (0) (0) zL (.cons rfl (.cons rfl (.nil))) (.cons rfl (.cons rfl (.cons rfl (.nil)))) rfl fun i s hx ih=>?_;have hm1:=meltRefl (g:=g);obtain ⟨hx1,hs⟩:=hx;refine S.seq<|S.region rfl<|O.op (.p rfl) (.lss rfl rfl)<|O.nil (S.seq ?_)
 first|refine S.condD rfl (fun h12=>?_) (fun h12=>?_)|refine S.condB rfl (fun h12=>?_) (fun h12=>?_)
 ·have hi:i<xss.length:=by omega
  have h1:=flat_len_q xss i hi;have h2:=flat_le xss (i+1);have h3:(xss.take (i+1)).flatten.length=(xss.take i).flatten.length+xss[i].length:=by rw [h1,List.length_append]
  refine S.skip<|S.seq<|S.block<|S.seq<|S.region rfl<|O.ia (.p rfl) underlying109 size24 rfl rfl rfl (by first|assumption|exact Arr.mono hg zE|exact Arr.left zE|exact Arr.left (Arr.mono hg zE)) (h:=fun p13 cs13 hp13 hr13=>?_);obtain ⟨v13,rfl,ha13⟩:=hr13;obtain ⟨a13,c13,rfl⟩:=ha13.shape;refine O.op (.p rfl) (.loadAt flat24 rfl hp13 rfl) ?_;refine O.q 1 rfl<|O.nil<|S.seq<|S.region rfl<|O.q 2 rfl<|O.op (.p rfl) (.len rfl underlying24 rfl)<|O.op (.p rfl) (.add rfl rfl (IntWalk.i64_in _ zC))<|O.q 1 rfl<|O.nil<|S.seq<|S.region rfl<|O.q 1 rfl<|O.op (.p rfl) (.lss rfl rfl)<|O.nil ?_
  first|refine S.condD rfl (fun h20=>?_) (fun h20=>?_)|refine S.condB rfl (fun h20=>?_) (fun h20=>?_)
  ·exact absurd h20 zC
  ·refine S.skip<|S.inBlock<|S.region rfl<|O.op (.p rfl) (.add rfl rfl (IntWalk.i64_in _ zC))<|O.q 1 rfl<|O.nil ?_
   exact S.wk (ih (i+1) (s+xss[i].length) zC zC)
 ·have hi:i=xss.length:=by omega
  subst hi;rw [List.take_length] at hs;subst hs;refine S.exit rfl<|S.seq<|S.region rfl<|O.q 1 rfl<|O.call0 (.p rfl) rfl zD rfl rfl (growB0_c xss.flatten.length zC) ?_;rintro _ _ ⟨a24,c24,rfl,rfl⟩
  try simp only [zx1,zx2,zx3]
  refine O.q 1 rfl<|O.nil<|S.seq<|S.seq<|S.region rfl<|O.q 1 rfl<|O.op (.p rfl) (.len rfl underlying109 rfl)<|O.q 1 rfl<|O.nil<|S.block<|S.loopK4 (ι:=Nat) (κ:=Option Addr) (υ:=Nat) (τ:=Nat) (fun i a6 m6 c6=>i≤xss.length∧m6=(xss.take i).flatten.length) (fun i a6 m6 c6=>[(27,.int .i64 (i:Int)),(6,.slice a6 m6 c6)]) [(25,_),(26,_)] (fun i a6 m6 c6=>[OwnP Rp.u8 5 (.slice a6 m6 c6) (xss.take i).flatten]) (fun i a6 m6 c6=>xss.length - i) (0) (a24) (0) (c24) zL (.cons rfl (.cons rfl (.nil))) (.cons rfl (.cons rfl (.nil))) rfl fun i a6 m6 c6 hx ih=>?_;have hm2:=meltRefl (g:=g);obtain ⟨hx1,hs⟩:=hx;refine S.seq<|S.region rfl<|O.op (.p rfl) (.lss rfl rfl)<|O.nil (S.seq ?_)
  first|refine S.condD rfl (fun h28=>?_) (fun h28=>?_)|refine S.condB rfl (fun h28=>?_) (fun h28=>?_)
  ·have hi:i<xss.length:=by omega
   have h1:=flat_len_q xss i hi;have h2:=flat_le xss (i+1);have h3:(xss.take (i+1)).flatten.length=(xss.take i).flatten.length+xss[i].length:=by rw [h1,List.length_append]
   refine S.skip<|S.seq<|S.block<|S.seq<|S.region rfl<|O.ia (.p rfl) underlying109 size24 rfl rfl rfl (by first|assumption|exact Arr.mono hg zE|exact Arr.left zE|exact Arr.left (Arr.mono hg zE)) (h:=fun p29 cs29 hp29 hr29=>?_);obtain ⟨v29,rfl,ha29⟩:=hr29;obtain ⟨a29,c29,rfl⟩:=ha29.shape;refine O.op (.p rfl) (.loadAt flat24 rfl hp29 rfl) ?_;refine O.q 1 rfl<|O.nil<|S.region rfl<|O.q 2 rfl<|O.opE (.p rfl) (.appendP (T:=Rp.u8) pure_u8 underlying24 elem5 zF rfl rfl zB (by first|assumption|exact Arr.mono hg zE|exact Arr.left zE|exact Arr.left (Arr.mono hg zE)) zI zI) ?_;rintro _ _ ⟨a33,c33,rfl,rfl⟩;refine O.q 1 rfl<|O.nil<|S.inBlock<|S.region rfl<|O.op (.p rfl) (.add rfl rfl (IntWalk.i64_in _ zC))<|O.q 1 rfl<|O.nil ?_;rw [← h1];exact S.wk (ih (i+1) (a33) ((xss.take i).flatten.length+xss[i].length) (c33) zC zC)
  ·have hi:i=xss.length:=by omega
   subst hi;rw [List.take_length] at hs;subst hs;refine S.exit rfl<|S.seq<|S.region rfl<|O.q 2 rfl<|O.nil<|S.ret results216 rfl fun w hw=>hR _ _ w ?_ hw;exact ⟨a6,c6,rfl,by rw [List.take_length]⟩
theorem wJoin_c {r:Fr} {va:Value} {xss:List (List UInt8)} (ha:Arr (Rp.slice Rp.u8) r va xss) (hl:xss.flatten.length≤140737488355328) :
  Con prog 134 #[va] r [] (Ret fun v η=>∃ a c,v=.slice a xss.flatten.length c∧η=[OwnP Rp.u8 5 v xss.flatten]):=by
 refine Con.of (n:=5) _ rfl func134 rfl rfl rfl fun g hg R hR=>?_;have ha:=ha.mono hg;obtain ⟨a1,c1,rfl⟩:=ha.shape;refine S.seq<|S.region rfl<|O.q 1 rfl<|O.nil<|S.seq<|S.region rfl<|O.q 1 rfl<|O.call0 (.p rfl) rfl zD rfl rfl (concatB_c (by first|assumption|exact Arr.mono hg zE|exact Arr.left zE|exact Arr.left (Arr.mono hg zE)) zI) ?_;rintro _ _ ⟨a4,c4,rfl,rfl⟩
 try simp only [zx1,zx2,zx3]
 refine O.q 1 rfl<|O.nil<|S.ret results134 rfl fun w hw=>hR _ _ w ?_ hw;exact ⟨a4,c4,rfl,rfl⟩
theorem wBytes_c {r:Fr} {va:Value} {xs:List UInt8} (ha:Arr Rp.u8 r va xs) (hl:xs.length≤100000000000000) :
  Con prog 80 #[va] r [] (Ret fun v η=>∃ a c,v=.slice a (bytesOf xs).length c∧η=[OwnP Rp.u8 5 v (bytesOf xs)]):=by
 refine Con.of (n:=9) _ rfl func80 rfl rfl rfl fun g hg R hR=>?_;have ha:=ha.mono hg;obtain ⟨a1,c1,rfl⟩:=ha.shape;refine S.seq<|S.region rfl<|O.q 1 rfl<|O.nil<|S.seq<|S.region rfl<|O.q 1 rfl<|O.op (.p rfl) (.len rfl underlying24 rfl)<|O.call0 (.p rfl) rfl zD rfl rfl (wNumber_c _) ?_;rintro _ _ ⟨a5,c5,rfl,rfl⟩
 try simp only [zx1,zx2,zx3]
 refine O.q 1 rfl<|O.opE (.p rfl) (.litP (T:=Rp.val) (ys:=[_,_]) underlying109 elem24 zF rfl rfl ⟨⟨rfl,rfl⟩,⟨rfl,rfl⟩,trivial⟩ zF) ?_;rintro _ _ ⟨a7,c7,rfl,rfl⟩;refine O.callB (.p rfl) rfl zD rfl rfl (bs:=[OwnP Rp.val 24 (.slice a7 2 c7) [.slice a5 8 c5,.slice a1 xs.length c1],OwnP Rp.u8 5 (.slice a5 8 c5) (be xs.length)]) zJ (fun m hm hd=>wJoin_c (xss:=[be xs.length,xs]) ((hm.arr.right hd).rows ⟨hm.tail.arr.right hd,ha.left,trivial⟩) (by simp [be_length];omega)) ?_;rintro _ _ ⟨a8,c8,rfl,rfl⟩
 try simp only [zx1,zx2,zx3]
 refine O.q 1 rfl<|O.nil<|S.ret results80 rfl fun w hw=>hR _ _ w ?_ hw.fst;exact ⟨a8,c8,by simp [bytesOf],by simp [bytesOf]⟩
theorem wNewReader_c {r:Fr} {va:Value} {xs:List UInt8} (ha:Arr Rp.u8 r va xs) (hl:xs.length≤140737488355328) :
  Con prog 343 #[va] r [] (Ret fun v η=>∃ b a c,v=.pointer (some ⟨b,0,none⟩)∧η=[obj b 441 [.slice a xs.length c,.bool true,.bool false],OwnP Rp.u8 5 (.slice a xs.length c) xs]):=by
 refine Con.of (n:=8) _ rfl func343 rfl rfl rfl fun g hg R hR=>?_;have ha:=ha.mono hg;obtain ⟨a1,c1,rfl⟩:=ha.shape;refine S.seq<|S.region rfl<|O.q 1 rfl<|O.nil<|S.seq<|S.region rfl<|O.q 1 rfl<|O.call0 (.p rfl) rfl zD rfl rfl (cloneB_c (by first|assumption|exact Arr.mono hg zE|exact Arr.left zE|exact Arr.left (Arr.mono hg zE)) zI) ?_;rintro _ _ ⟨a4,c4,rfl,rfl⟩
 try simp only [zx1,zx2,zx3]
 refine O.op (.p rfl) (.build (cs:=[_]) underlying439 rfl rfl rfl rfl rfl)<|O.op (.p rfl) (.build (cs:=[_,_,_]) underlying441 rfl rfl rfl rfl rfl)<|O.opE (.p rfl) (.box (cs:=[_,_,_]) rfl rfl) ?_;rintro _ _ ⟨b7,rfl,rfl⟩;refine O.q 1 rfl<|O.nil<|S.ret results343 rfl fun w hw=>hR _ _ w ?_ hw.fst2;exact ⟨b7,a4,c4,rfl,rfl⟩
theorem rGood_c {r:Fr} {b:Nat} {v:Value} {made bad:Bool}:Con prog 377 #[.pointer (some ⟨b,0,none⟩)] r [obj b 441 [v,.bool made,.bool bad]] (Ret fun u η=>u=.bool (made && !bad)∧η=[obj b 441 [v,.bool made,.bool bad]]):=by
 refine Con.of (n:=18) _ rfl func377 rfl rfl rfl fun g hg R hR=>?_;refine S.seq<|S.region rfl<|O.q 1 rfl<|O.nil<|S.seq<|S.region rfl<|O.q 1 rfl<|O.op (.p rfl) (.neqP underlying423 rfl rfl)<|O.q 2 rfl<|O.op (.g rfl rfl) (.nilCheck rfl)<|O.op (.g rfl rfl) (.fieldObj fld441x1 rfl)<|O.op (.g rfl rfl) (.lo flat4) ?_;refine O.q 2 rfl ?_
 first|refine O.caseD 11 rfl (fun h11=>?_) (fun h11=>?_)|refine O.caseB 11 rfl (fun h11=>?_) (fun h11=>?_)
 ·subst h11
  refine O.q 1 rfl<|O.op (.g rfl rfl) (.nilCheck rfl)<|O.op (.g rfl rfl) (.fieldObj fld441x2 rfl)<|O.op (.g rfl rfl) (.lo flat4) ?_;refine O.op (.g rfl rfl) ((by first|exact .notD rfl|exact .not rfl)) ?_;refine O.q 2 rfl<|O.nil<|S.ret results377 rfl fun w hw=>hR _ _ w ?_ hw;exact ⟨rfl,rfl⟩
 ·subst h11
  refine O.q 7 rfl<|O.nil<|S.ret results377 rfl fun w hw=>hR _ _ w ?_ hw;exact ⟨rfl,rfl⟩
theorem rDone_c {r:Fr} {b:Nat} {v:Value} {rest:List UInt8} {made bad:Bool} (ha:Arr Rp.u8 r v rest):Con prog 348 #[.pointer (some ⟨b,0,none⟩)] r [obj b 441 [v,.bool made,.bool bad]] (Ret fun u η=>u=.bool (decide ((made && !bad)=true∧rest=[]))∧η=[obj b 441 [v,.bool made,.bool bad]]):=by
 refine Con.of (n:=14) _ rfl func348 rfl rfl rfl fun g hg R hR=>?_;obtain ⟨a1,c1,rfl⟩:=ha.shape;refine S.seq<|S.region rfl<|O.q 1 rfl<|O.nil<|S.seq<|S.region rfl<|O.q 1 rfl<|O.callS (.p rfl) rfl zD rfl rfl zB rGood_c ?_;rintro _ _ ⟨rfl,rfl⟩
 try simp only [zx1,zx2,zx3]
 refine O.q 1 rfl ?_
 first|refine O.caseD 5 rfl (fun h5=>?_) (fun h5=>?_)|refine O.caseB 5 rfl (fun h5=>?_) (fun h5=>?_)
 ·refine O.q 1 rfl<|O.op (.g rfl rfl) (.nilCheck rfl)<|O.op (.g rfl rfl) (.fieldObj fld441x0 rfl)<|O.op (.g rfl rfl) (.fieldObj fld439x0 rfl)<|O.op (.g rfl rfl) (.lo flat24) ?_
  refine O.op (.g rfl rfl) (.len rfl underlying24 rfl)<|O.op (.g rfl rfl) (.eql rfl rfl)<|O.q 2 rfl<|O.nil<|S.ret results348 rfl fun w hw=>hR _ _ w ?_ hw;refine ⟨?_,rfl⟩
  simp [h5]
 ·refine O.q 9 rfl<|O.nil<|S.ret results348 rfl fun w hw=>hR _ _ w ?_ hw
  refine ⟨?_,rfl⟩
  simp [h5]
def missing:List PanicEntry:=[{ v:=.iface 459 (.agg #[]),recovered:=false }]
theorem must_c {r:Fr} (b:Bool):Con prog 391 #[.bool b] r [] (RetP (fun v η=>b=true∧v=.tuple #[]∧η=[]) (fun ch η=>b=false∧ch=missing∧η=[])):=by
 refine Con.of (n:=6) _ rfl func391 rfl rfl rfl fun g hg R hR=>?_;refine S.seq<|S.region rfl<|O.q 1 rfl<|O.op (.p rfl) ((by first|exact .notD rfl|exact .not rfl)) ?_;refine O.nil ?_
 first|refine S.condD rfl (fun h3=>?_) (fun h3=>?_)|refine S.condB rfl (fun h3=>?_) (fun h3=>?_)
 ·refine S.region rfl<|O.op (.p rfl) (.build (cs:=[]) underlying459 rfl rfl rfl rfl rfl)<|O.op (.p rfl) (.mkIface underlying459 rfl)<|O.panic rfl rfl (fun w hw=>?_)
  exact hR _ [] w ⟨by simpa using h3,rfl,rfl⟩ hw
 ·refine S.skip<|S.end0 results391 fun w hw=>hR _ _ w ?_ hw
  exact ⟨by simpa using h3,rfl,rfl⟩
theorem take_c {r:Fr} {b T:Nat} {v:Value} {cs:List Value} {rest:List UInt8} (n:Int) (ha:Arr Rp.u8 r v rest) :
  Con prog 372 #[.pointer (some ⟨b,0,none⟩),.int .i64 n] r [obj b T (v::cs)]
   (RetP (fun u η=>(0≤n∧n≤rest.length)∧∃ a c v',u=.slice a (rest.take n.toNat).length c∧Arr Rp.u8 r (.slice a (rest.take n.toNat).length c) (rest.take n.toNat)∧Arr Rp.u8 r v' (rest.drop n.toNat)∧η=[obj b T (v' ::cs)]) (fun ch η=>¬(0≤n∧n≤rest.length)∧ch=missing∧η=[obj b T (v::cs)])):=by
 refine Con.of (n:=34) _ rfl func372 rfl rfl rfl fun g hg R hR=>?_;have hbd:=ha.bound;obtain ⟨a1,c1,rfl⟩:=ha.shape;refine S.seq<|S.region rfl<|O.q 1 rfl<|O.nil<|S.seq<|S.region rfl<|O.q 1 rfl<|O.op (.p rfl) (.geq rfl rfl)<|O.q 1 rfl ?_
 first|refine O.caseD 8 rfl (fun h8=>?_) (fun h8=>?_)|refine O.caseB 8 rfl (fun h8=>?_) (fun h8=>?_)
 ·refine O.q 2 rfl<|O.op (.g rfl rfl) (.nilCheck rfl)<|O.op (.g rfl rfl) (.fieldObj fld439x0 rfl)<|O.op (.g rfl rfl) (.lo flat24) ?_
  refine O.op (.g rfl rfl) (.len rfl underlying24 rfl)<|O.op (.g rfl rfl) (.leq rfl rfl)<|O.q 1 rfl<|O.callP0 (.p rfl) rfl zD rfl rfl (must_c _) (fun ch η' w hX hW=>by (obtain ⟨hb,rfl,rfl⟩:=hX;exact hR _ _ w ⟨by simp at hb;omega,rfl,rfl⟩ hW)) ?_;rintro _ _ ⟨hb17,rfl,rfl⟩
  try simp only [zx1,zx2,zx3]
  have hb:0≤n∧n≤rest.length:=by simp at hb17;omega
  refine O.nil<|S.seq<|S.region rfl<|O.q 1 rfl<|O.op (.p rfl) (.nilCheck rfl)<|O.op (.p rfl) (.fieldObj fld439x0 rfl)<|O.op (.p rfl) (.lo flat24) ?_;refine O.q 1 rfl<|O.sliceTo (b:=n.toNat) (.p rfl) underlying24 size5 rfl rfl zE zI zI (fun u23 ha23=>?_);obtain ⟨a23,c23,rfl⟩:=ha23.shape;refine O.q 1 rfl<|O.nil<|S.seq<|S.region rfl<|O.q 2 rfl<|O.op (.p rfl) (.nilCheck rfl)<|O.op (.p rfl) (.fieldObj fld439x0 rfl)<|O.op (.p rfl) (.lo flat24) ?_;refine O.q 1 rfl<|O.sliceFrom (a:=n.toNat) (.p rfl) underlying24 size5 rfl rfl zE zI zI (fun u30 ha30=>?_);obtain ⟨a30,c30,rfl⟩:=ha30.shape;refine O.op (.p rfl) (.nilCheck rfl)<|O.op (.p rfl) (.fieldObj fld439x0 rfl)<|O.opU rfl (.store1 flat24 rfl rfl zN zB zH) ?_;refine O.nil<|S.seq<|S.region rfl<|O.q 2 rfl<|O.nil<|S.ret results372 rfl fun w hw=>hR _ _ w ?_ hw;exact ⟨hb,_,_,_,rfl,ha23,ha30,rfl⟩
 ·refine O.q 8 rfl<|O.callP0 (.p rfl) rfl zD rfl rfl (must_c _) (fun ch η' w hX hW=>by (obtain ⟨hb,rfl,rfl⟩:=hX;exact hR _ _ w ⟨by omega,rfl,rfl⟩ hW)) ?_
  rintro _ _ ⟨hb17,rfl,rfl⟩
  try simp only [zx1,zx2,zx3]
  exact absurd hb17 zL
theorem one_of {α:Type} {rest:List α} (h:(0:Int)≤1∧(1:Int)≤rest.length):∃ x xs,rest=x::xs:=by
 cases rest with
 |nil=>simp at h
 |cons x xs=>exact ⟨x,xs,rfl⟩
theorem none_of {α:Type} {rest:List α} (h:¬((0:Int)≤1∧(1:Int)≤rest.length)):rest=[]:=by
 cases rest with
 |nil=>rfl
 |cons x xs=>simp at h;omega
theorem one_c {r:Fr} {b T:Nat} {v:Value} {cs:List Value} {rest:List UInt8} (ha:Arr Rp.u8 r v rest) :
  Con prog 369 #[.pointer (some ⟨b,0,none⟩)] r [obj b T (v::cs)]
   (RetP (fun u η=>∃ x xs v',rest=x::xs∧u=byteV x∧Arr Rp.u8 r v' xs∧η=[obj b T (v' ::cs)]) (fun ch η=>rest=[]∧ch=missing∧η=[obj b T (v::cs)])):=by
 refine Con.of (n:=7) _ rfl func369 rfl rfl rfl fun g hg R hR=>?_;refine S.seq<|S.region rfl<|O.q 1 rfl<|O.nil<|S.seq<|S.region rfl<|O.q 1 rfl<|O.callPS (.p rfl) rfl zD rfl rfl zB ((take_c 1 ha).sub hg) (fun ch η' w hX hW=>by (obtain ⟨hb,rfl,rfl⟩:=hX;exact hR _ _ w ⟨none_of hb,rfl,rfl⟩ hW)) ?_;rintro v4 _ ⟨hb4,a4,c4,v4,rfl,ha4,ha4',rfl⟩
 try simp only [zx1,zx2,zx3]
 obtain ⟨x,xs,rfl⟩:∃ x xs,rest=x::xs:=one_of hb4;refine O.ia (.p rfl) underlying24 size5 rfl rfl (show _=((0:Nat):Int) from rfl) (by first|assumption|exact Arr.mono hg zE|exact Arr.left zE|exact Arr.left (Arr.mono hg zE)) (h:=fun p5 cs5 hp5 hr5=>?_)
 cases hr5
 refine O.op (.p rfl) (.loadAt flat5 rfl hp5 rfl) ?_;refine O.q 1 rfl<|O.nil<|S.ret results369 rfl fun w hw=>hR _ _ w ?_ hw;exact ⟨x,xs,_,rfl,rfl,ha4',rfl⟩
theorem number_c {r:Fr} {b T:Nat} {v:Value} {cs:List Value} {rest:List UInt8} (ha:Arr Rp.u8 r v rest) :
  Con prog 375 #[.pointer (some ⟨b,0,none⟩)] r [obj b T (v::cs)]
   (RetP (fun u η=>8≤rest.length∧∃ v',u=.int .i64 (ofBe rest)∧Arr Rp.u8 r v' (rest.drop 8)∧η=[obj b T (v' ::cs)]) (fun ch η=>rest.length<8∧ch=missing∧η=[obj b T (v::cs)])):=by
 refine Con.of (n:=21) _ rfl func375 rfl rfl rfl fun g hg R hR=>?_;refine S.seq<|S.region rfl<|O.q 1 rfl<|O.nil<|S.seq<|S.region rfl<|O.q 1 rfl<|O.nil<|S.seq<|S.seq<|S.region rfl<|O.q 1 rfl<|O.callPS (.p rfl) rfl zD rfl rfl zB ((take_c 8 ha).sub hg) (fun ch η' w hX hW=>by (obtain ⟨hb,rfl,rfl⟩:=hX;exact hR _ _ w ⟨by omega,rfl,rfl⟩ hW)) ?_;rintro v7 _ ⟨hb7,a7,c7,v7,rfl,ha7,ha7',rfl⟩
 try simp only [zx1,zx2,zx3]
 refine O.op (.p rfl) (.len rfl underlying24 rfl)<|O.q 1 rfl<|O.nil (S.block ?_);have hl8:(rest.take (Int.toNat 8)).length=8:=by simp;omega
 refine S.loopK (ι:=Nat) (fun i=>i≤8) (fun i=>[(9,.int .i64 (i:Int)),(3,.int .u64 (beVal (rest.take i):Nat))]) [(7,_),(8,_)] (fun i=>[obj b T (v7::cs)]) (fun i=>8 - i) (0) zL (.cons rfl (.cons rfl (.nil))) (.cons rfl (.cons rfl (.nil))) rfl fun i hx ih=>?_;have hm1:=meltRefl (g:=g);refine S.seq<|S.region rfl<|O.op (.p rfl) (.lss rfl rfl)<|O.nil (S.seq ?_)
 first|refine S.condD rfl (fun h10=>?_) (fun h10=>?_)|refine S.condB rfl (fun h10=>?_) (fun h10=>?_)
 ·have hi:i<8:=by omega
  refine S.skip<|S.seq<|S.block<|S.seq<|S.region rfl<|O.ia (.p rfl) underlying24 size5 rfl rfl rfl (by first|assumption|exact Arr.mono hg zE|exact Arr.left zE|exact Arr.left (Arr.mono hg zE)) (h:=fun p11 cs11 hp11 hr11=>?_)
  cases hr11
  refine O.op (.p rfl) (.loadAt flat5 rfl hp11 rfl) ?_;refine O.q 1 rfl<|O.nil<|S.region rfl<|O.q 1 rfl<|O.op (.p rfl) (.shl rfl rfl zC)<|O.q 1 rfl<|O.op (.p rfl) (.cvt underlying5 underlying274 rfl)<|O.op (.p rfl) (.or rfl rfl)<|O.q 1 rfl<|O.nil<|S.inBlock<|S.region rfl<|O.op (.p rfl) (.add rfl rfl (IntWalk.i64_in _ zC))<|O.q 1 rfl<|O.nil ?_;rw [or_byte _ _ (beVal_lt7 rest i hi),show (rest.take (Int.toNat 8))[i]=rest[i] from by simp,← beVal_take rest i zC];exact S.wk (ih (i+1) zC zC)
 ·have hi:i=8:=by omega
  subst hi;refine S.exit rfl<|S.seq<|S.region rfl<|O.q 1 rfl<|O.op (.p rfl) (.cvt underlying274 underlying3 rfl)<|O.q 1 rfl<|O.nil<|S.ret results375 rfl fun w hw=>hR _ _ w ?_ hw;exact ⟨by omega,v7,by rw [wrap_i64_eq _ (Nat.lt_of_lt_of_le (beVal_lt rest 8) zF)];rfl,ha7',rfl⟩
end Go.Proofs.YtojafegjlahajaaGreatDoor
