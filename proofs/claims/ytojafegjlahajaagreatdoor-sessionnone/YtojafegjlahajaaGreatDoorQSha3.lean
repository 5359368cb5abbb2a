/- Texts of this proof. -/
import Derived.Test.YtojafegjlahajaaGreatDoorQSha2
import Derived.Test.YtojafegjlahajaaGreatDoorQSpMapD
open Go Go.Sp Go.Proofs.Tryz
set_option maxRecDepth 100000
set_option maxHeartbeats 1000000
attribute [local irreducible] obj Own OwnP
namespace Go.Proofs.YtojafegjlahajaaGreatDoor
def hashC (M:List UInt8) (a:Option Addr) (c:Nat):List Value:=w64s (feed shaH M)++[.slice a (remB M).length c,.int .u64 (M.length:Int),.bool true]
theorem hashC_x (M:List UInt8) (a:Option Addr) (c:Nat):∃ x0 x1 x2 x3 x4 x5 x6 x7,feed shaH M=[x0,x1,x2,x3,x4,x5,x6,x7]∧hashC M a c=[.int .u64 (x0.toNat:Int),.int .u64 (x1.toNat:Int),.int .u64 (x2.toNat:Int),.int .u64 (x3.toNat:Int),.int .u64 (x4.toNat:Int),.int .u64 (x5.toNat:Int),.int .u64 (x6.toNat:Int),.int .u64 (x7.toNat:Int),.slice a (remB M).length c,.int .u64 (M.length:Int),.bool true]:=by
 obtain ⟨x0,x1,x2,x3,x4,x5,x6,x7,h⟩:=list8 (feed_len shaH M rfl);exact ⟨x0,x1,x2,x3,x4,x5,x6,x7,h,by rw [hashC,h];rfl⟩
theorem hash_left {v:List U64} {y:Value} {rest:List Value} (hv:v.length=8):(w64s v++y::rest)[8]?=some y:=by
 rw [List.getElem?_append_right (by rw [w64s_length];omega),w64s_length,hv];rfl
theorem hash_set {v:List U64} {y z:Value} {rest:List Value} (hv:v.length=8):(w64s v++y::rest).set 8 z=w64s v++z::rest:=by
 rw [List.set_append_right _ _ (by rw [w64s_length];omega),w64s_length,hv];rfl
theorem hash_len {v:List U64} {y z w:Value} (hv:v.length=8):8<(w64s v++[y,z,w]).length:=by
 rw [zla,w64s_length,hv];exact (show 8<8+3 by decide)
theorem there_c {r:Fr} {b:Nat} {M:List UInt8} {a:Option Addr} {c:Nat} (h:At r ⟨b,0,none⟩ (hashC M a c)):Con prog 210 #[.pointer (some ⟨b,0,none⟩)] r [] (Ret fun v η=>v=.bool true∧η=[]):=by
 obtain ⟨x0,x1,x2,x3,x4,x5,x6,x7,hx,hc⟩:=hashC_x M a c;rw [hc] at h;refine Con.o func210 fun g hg R hR=>?_;have h:=h.mono hg;refine zz 7 ?_;refine O.op (.p rfl) (.neqP underlying192 rfl rfl)<|O.sT 4 rfl zF ?_;refine zz 5 ?_;refine O.sT 9 rfl zF ?_;refine zz 3 ?_;exact S.rt results210 rfl hR ⟨rfl,rfl⟩
theorem write_c {r:Fr} {bh:Nat} {va:Value} {M:List UInt8} {a:Option Addr} {c:Nat} {ps:List (List UInt8)} (hp:Arr (Rp.slice Rp.u8) r va ps) (hK:At r ⟨1,0,none⟩ (w64s shaK)) (hl:M.length+ps.flatten.length≤1000000000000) :
  Con prog 127 #[.pointer (some ⟨bh,0,none⟩),va] r [obj bh 278 (hashC M a c),OwnP Rp.u8 5 (.slice a (remB M).length c) (remB M)]
   (Ret fun v η=>∃ a' c',v=.int .i64 0∧η=[obj bh 278 (hashC (M++ps.flatten) a' c'),OwnP Rp.u8 5 (.slice a' (remB (M++ps.flatten)).length c') (remB (M++ps.flatten))]):=by
 have hpr:=hp;obtain ⟨a1,c1,rfl⟩:=hp.shape;have hpb:=hp.bound;refine Con.o func127 fun g hg R hR=>?_;have hp:=hp.mono hg;have hK:=hK.mono hg;have hg_o:=hg;have hR_o:=hR
 try have hp_o:=hp
 try have hK_o:=hK
 refine S.frzH (B:=obj bh 278 (hashC M a c)) zC fun go hso ⟨mo,hmo,hsmo⟩ hbo=>?_;replace hg:=zfs hg hso;replace hR:=backR hR hbo
 try replace hp:=hp.mono hso
 try replace hK:=hK.mono hso
 have hat:=(obj_at hmo).mono hsmo;refine zz 8 ?_;refine O.v0 (.p rfl) rfl zD rfl rfl ((there_c hat)) ?_;refine O.sT 9 rfl zF ?_;refine zz 6 ?_;refine S.back hbo ?_;replace hg:=hg_o;replace hR:=hR_o
 try replace hp:=hp_o
 try replace hK:=hK_o
 clear hg_o hR_o;refine zz 6 ?_;refine S.loopK3 (ι:=Nat) (κ:=Option Addr × Nat) (υ:=List UInt8) (fun i s Q=>i≤ps.length∧Q=M++(ps.take i).flatten) (fun i s Q=>[(13,.int .i64 (i:Int))]) [(0,_),(11,_),(12,_)] (fun i s Q=>[obj bh 278 (hashC Q s.1 s.2),OwnP Rp.u8 5 (.slice s.1 (remB Q).length s.2) (remB Q)]) (fun i s Q=>ps.length - i) (0) ((a,c)) (M) (by exact ⟨by simp,by simp⟩) zq zq rfl fun i s Q hx ih=>?_;have hm1:=meltRefl (g:=g);obtain ⟨hx1,hQ⟩:=hx;refine zz 5 ?_;refine S.cd rfl (fun h14=>?_) fun h14=>?_
 ·have hi:i<ps.length:=by omega
  have hst:Q++ps[i]=M++(ps.take (i+1)).flatten:=by rw [hQ,zaa,ztg hi,List.flatten_append];simp
  have hql:Q.length+ps[i].length≤1000000000000:=by
   have h1:=congrArg List.length hst;have h2:=congrArg (fun l=>(List.flatten l).length) (List.take_append_drop (i+1) ps);simp only [List.flatten_append,zla] at h1 h2
   omega
  have hrl:(remB Q).length<128:=by rw [remB_len];omega
  obtain ⟨x0,x1,x2,x3,x4,x5,x6,x7,hx,hc⟩:=hashC_x Q s.1 s.2;refine zz 5 ?_;refine O.iy hpr hg (h:=fun p15 cs15 hp15 hrr15=>?_);have hr15:=Rp.rel.mono hrr15 hg;obtain ⟨v15,rfl,hq15⟩:=hr15;obtain ⟨a15,c15,rfl⟩:=hq15.shape;refine zz 4 ?_;generalize ps[i]=p at *;refine S.objIs (b:=bh) (cs' :=[.int .u64 (x0.toNat:Int),.int .u64 (x1.toNat:Int),.int .u64 (x2.toNat:Int),.int .u64 (x3.toNat:Int),.int .u64 (x4.toNat:Int),.int .u64 (x5.toNat:Int),.int .u64 (x6.toNat:Int),.int .u64 (x7.toNat:Int),.slice s.1 (remB Q).length s.2,.int .u64 (Q.length:Int),.bool true]) zC hc ?_;refine zz 7 ?_;refine O.op (.p rfl) (.cvt underlying3 underlying274 rfl)<|O.slot 23 (v' :=.int .u64 (p.length:Int)) rfl (by rw [wrapN zB]) ?_;refine O.op (.p rfl) (.addW rfl rfl)<|O.slot 24 (v' :=.int .u64 ((Q.length+p.length:Nat):Int)) rfl (by rw [← Int.natCast_add,wrapN zB]) ?_;refine zz 12 ?_;refine O.op (.p rfl) (.sub rfl rfl (IntWalk.i64_in _ zB)) ?_;refine zz 2 ?_;refine O.op (.p rfl) (.min2 rfl rfl)<|O.slot 35 (v' :=.int .i64 ((min (128 - (remB Q).length) p.length:Nat):Int)) rfl (by exact congrArg (Value.int .i64) (by split<;>omega)) ?_;refine zz 3 ?_;have hn1:min (128 - (remB Q).length) p.length≤p.length:=by omega
  have hn2:(remB Q).length+min (128 - (remB Q).length) p.length≤128:=by omega
  have hn3:(remB Q).length+min (128 - (remB Q).length) p.length<128→min (128 - (remB Q).length) p.length=p.length:=by omega
  generalize min (128 - (remB Q).length) p.length=n at *;refine S.objIs (b:=bh) (cs' :=[.int .u64 (x0.toNat:Int),.int .u64 (x1.toNat:Int),.int .u64 (x2.toNat:Int),.int .u64 (x3.toNat:Int),.int .u64 (x4.toNat:Int),.int .u64 (x5.toNat:Int),.int .u64 (x6.toNat:Int),.int .u64 (x7.toNat:Int),.slice s.1 (remB Q).length s.2,.int .u64 ((Q.length+p.length:Nat):Int),.bool true]) zC rfl ?_;refine S.cut2 (fun (x:(List UInt8 × List UInt8) × (Option Addr × Nat) × (Option Addr × Nat))=>remB x.1.1=[]∧x.1.1++x.1.2=Q++p∧Arr Rp.u8 g.h (.slice x.2.2.1 x.1.2.length x.2.2.2) x.1.2) (fun (x:(List UInt8 × List UInt8) × (Option Addr × Nat) × (Option Addr × Nat))=>[(6,.slice x.2.2.1 x.1.2.length x.2.2.2)]) [(0,_),(11,_),(12,_),(13,_)] (fun (x:(List UInt8 × List UInt8) × (Option Addr × Nat) × (Option Addr × Nat))=>[obj bh 278 (w64s (feed shaH x.1.1)++[.slice x.2.1.1 0 x.2.1.2,.int .u64 ((Q.length+p.length:Nat):Int),.bool true]),OwnP Rp.u8 5 (.slice x.2.1.1 0 x.2.1.2) []]) zq (fun key=>?_) (fun x hx=>?_)
  ·have hm2:=meltRefl (g:=g)
   refine zz 8 ?_;refine S.cd rfl (fun h41=>?_) fun h41=>?_
   ·refine S.seq<|S.regionD (L:=[0,1,2,3,5,6,7,9,10,11,4,8,12,13,14,15]) F.mixed zD ?_
    refine zz 3 ?_;refine .quiet (.p rfl) rfl (fun _=>.fieldObj fld278x1 rfl) ?_;refine zz 2 ?_;refine OD.sliceTo (b:=n) (.p rfl) underlying24 size5 rfl rfl zM zG zG (fun u49 ha49=>?_);obtain ⟨a49,c49,rfl⟩:=ha49.shape;refine OD.q 2 rfl<|OD.sliceFrom (a:=n) (.p rfl) underlying24 size5 rfl rfl zM zG zG (fun u53 ha53=>?_);obtain ⟨a53,c53,rfl⟩:=ha53.shape;refine OD.loadL (.p rfl) zD (fun _=>.loadObj flat24 rfl zC zF) ?_;refine OD.appendP (.p rfl) zD (T:=Rp.u8) pure_u8 underlying24 elem5 zE rfl rfl zC zA zG zG (fun a50 c50=>?_);refine zz 1 ?_;refine .quiet (.p rfl) rfl (fun _=>.fieldObj fld278x1 rfl)<|OD.store1 rfl zD flat24 rfl rfl zQ zC zO ?_;refine OD.q 1 rfl<|ODx.nil (S.seq (S.seq ?_));have htl:(p.take n).length=n:=by rw [zlt];omega
    have hal:(remB Q++p.take n).length=(remB Q).length+n:=by rw [zla,htl]
    refine zz 8 ?_;refine S.cd rfl (fun h61=>?_) fun h61=>?_
    ·have hlt:(remB Q).length+n<128:=by omega
     have hnp:=hn3 hlt;have htp:p.take n=p:=List.take_of_length_le zB;obtain ⟨e1,e2⟩:=feed_part shaH (b:=Q) (c:=p) (by rw [← htp,hal];exact hlt);have hml:(Q++p).length=Q.length+p.length:=zla;have hE:(remB Q).length+(p.take n).length=(remB (Q++p)).length:=by rw [e2,zla,htp]
     refine S.objIs (b:=bh) (cs' :=hashC (Q++p) a50 c50) zC (by rw [hE,hashC,e1,hx,hml];rfl) ?_;refine S.ownIs (T:=Rp.u8) (e:=5) (v' :=.slice a50 (remB (Q++p)).length c50) (xs' :=remB (Q++p)) zC (by rw [hE]) (by rw [e2,htp]) ?_;refine zz 5 ?_;exact S.pw (ih (i+1) ((a50,c50)) (Q++p) (by exact ⟨by omega,hst⟩) zB)
    ·have heq:(remB Q++p.take n).length=128:=by rw [hal];omega
     obtain ⟨e1,e2⟩:=feed_full shaH (b:=Q) (c:=p.take n) heq;rw [hx] at e1;have hg_l:=hg;have hR_l:=hR
     try have hp_l:=hp
     try have hK_l:=hK
     try have hp15_l:=hp15
     try have hr15_l:=hr15
     try have hq15_l:=hq15
     try have ha49_l:=ha49
     try have ha53_l:=ha53
     refine S.frzH (B:=OwnP Rp.u8 5 (.slice a50 ((remB Q).length+(p.take n).length) c50) (remB Q++p.take n)) zC fun gl hsl ⟨ml,hml,hsml⟩ hbl=>?_;replace hg:=zfs hg hsl;replace hR:=backR hR hbl
     try replace hp:=hp.mono hsl
     try replace hK:=hK.mono hsl
     try replace hp15:=hp15.mono hsl
     try replace hr15:=hr15.mono hsl
     try replace hq15:=hq15.mono hsl
     try replace ha49:=ha49.mono hsl
     try replace ha53:=ha53.mono hsl
     have hla:=(OwnP.arr hml).mono hsml;refine S.skip<|S.seq<|S.regionD (L:=.range 8) F.mixed zD ?_;refine zz 2 ?_;refine .quiet (.p rfl) rfl (fun _=>.fieldObj fld278x0 rfl) ?_;refine zz 2 ?_;refine .quiet (.p rfl) rfl (fun _=>.fieldObj fld278x1 rfl)<|OD.loadL (.p rfl) zD (fun _=>.loadObj flat24 rfl zC zF) ?_;refine OD.callS (.p rfl) zD rfl zD rfl rfl zC (block_c (T:=278) (v:=[x0,x1,x2,x3,x4,x5,x6,x7]) (rest:=[.slice a50 ((remB Q).length+(p.take n).length) c50,.int .u64 ((Q.length+p.length:Nat):Int),.bool true]) rfl hla heq hK) ?_;rintro _ _ ⟨rfl,rfl⟩;refine ODx.nil<|S.back hbl ?_;replace hg:=hg_l;replace hR:=hR_l
     try replace hp:=hp_l
     try replace hK:=hK_l
     try replace hp15:=hp15_l
     try replace hr15:=hr15_l
     try replace hq15:=hq15_l
     try replace ha49:=ha49_l
     try replace ha53:=ha53_l
     clear hg_l hR_l;have hvl:(shaBlk [x0,x1,x2,x3,x4,x5,x6,x7] (remB Q++p.take n)).length=8:=shaBlk_len _ _ rfl;refine zz 5 ?_;refine O.op (.p rfl) (.loadObj flat24 rfl zC (hash_left hvl)) ?_;refine O.op (.p rfl) (.sliceTo0 (T:=Rp.u8) (q:=0) underlying24 size5 rfl rfl rfl (Nat.zero_le _)) ?_;refine zz 2 ?_;refine O.opU rfl (.store1 flat24 rfl rfl rfl zC (hash_len hvl)) ?_;refine O.nil<|S.objIs (b:=bh) (cs' :=w64s (feed shaH (Q++p.take n))++[.slice a50 0 c50,.int .u64 ((Q.length+p.length:Nat):Int),.bool true]) zC (by rw [hash_set hvl,e1]) ?_;refine S.conv (B:=OwnP Rp.u8 5 (.slice a50 ((remB Q).length+(p.take n).length) c50) (remB Q++p.take n)) (C:=OwnP Rp.u8 5 (.slice a50 0 c50) []) zC (fun h x=>⟨h,Fr.sub_refl _,OwnP.take (ys:=remB Q++p.take n) rfl x⟩) ?_;refine S.pk ?_ (S.weaken ?_ (key (((Q++p.take n,p.drop n),(a50,c50),(a53,c53))) (by exact ⟨e2,by rw [zaa,List.take_append_drop],ha53⟩)))
     ·exact zN
     repeat (first|exact Sub.nil|refine Sub.cons rfl ?_)
   ·have h0:remB Q=[]:=List.eq_nil_of_length_eq_zero zB
    have h00:(remB Q).length=0:=by rw [h0];rfl
    refine S.objIs (b:=bh) (cs' :=w64s (feed shaH Q)++[.slice s.1 0 s.2,.int .u64 ((Q.length+p.length:Nat):Int),.bool true]) zC (by rw [h00,hx];rfl) ?_;refine S.ownIs (T:=Rp.u8) (e:=5) (v' :=.slice s.1 0 s.2) (xs' :=[]) zC (by rw [h00]) h0 ?_;refine S.skip<|S.pk ?_ (S.weaken ?_ (key (((Q,p),s,(a15,c15))) (by exact ⟨h0,rfl,hq15⟩)))
    ·exact zN
    repeat (first|exact Sub.nil|refine Sub.cons rfl ?_)
  ·obtain ⟨⟨M1,p1⟩,⟨al,cl⟩,⟨a6,c6⟩⟩:=x
   obtain ⟨h0,h1,h2⟩:=hx;simp only at h0 h1 h2 ⊢;obtain ⟨f1,f2⟩:=feed_zero shaH (b:=M1) (c:=p1) h0;rw [h1] at f1 f2;refine S.seq<|S.block<|S.loopK2 (ι:=Nat) (κ:=Option Addr × Nat) (fun k u=>128*k≤p1.length∧Arr Rp.u8 g.h (.slice u.1 (p1.drop (128*k)).length u.2) (p1.drop (128*k))) (fun k u=>[(6,.slice u.1 (p1.drop (128*k)).length u.2)]) [(0,_),(11,_),(12,_),(13,_)] (fun k u=>[obj bh 278 (w64s (feedN (feed shaH M1) p1 k)++[.slice al 0 cl,.int .u64 ((Q.length+p.length:Nat):Int),.bool true]),OwnP Rp.u8 5 (.slice al 0 cl) []]) (fun k u=>p1.length - k) (0) ((a6,c6)) (by exact ⟨by omega,h2⟩) zq zq rfl fun k u hx ih=>?_;have hm2:=meltRefl (g:=g);obtain ⟨hk1,hk2⟩:=hx;have hdl:(p1.drop (128*k)).length=p1.length - 128*k:=List.length_drop;have hvk:(feedN (feed shaH M1) p1 k).length=8:=feedN_len _ _ (feed_len _ _ rfl) k;refine zz 7 ?_;refine S.cd rfl (fun h80=>?_) fun h80=>?_
   ·have hk3:128*(k+1)≤p1.length:=by omega
    have hdd:(p1.drop (128*k)).drop 128=p1.drop (128*(k+1)):=by rw [List.drop_drop,Nat.mul_succ]
    refine S.skip<|S.seq<|S.block<|S.regionD (L:=.range 6) F.mixed zD<|OD.q 1 rfl<|.quiet (.p rfl) rfl (fun _=>.nilCheck rfl)<|.quiet (.p rfl) rfl (fun _=>.fieldObj fld278x0 rfl)<|OD.q 1 rfl<|OD.sliceTo (b:=128) (.p rfl) underlying24 size5 rfl rfl zM zG zG (fun u87 ha87=>?_);obtain ⟨a87,c87,rfl⟩:=ha87.shape;refine OD.callS (.p rfl) zD rfl zD rfl rfl zC (block_c (T:=278) (v:=feedN (feed shaH M1) p1 k) (rest:=[.slice al 0 cl,.int .u64 ((Q.length+p.length:Nat):Int),.bool true]) hvk ha87 (by rw [zlt];omega) hK) ?_;rintro _ _ ⟨rfl,rfl⟩;refine zz 4 ?_;refine O.sliceFrom (a:=128) (.p rfl) underlying24 size5 rfl rfl zM zG zG (fun u82 ha82=>?_);obtain ⟨a82,c82,rfl⟩:=ha82.shape;refine zz 2 ?_;rw [hdd] at ha82 ⊢;exact S.pw (ih (k+1) ((a82,c82)) (by exact ⟨by omega,ha82⟩) zB)
   ·clear ih
    have hkk:k=p1.length / 128:=by omega
    have hfk:feedN (feed shaH M1) p1 k=feed shaH (Q++p):=by rw [hkk];exact f1.symm
    have hrk:p1.drop (128*k)=remB (Q++p):=by rw [hkk];exact f2.symm
    have hml:(Q++p).length=Q.length+p.length:=zla;refine zz 1 ?_;rw [hfk,hrk];rw [hrk] at hk2 hdl;have hvk' :(feed shaH (Q++p)).length=8:=feed_len _ _ rfl;refine zz 5 ?_;refine O.op (.p rfl) (.loadObj flat24 rfl zC (hash_left hvk')) ?_;refine O.q 1 rfl<|O.opE (.p rfl) (.appendP (T:=Rp.u8) pure_u8 underlying24 elem5 zE rfl rfl zC zA zG zG) ?_;rintro _ _ ⟨a95,c95,rfl,rfl⟩;refine zz 2 ?_;refine O.opU rfl (.store1 flat24 rfl rfl rfl zC (hash_len hvk')) ?_;refine O.nil<|S.inBlock<|S.objIs (b:=bh) (cs' :=hashC (Q++p) a95 c95) zC (by rw [hash_set hvk',hashC,hml,zln,Nat.zero_add]) ?_;refine S.ownIs (T:=Rp.u8) (e:=5) (v' :=.slice a95 (remB (Q++p)).length c95) (xs' :=remB (Q++p)) zC (by rw [zln,Nat.zero_add]) (by rw [List.nil_append]) ?_;refine zz 4 ?_;exact S.pw (ih (i+1) ((a95,c95)) (Q++p) (by exact ⟨by omega,hst⟩) zB)
 ·clear ih
  have hi:i=ps.length:=by omega
  subst hi;rw [List.take_length] at hQ;subst hQ;refine zz 5 ?_;exact S.rt results127 rfl hR ⟨s.1,s.2,rfl,rfl⟩
end Go.Proofs.YtojafegjlahajaaGreatDoor
