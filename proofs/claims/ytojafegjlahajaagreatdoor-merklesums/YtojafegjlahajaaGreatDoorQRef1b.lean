/- Texts of this proof. -/
import Derived.Test.YtojafegjlahajaaGreatDoorQSpSha3
import Derived.Test.YtojafegjlahajaaGreatDoorQRec2
open Go Go.Sp Go.Proofs.Tryz
set_option maxRecDepth 100000
set_option maxHeartbeats 1000000
attribute [local irreducible] obj Own OwnP
namespace Go.Proofs.YtojafegjlahajaaGreatDoor
theorem getD_at {l:List U64} {i:Nat} (h:i<l.length):l[i]=l.getD i 0:=by simp [List.getD_eq_getElem?_getD,h]
theorem r1rot_c {r:Fr} (x:U64) {a:Nat} (h0:0<a) (h:a<64) :
  Con prog 291 #[w64 x,.int .u64 (a:Int)] r [] (Ret fun v η=>v=.int .u64 ((rotR x a).toNat:Int)∧η=[]):=by
 refine Con.of (n:=13) _ rfl func291 rfl rfl rfl fun g hg R hR=>?_;refine S.seq<|S.region rfl<|O.q 1 rfl<|O.nil<|S.seq<|S.region rfl<|O.q 2 rfl<|O.op (.p rfl) (.shr rfl rfl zB)<|O.slot 7 (v' :=.int .u64 ((x >>>UInt64.ofNat a).toNat:Int)) rfl (by exact congrArg (Value.int .u64) (w_shr x h)) ?_;refine O.q 2 rfl<|O.op (.p rfl) (.subW rfl rfl)<|O.slot 10 (v' :=.int .u64 ((64 - a:Nat):Int)) rfl (by (rw [show ((64:Int) - (a:Int))=((64 - a:Nat):Int) from by omega,wrapN zB])) ?_;refine O.op (.p rfl) (.shl rfl rfl zB)<|O.slot 11 (v' :=.int .u64 ((x <<<UInt64.ofNat (64 - a)).toNat:Int)) rfl (by exact congrArg (Value.int .u64) (w_shl x zB)) ?_;refine O.op (.p rfl) (.or rfl rfl)<|O.slot 12 (v' :=.int .u64 ((rotR x a).toNat:Int)) rfl (by exact congrArg (Value.int .u64) (w_or _ _)) ?_;refine O.q 1 rfl<|O.nil ?_;exact S.rt results291 rfl hR ⟨rfl,rfl⟩
theorem beW_seg {b:List UInt8} {t j:Nat} (hb:b.length=128) (ht:t<16) (hj:j<8) :
  beW (((b.drop (8*t)).take 8).take j) <<<8+UInt64.ofNat (b[8*t+j]'zB).toNat=beW (((b.drop (8*t)).take 8).take (j+1)):=by
 have hl:((b.drop (8*t)).take 8).length=8:=by simp;omega
 rw [shl8_add,beW_take (l:=(b.drop (8*t)).take 8) zB]
 congr 3
 simp
theorem r1turn_c {r:Fr} {vh vk vb:Value} {v:List U64} {b:List UInt8} (hh:Arr Rp.w64 r vh v) (hv:v.length=8) (hk:Arr Rp.w64 r vk shaK) (hb:Arr Rp.u8 r vb b) (hl:b.length=128) :
  Con prog 222 #[vh,vk,vb] r [] (Ret fun u η=>∃ a c,u=.slice a 8 c∧η=[OwnP Rp.w64 274 (.slice a 8 c) (shaBlk v b)]):=by
 obtain ⟨a1,c1,rfl⟩:=hh.shape;obtain ⟨a2,c2,rfl⟩:=hk.shape;obtain ⟨a3,c3,rfl⟩:=hb.shape;refine Con.of (n:=204) _ rfl func222 rfl rfl rfl fun g hg R hR=>?_;have hh:=hh.mono hg;have hk:=hk.mono hg;have hb:=hb.mono hg;have hkl:shaK.length=80:=rfl;refine S.addNil (T:=Rp.w64) (e:=274) ?_;refine S.seq<|S.region rfl<|O.q 1 rfl<|O.nil<|S.seq<|S.region rfl<|O.q 1 rfl<|O.nil<|S.seq<|S.seq<|S.region rfl<|O.q 1 rfl<|O.nil<|S.block<|S.loopK2 (ι:=Nat) (κ:=Option Addr × Nat) (fun t s=>t≤80) (fun t s=>[(8,.int .i64 (t:Int)),(7,.slice s.1 t s.2)]) [(0,_),(1,_),(2,_)] (fun t s=>[OwnP Rp.w64 274 (.slice s.1 t s.2) (sched b t)]) (fun t s=>80 - t) (0) ((none,0)) zI (.cons rfl (.cons rfl (.nil))) (.cons rfl (.cons rfl (.cons rfl (.nil)))) rfl fun t s hx ih=>?_;have hm1:=meltRefl (g:=g);refine S.seq<|S.seq<|S.region rfl<|O.q 1 rfl<|O.op (.p rfl) (.lss rfl rfl)<|O.nil ?_
 first|refine S.condD rfl (fun h21=>?_) (fun h21=>?_)|refine S.condB rfl (fun h21=>?_) (fun h21=>?_)
 ·have ht:t<80:=by omega
  have hsl:=sched_len b t;refine S.skip<|S.seq<|S.block<|S.seq<|S.region rfl<|O.q 1 rfl<|O.nil<|S.seq<|S.seq<|S.region rfl<|O.q 1 rfl<|O.op (.p rfl) (.lss rfl rfl)<|O.nil ?_
  first|refine S.condD rfl (fun h25=>?_) (fun h25=>?_)|refine S.condB rfl (fun h25=>?_) (fun h25=>?_)
  ·have h16:t<16:=by omega
   have hsa:beW (((b.drop (8*t)).take 8).take 8)=schedAt b (sched b t) t:=by rw [List.take_take,Nat.min_self,schedAt,if_pos h16]
   refine S.seq<|S.region rfl<|O.q 1 rfl<|O.nil<|S.block<|S.loopK (ι:=Nat) (fun j=>j≤8) (fun j=>[(10,.int .i64 (j:Int)),(9,.int .u64 ((beW (((b.drop (8*t)).take 8).take j)).toNat:Int))]) [(0,_),(1,_),(2,_),(7,_),(8,_)] (fun j=>[OwnP Rp.w64 274 (.slice s.1 t s.2) (sched b t)]) (fun j=>8 - j) (0) zI (.cons rfl (.cons rfl (.nil))) (.cons rfl (.cons rfl (.cons rfl (.cons rfl (.cons rfl (.nil)))))) rfl fun j hx ih=>?_;have hm2:=meltRefl (g:=g);refine S.seq<|S.seq<|S.region rfl<|O.q 1 rfl<|O.op (.p rfl) (.lss rfl rfl)<|O.nil ?_
   first|refine S.condD rfl (fun h27=>?_) (fun h27=>?_)|refine S.condB rfl (fun h27=>?_) (fun h27=>?_)
   ·have hj:j<8:=by omega
    have hsg:=beW_seg hl h16 hj;refine S.skip<|S.seq<|S.block<|S.region rfl<|O.q 1 rfl<|O.op (.p rfl) (.shl rfl rfl zB)<|O.slot 31 (v' :=.int .u64 ((beW (((b.drop (8*t)).take 8).take j) <<<8).toNat:Int)) rfl (by exact congrArg (Value.int .u64) (w_shl _ (n:=8) zF)) ?_;refine O.q 2 rfl<|O.op (.p rfl) (.mul rfl rfl (IntWalk.i64_in _ zB))<|O.q 1 rfl<|O.op (.p rfl) (.add rfl rfl (IntWalk.i64_in _ zB))<|O.ia (.p rfl) underlying24 size5 rfl rfl (show _=(((8*t+j):Nat):Int) by omega) (by first|assumption|exact Arr.mono hg zE|exact Arr.left zE|exact Arr.left (Arr.mono hg zE)) (h:=fun p37 cs37 hp37 hr37=>?_)
    cases hr37
    refine O.op (.p rfl) (.loadAt flat5 rfl hp37 rfl) ?_;refine O.op (.p rfl) (.cvt underlying5 underlying274 rfl)<|O.slot 39 (v' :=.int .u64 ((UInt64.ofNat (b[8*t+j]'zB).toNat).toNat:Int)) rfl (by exact congrArg (Value.int .u64) (w_u8 _)) ?_;refine O.op (.p rfl) (.addW rfl rfl)<|O.slot 40 (v' :=.int .u64 ((beW (((b.drop (8*t)).take 8).take (j+1))).toNat:Int)) rfl (by exact congrArg (Value.int .u64) ((w_add _ _).trans (by rw [hsg]))) ?_;refine O.q 1 rfl<|O.nil<|S.inBlock<|S.region rfl<|O.q 1 rfl<|O.op (.p rfl) (.add rfl rfl (IntWalk.i64_in _ zB))<|O.q 1 rfl<|O.nil ?_;exact S.wk (ih (j+1) zB zB)
   ·clear ih
    have hj:j=8:=by omega
    subst hj;rw [hsa];refine S.exit rfl<|S.region rfl<|O.q 2 rfl<|O.opE (.p rfl) (.litP (T:=Rp.w64) (ys:=[schedAt b (sched b t) t]) underlying207 elem274 zF rfl rfl ⟨rfl,trivial⟩ zF) ?_;rintro _ _ ⟨a82,c82,rfl,rfl⟩;refine O.opE (.p rfl) (.appendO (T:=Rp.w64) underlying207 elem274 zF rfl rfl zD zD zG zG) ?_;rintro _ _ ⟨a83,c83,rfl,rfl⟩;refine O.q 1 rfl<|O.nil<|S.inBlock<|S.region rfl<|O.q 1 rfl<|O.op (.p rfl) (.add rfl rfl (IntWalk.i64_in _ zB))<|O.q 1 rfl<|O.nil ?_;rw [show sched b t++[schedAt b (sched b t) t]=sched b (t+1) from rfl]
    try simp only [hsl,List.length_singleton]
    exact S.pw (ih (t+1) ((a83,c83)) zB zB)
  ·have h16:16≤t:=by omega
   have hsa:smallW ((sched b t).getD (t - 2) 0) 19 61 6+(sched b t).getD (t - 7) 0+smallW ((sched b t).getD (t - 15) 0) 1 8 7+(sched b t).getD (t - 16) 0=schedAt b (sched b t) t:=by rw [schedAt,if_neg zB]
   have hg_o:=hg;have hR_o:=hR
   try have hh_o:=hh
   try have hk_o:=hk
   try have hb_o:=hb
   refine S.frzH (B:=OwnP Rp.w64 274 (.slice s.1 t s.2) (sched b t)) zD fun go hso ⟨mo,hmo,hsmo⟩ hbo=>?_;replace hg:=Fr.sub_trans hg hso;replace hR:=backR hR hbo
   try replace hh:=hh.mono hso
   try replace hk:=hk.mono hso
   try replace hb:=hb.mono hso
   have hat:=(OwnP.arr hmo).mono hsmo;refine S.seq<|S.regionD (L:=[0,1,2,3,4,5,6,7,8,9,10,11]) F.mixed zC<|OD.q 2 rfl<|.quiet (.p rfl) rfl (fun _=>.sub rfl rfl (IntWalk.i64_in _ zB))<|OD.ia (.p rfl) underlying207 size274 rfl rfl (show _=(((t - 2):Nat):Int) by omega) (by first|assumption|exact Arr.mono hg zE|exact Arr.left zE|exact Arr.left (Arr.mono hg zE)) (h:=fun p44 cs44 hp44 hr44=>?_)
   cases hr44
   refine .quiet (.p rfl) rfl (fun _=>.loadAt flat274 rfl hp44 rfl) ?_;refine OD.slot 45 (v' :=.int .u64 (((sched b t).getD (t - 2) 0).toNat:Int)) rfl (by rw [← getD_at zB]) ?_;refine OD.q 2 rfl<|.quiet (.p rfl) rfl (fun _=>.sub rfl rfl (IntWalk.i64_in _ zB))<|OD.ia (.p rfl) underlying207 size274 rfl rfl (show _=(((t - 15):Nat):Int) by omega) (by first|assumption|exact Arr.mono hg zE|exact Arr.left zE|exact Arr.left (Arr.mono hg zE)) (h:=fun p49 cs49 hp49 hr49=>?_)
   cases hr49
   refine .quiet (.p rfl) rfl (fun _=>.loadAt flat274 rfl hp49 rfl) ?_;refine OD.slot 50 (v' :=.int .u64 (((sched b t).getD (t - 15) 0).toNat:Int)) rfl (by rw [← getD_at zB]) ?_;refine OD.q 2 rfl<|ODx.nil<|S.regionD (L:=[0,2,5,6,8,9,10,11,12,14,16,19,20,23,24,25,26,27,1,3,4,7,13,15,17,18,21,22,28,29]) F.mixed zC<|OD.q 3 rfl<|.quiet (.p rfl) rfl (fun _=>.shr rfl rfl zB)<|OD.slot 57 (v' :=.int .u64 (((sched b t).getD (t - 2) 0 >>>UInt64.ofNat 6).toNat:Int)) rfl (by exact congrArg (Value.int .u64) (w_shr _ (n:=6) zF)) ?_;refine OD.q 2 rfl<|.quiet (.p rfl) rfl (fun _=>.sub rfl rfl (IntWalk.i64_in _ zB))<|OD.ia (.p rfl) underlying207 size274 rfl rfl (show _=(((t - 7):Nat):Int) by omega) (by first|assumption|exact Arr.mono hg zE|exact Arr.left zE|exact Arr.left (Arr.mono hg zE)) (h:=fun p62 cs62 hp62 hr62=>?_)
   cases hr62
   refine .quiet (.p rfl) rfl (fun _=>.loadAt flat274 rfl hp62 rfl) ?_;refine OD.slot 63 (v' :=.int .u64 (((sched b t).getD (t - 7) 0).toNat:Int)) rfl (by rw [← getD_at zB]) ?_;refine OD.q 3 rfl<|.quiet (.p rfl) rfl (fun _=>.shr rfl rfl zB)<|OD.slot 71 (v' :=.int .u64 (((sched b t).getD (t - 15) 0 >>>UInt64.ofNat 7).toNat:Int)) rfl (by exact congrArg (Value.int .u64) (w_shr _ (n:=7) zF)) ?_;refine OD.q 2 rfl<|.quiet (.p rfl) rfl (fun _=>.sub rfl rfl (IntWalk.i64_in _ zB))<|OD.ia (.p rfl) underlying207 size274 rfl rfl (show _=(((t - 16):Nat):Int) by omega) (by first|assumption|exact Arr.mono hg zE|exact Arr.left zE|exact Arr.left (Arr.mono hg zE)) (h:=fun p77 cs77 hp77 hr77=>?_)
   cases hr77
   refine .quiet (.p rfl) rfl (fun _=>.loadAt flat274 rfl hp77 rfl) ?_;refine OD.slot 78 (v' :=.int .u64 (((sched b t).getD (t - 16) 0).toNat:Int)) rfl (by rw [← getD_at zB]) ?_;refine OD.call0 (.p rfl) zC rfl zC rfl rfl ((r1rot_c (a:=19) _ zF zF)) ?_;rintro _ _ ⟨rfl,rfl⟩
   try simp only [zx1,zx2,zx3]
   refine OD.call0 (.p rfl) zC rfl zC rfl rfl ((r1rot_c (a:=61) _ zF zF)) ?_;rintro _ _ ⟨rfl,rfl⟩
   try simp only [zx1,zx2,zx3]
   refine .quiet (.p rfl) rfl (fun _=>.xor rfl rfl)<|OD.slot 55 (v' :=.int .u64 ((rotR ((sched b t).getD (t - 2) 0) 19 ^^^ rotR ((sched b t).getD (t - 2) 0) 61).toNat:Int)) rfl (by exact congrArg (Value.int .u64) (w_xor _ _)) ?_;refine .quiet (.p rfl) rfl (fun _=>.xor rfl rfl)<|OD.slot 58 (v' :=.int .u64 ((smallW ((sched b t).getD (t - 2) 0) 19 61 6).toNat:Int)) rfl (by exact congrArg (Value.int .u64) (w_xor _ _)) ?_;refine .quiet (.p rfl) rfl (fun _=>.addW rfl rfl)<|OD.slot 64 (v' :=.int .u64 ((smallW ((sched b t).getD (t - 2) 0) 19 61 6+(sched b t).getD (t - 7) 0).toNat:Int)) rfl (by exact congrArg (Value.int .u64) (w_add _ _)) ?_;refine OD.call0 (.p rfl) zC rfl zC rfl rfl ((r1rot_c (a:=1) _ zF zF)) ?_;rintro _ _ ⟨rfl,rfl⟩
   try simp only [zx1,zx2,zx3]
   refine OD.call0 (.p rfl) zC rfl zC rfl rfl ((r1rot_c (a:=8) _ zF zF)) ?_;rintro _ _ ⟨rfl,rfl⟩
   try simp only [zx1,zx2,zx3]
   refine .quiet (.p rfl) rfl (fun _=>.xor rfl rfl)<|OD.slot 69 (v' :=.int .u64 ((rotR ((sched b t).getD (t - 15) 0) 1 ^^^ rotR ((sched b t).getD (t - 15) 0) 8).toNat:Int)) rfl (by exact congrArg (Value.int .u64) (w_xor _ _)) ?_;refine .quiet (.p rfl) rfl (fun _=>.xor rfl rfl)<|OD.slot 72 (v' :=.int .u64 ((smallW ((sched b t).getD (t - 15) 0) 1 8 7).toNat:Int)) rfl (by exact congrArg (Value.int .u64) (w_xor _ _)) ?_;refine .quiet (.p rfl) rfl (fun _=>.addW rfl rfl)<|OD.slot 73 (v' :=.int .u64 ((smallW ((sched b t).getD (t - 2) 0) 19 61 6+(sched b t).getD (t - 7) 0+smallW ((sched b t).getD (t - 15) 0) 1 8 7).toNat:Int)) rfl (by exact congrArg (Value.int .u64) (w_add _ _)) ?_;refine .quiet (.p rfl) rfl (fun _=>.addW rfl rfl)<|OD.slot 79 (v' :=.int .u64 ((schedAt b (sched b t) t).toNat:Int)) rfl (by exact congrArg (Value.int .u64) ((w_add _ _).trans (by rw [hsa]))) ?_;refine OD.q 1 rfl<|ODx.nil<|S.back hbo ?_;replace hg:=hg_o;replace hR:=hR_o
   try replace hh:=hh_o
   try replace hk:=hk_o
   try replace hb:=hb_o
   clear hg_o hR_o;refine S.region rfl<|O.q 2 rfl<|O.opE (.p rfl) (.litP (T:=Rp.w64) (ys:=[schedAt b (sched b t) t]) underlying207 elem274 zF rfl rfl ⟨rfl,trivial⟩ zF) ?_;rintro _ _ ⟨a82,c82,rfl,rfl⟩;refine O.opE (.p rfl) (.appendO (T:=Rp.w64) underlying207 elem274 zF rfl rfl zD zD zG zG) ?_;rintro _ _ ⟨a83,c83,rfl,rfl⟩;refine O.q 1 rfl<|O.nil<|S.inBlock<|S.region rfl<|O.q 1 rfl<|O.op (.p rfl) (.add rfl rfl (IntWalk.i64_in _ zB))<|O.q 1 rfl<|O.nil ?_;rw [show sched b t++[schedAt b (sched b t) t]=sched b (t+1) from rfl]
   try simp only [hsl,List.length_singleton]
   exact S.pw (ih (t+1) ((a83,c83)) zB zB)
 ·clear ih
  have ht:t=80:=by omega
  subst ht;have hS:=sched_len b 80;have hblk:shaBlk v b=List.zipWith (·+·) v (rnds v (sched b 80) 80):=rfl;generalize sched b 80=Sc at *;refine S.exit rfl<|S.seq<|S.frzA zD fun g hs hm hw=>?_;replace hg:=Fr.sub_trans hg hs;replace hR:=melted hR hm
  try replace hh:=hh.mono hs
  try replace hk:=hk.mono hs
  try replace hb:=hb.mono hs
  replace hm1:=meltTrans hm1 hm;clear hs hm;refine S.region rfl<|O.opE (.p rfl) (.litP (T:=Rp.w64) (ys:=[]) underlying207 elem274 zF rfl rfl trivial zF) ?_;rintro _ _ ⟨a84,c84,rfl,rfl⟩;refine O.q 1 rfl<|O.opE (.p rfl) (.appendP (T:=Rp.w64) pure_w64 underlying207 elem274 zF rfl rfl zD (by first|assumption|exact Arr.mono hg zE|exact Arr.left zE|exact Arr.left (Arr.mono hg zE)) zG zG) ?_;rintro _ _ ⟨a86,c86,rfl,rfl⟩;refine O.q 1 rfl<|O.nil<|S.seq<|S.seq<|S.ownIs (T:=Rp.w64) (e:=274) (v' :=.slice a86 8 c86) (xs' :=rnds v Sc 0) zD (by simp [hv]) rfl ?_;refine S.slot 13 (v' :=.slice a86 8 c86) rfl (by simp [hv]) ?_;refine S.region rfl<|O.q 1 rfl<|O.nil<|S.block<|S.loopK2 (ι:=Nat) (κ:=Option Addr × Nat) (fun t u=>t≤80) (fun t u=>[(14,.int .i64 (t:Int)),(13,.slice u.1 8 u.2)]) [(0,_),(1,_),(7,_)] (fun t u=>[OwnP Rp.w64 274 (.slice u.1 8 u.2) (rnds v Sc t)]) (fun t u=>80 - t) (0) ((a86,c86)) zI (.cons rfl (.cons rfl (.nil))) (.cons rfl (.cons rfl (.cons rfl (.nil)))) rfl fun t u hx ih=>?_;have hm2:=meltRefl (g:=g);refine S.seq<|S.seq<|S.region rfl<|O.q 1 rfl<|O.op (.p rfl) (.lss rfl rfl)<|O.nil ?_
  first|refine S.condD rfl (fun h88=>?_) (fun h88=>?_)|refine S.condB rfl (fun h88=>?_) (fun h88=>?_)
  ·have ht:t<80:=by omega
   obtain ⟨x0,x1,x2,x3,x4,x5,x6,x7,hxs⟩:=list8 (rnds_len v Sc hv t);have hst:rnds v Sc (t+1)=rnd [x0,x1,x2,x3,x4,x5,x6,x7] (shaK.getD t 0) (Sc.getD t 0):=by rw [rnds,hxs]
   rw [hxs];have hg_p:=hg;have hR_p:=hR
   try have hh_p:=hh
   try have hk_p:=hk
   try have hb_p:=hb
   try have hw_p:=hw
   refine S.frzH (B:=OwnP Rp.w64 274 (.slice u.1 8 u.2) [x0,x1,x2,x3,x4,x5,x6,x7]) zD fun gp hsp ⟨mp,hmp,hsmp⟩ hbp=>?_;replace hg:=Fr.sub_trans hg hsp;replace hR:=backR hR hbp
   try replace hh:=hh.mono hsp
   try replace hk:=hk.mono hsp
   try replace hb:=hb.mono hsp
   try replace hw:=hw.mono hsp
   have hat:=(OwnP.arr hmp).mono hsmp;refine S.skip<|S.seq<|S.block<|S.seq<|S.regionD (L:=[0,1,2,3,4,5,6,7]) F.mixed zC<|OD.q 1 rfl<|OD.ia (.p rfl) underlying207 size274 rfl rfl (show _=((0:Nat):Int) from rfl) (by first|assumption|exact Arr.mono hg zE|exact Arr.left zE|exact Arr.left (Arr.mono hg zE)) (h:=fun p92 cs92 hp92 hr92=>?_)
   cases hr92
   refine .quiet (.p rfl) rfl (fun _=>.loadAt flat274 rfl hp92 rfl) ?_;refine OD.q 1 rfl<|OD.ia (.p rfl) underlying207 size274 rfl rfl (show _=((4:Nat):Int) from rfl) (by first|assumption|exact Arr.mono hg zE|exact Arr.left zE|exact Arr.left (Arr.mono hg zE)) (h:=fun p95 cs95 hp95 hr95=>?_)
   cases hr95
   refine .quiet (.p rfl) rfl (fun _=>.loadAt flat274 rfl hp95 rfl) ?_;refine OD.q 2 rfl<|ODx.nil<|S.seq<|S.regionD (L:=[0,1,2,3,5,8,12,13,14,15,16,17,18,19,20,21,22,23,25,26,27,28,30,31,32,33,4,6,7,9,10,11,24,29,34,35]) F.mixed zC<|OD.q 1 rfl<|OD.ia (.p rfl) underlying207 size274 rfl rfl (show _=((7:Nat):Int) from rfl) (by first|assumption|exact Arr.mono hg zE|exact Arr.left zE|exact Arr.left (Arr.mono hg zE)) (h:=fun p98 cs98 hp98 hr98=>?_)
   cases hr98
   refine .quiet (.p rfl) rfl (fun _=>.loadAt flat274 rfl hp98 rfl) ?_;refine OD.q 5 rfl<|OD.ia (.p rfl) underlying207 size274 rfl rfl (show _=((5:Nat):Int) from rfl) (by first|assumption|exact Arr.mono hg zE|exact Arr.left zE|exact Arr.left (Arr.mono hg zE)) (h:=fun p111 cs111 hp111 hr111=>?_)
   cases hr111
   refine .quiet (.p rfl) rfl (fun _ => .loadAt flat274 rfl hp111 rfl) ?_;refine .quiet (.p rfl) rfl (fun _ => .and rfl rfl) <| OD.slot 113 (v' := .int .u64 ((x4 &&& x5).toNat : Int)) rfl (by exact congrArg (Value.int .u64) (w_and _ _)) ?_;refine OD.q 1 rfl <| .quiet (.p rfl) rfl (fun _ => .compl rfl) <| OD.slot 115 (v' := .int .u64 ((~~~x4).toNat : Int)) rfl (by exact congrArg (Value.int .u64) (w_not _)) ?_;refine OD.q 1 rfl <| OD.ia (.p rfl) underlying207 size274 rfl rfl (show _ = ((6 : Nat) : Int) from rfl) (by first | assumption | exact Arr.mono hg zE | exact Arr.left zE | exact Arr.left (Arr.mono hg zE)) (h := fun p117 cs117 hp117 hr117 => ?_)
   cases hr117
   refine .quiet (.p rfl) rfl (fun _ => .loadAt flat274 rfl hp117 rfl) ?_;refine .quiet (.p rfl) rfl (fun _ => .and rfl rfl) <| OD.slot 119 (v' := .int .u64 ((~~~x4 &&& x6).toNat : Int)) rfl (by exact congrArg (Value.int .u64) (w_and _ _)) ?_;refine .quiet (.p rfl) rfl (fun _ => .xor rfl rfl) <| OD.slot 120 (v' := .int .u64 ((x4 &&& x5 ^^^ ~~~x4 &&& x6).toNat : Int)) rfl (by exact congrArg (Value.int .u64) (w_xor _ _)) ?_;refine OD.q 2 rfl <| OD.ia (.p rfl) underlying207 size274 rfl rfl (show _ = (((t) : Nat) : Int) by omega) (by first | assumption | exact Arr.mono hg zE | exact Arr.left zE | exact Arr.left (Arr.mono hg zE)) (h := fun p124 cs124 hp124 hr124 => ?_)
   cases hr124
   refine .quiet (.p rfl) rfl (fun _=>.loadAt flat274 rfl hp124 rfl) ?_;refine OD.slot 125 (v' :=.int .u64 ((shaK.getD t 0).toNat:Int)) rfl (by rw [← getD_at zB]) ?_;refine OD.q 2 rfl<|OD.ia (.p rfl) underlying207 size274 rfl rfl rfl (by first|assumption|exact Arr.mono hg zE|exact Arr.left zE|exact Arr.left (Arr.mono hg zE)) (h:=fun p129 cs129 hp129 hr129=>?_)
   cases hr129
   refine .quiet (.p rfl) rfl (fun _=>.loadAt flat274 rfl hp129 rfl) ?_;refine OD.slot 130 (v' :=.int .u64 ((Sc.getD t 0).toNat:Int)) rfl (by rw [← getD_at zB]) ?_;refine OD.call0 (.p rfl) zC rfl zC rfl rfl ((r1rot_c (a:=14) x4 zF zF)) ?_;rintro _ _ ⟨rfl,rfl⟩
   try simp only [zx1,zx2,zx3]
   refine OD.call0 (.p rfl) zC rfl zC rfl rfl ((r1rot_c (a:=18) x4 zF zF)) ?_;rintro _ _ ⟨rfl,rfl⟩
   try simp only [zx1,zx2,zx3]
   refine .quiet (.p rfl) rfl (fun _=>.xor rfl rfl)<|OD.slot 104 (v' :=.int .u64 ((rotR x4 14 ^^^ rotR x4 18).toNat:Int)) rfl (by exact congrArg (Value.int .u64) (w_xor _ _)) ?_;refine OD.call0 (.p rfl) zC rfl zC rfl rfl ((r1rot_c (a:=41) x4 zF zF)) ?_;rintro _ _ ⟨rfl,rfl⟩
   try simp only [zx1,zx2,zx3]
   refine .quiet (.p rfl) rfl (fun _ => .xor rfl rfl) <| OD.slot 107 (v' := .int .u64 ((mixW x4 14 18 41).toNat : Int)) rfl (by exact congrArg (Value.int .u64) (w_xor _ _)) ?_;refine .quiet (.p rfl) rfl (fun _ => .addW rfl rfl) <| OD.slot 108 (v' := .int .u64 ((x7 + mixW x4 14 18 41).toNat : Int)) rfl (by exact congrArg (Value.int .u64) (w_add _ _)) ?_;refine .quiet (.p rfl) rfl (fun _ => .addW rfl rfl) <| OD.slot 121 (v' := .int .u64 ((x7 + mixW x4 14 18 41 + (x4 &&& x5 ^^^ ~~~x4 &&& x6)).toNat : Int)) rfl (by exact congrArg (Value.int .u64) (w_add _ _)) ?_;refine .quiet (.p rfl) rfl (fun _ => .addW rfl rfl) <| OD.slot 126 (v' := .int .u64 ((x7 + mixW x4 14 18 41 + (x4 &&& x5 ^^^ ~~~x4 &&& x6) + shaK.getD t 0).toNat : Int)) rfl (by exact congrArg (Value.int .u64) (w_add _ _)) ?_;refine .quiet (.p rfl) rfl (fun _ => .addW rfl rfl) <| OD.slot 131 (v' := .int .u64 ((x7 + mixW x4 14 18 41 + (x4 &&& x5 ^^^ ~~~x4 &&& x6) + shaK.getD t 0 + Sc.getD t 0).toNat : Int)) rfl (by exact congrArg (Value.int .u64) (w_add _ _)) ?_;refine OD.q 1 rfl <| ODx.nil <| S.seq <| S.regionD (L := [0, 2, 5, 8, 9, 10, 11, 12, 13, 14, 15, 16, 17, 18, 19, 20, 21, 22, 23, 24, 25, 26, 1, 3, 4, 6, 7, 27, 28]) F.mixed zC <| OD.q 5 rfl <| OD.ia (.p rfl) underlying207 size274 rfl rfl (show _ = ((1 : Nat) : Int) from rfl) (by first | assumption | exact Arr.mono hg zE | exact Arr.left zE | exact Arr.left (Arr.mono hg zE)) (h := fun p142 cs142 hp142 hr142 => ?_)
   cases hr142
   refine .quiet (.p rfl) rfl (fun _=>.loadAt flat274 rfl hp142 rfl) ?_;refine .quiet (.p rfl) rfl (fun _=>.and rfl rfl)<|OD.slot 144 (v' :=.int .u64 ((x0 &&& x1).toNat:Int)) rfl (by exact congrArg (Value.int .u64) (w_and _ _)) ?_;refine OD.q 2 rfl<|OD.ia (.p rfl) underlying207 size274 rfl rfl (show _=((2:Nat):Int) from rfl) (by first|assumption|exact Arr.mono hg zE|exact Arr.left zE|exact Arr.left (Arr.mono hg zE)) (h:=fun p147 cs147 hp147 hr147=>?_)
   cases hr147
   refine .quiet (.p rfl) rfl (fun _=>.loadAt flat274 rfl hp147 rfl) ?_;refine .quiet (.p rfl) rfl (fun _=>.and rfl rfl)<|OD.slot 149 (v' :=.int .u64 ((x0 &&& x2).toNat:Int)) rfl (by exact congrArg (Value.int .u64) (w_and _ _)) ?_;refine .quiet (.p rfl) rfl (fun _=>.xor rfl rfl)<|OD.slot 150 (v' :=.int .u64 ((x0 &&& x1 ^^^ x0 &&& x2).toNat:Int)) rfl (by exact congrArg (Value.int .u64) (w_xor _ _)) ?_;refine OD.q 1 rfl<|OD.ia (.p rfl) underlying207 size274 rfl rfl (show _=((1:Nat):Int) from rfl) (by first|assumption|exact Arr.mono hg zE|exact Arr.left zE|exact Arr.left (Arr.mono hg zE)) (h:=fun p152 cs152 hp152 hr152=>?_)
   cases hr152
   refine .quiet (.p rfl) rfl (fun _=>.loadAt flat274 rfl hp152 rfl) ?_;refine OD.q 1 rfl<|OD.ia (.p rfl) underlying207 size274 rfl rfl (show _=((2:Nat):Int) from rfl) (by first|assumption|exact Arr.mono hg zE|exact Arr.left zE|exact Arr.left (Arr.mono hg zE)) (h:=fun p155 cs155 hp155 hr155=>?_)
   cases hr155
   refine .quiet (.p rfl) rfl (fun _=>.loadAt flat274 rfl hp155 rfl) ?_;refine .quiet (.p rfl) rfl (fun _=>.and rfl rfl)<|OD.slot 157 (v' :=.int .u64 ((x1 &&& x2).toNat:Int)) rfl (by exact congrArg (Value.int .u64) (w_and _ _)) ?_;refine .quiet (.p rfl) rfl (fun _=>.xor rfl rfl)<|OD.slot 158 (v' :=.int .u64 ((x0 &&& x1 ^^^ x0 &&& x2 ^^^ x1 &&& x2).toNat:Int)) rfl (by exact congrArg (Value.int .u64) (w_xor _ _)) ?_;refine OD.call0 (.p rfl) zC rfl zC rfl rfl ((r1rot_c (a:=28) x0 zF zF)) ?_;rintro _ _ ⟨rfl,rfl⟩
   try simp only [zx1,zx2,zx3]
   refine OD.call0 (.p rfl) zC rfl zC rfl rfl ((r1rot_c (a:=34) x0 zF zF)) ?_;rintro _ _ ⟨rfl,rfl⟩
   try simp only [zx1,zx2,zx3]
   refine .quiet (.p rfl) rfl (fun _=>.xor rfl rfl)<|OD.slot 136 (v' :=.int .u64 ((rotR x0 28 ^^^ rotR x0 34).toNat:Int)) rfl (by exact congrArg (Value.int .u64) (w_xor _ _)) ?_;refine OD.call0 (.p rfl) zC rfl zC rfl rfl ((r1rot_c (a:=39) x0 zF zF)) ?_;rintro _ _ ⟨rfl,rfl⟩
   try simp only [zx1,zx2,zx3]
   refine .quiet (.p rfl) rfl (fun _ => .xor rfl rfl) <| OD.slot 139 (v' := .int .u64 ((mixW x0 28 34 39).toNat : Int)) rfl (by exact congrArg (Value.int .u64) (w_xor _ _)) ?_;refine .quiet (.p rfl) rfl (fun _ => .addW rfl rfl) <| OD.slot 159 (v' := .int .u64 ((mixW x0 28 34 39 + (x0 &&& x1 ^^^ x0 &&& x2 ^^^ x1 &&& x2)).toNat : Int)) rfl (by exact congrArg (Value.int .u64) (w_add _ _)) ?_;refine OD.q 1 rfl <| ODx.nil <| S.regionD (L := [0, 1, 2, 3, 4, 5, 6, 7, 8, 9, 10, 11, 12, 13, 14, 15, 16, 17, 18, 19, 20, 21, 22, 23, 24, 25, 26, 27]) F.mixed zC <| OD.q 2 rfl <| .quiet (.p rfl) rfl (fun _ => .addW rfl rfl) <| OD.slot 162 (v' := .int .u64 ((x7 + mixW x4 14 18 41 + (x4 &&& x5 ^^^ ~~~x4 &&& x6) + shaK.getD t 0 + Sc.getD t 0 + (mixW x0 28 34 39 + (x0 &&& x1 ^^^ x0 &&& x2 ^^^ x1 &&& x2))).toNat : Int)) rfl (by exact congrArg (Value.int .u64) (w_add _ _)) ?_;refine OD.q 1 rfl <| OD.ia (.p rfl) underlying207 size274 rfl rfl (show _ = ((0 : Nat) : Int) from rfl) (by first | assumption | exact Arr.mono hg zE | exact Arr.left zE | exact Arr.left (Arr.mono hg zE)) (h := fun p164 cs164 hp164 hr164 => ?_)
   cases hr164
   refine .quiet (.p rfl) rfl (fun _=>.loadAt flat274 rfl hp164 rfl) ?_;refine OD.q 1 rfl<|OD.ia (.p rfl) underlying207 size274 rfl rfl (show _=((1:Nat):Int) from rfl) (by first|assumption|exact Arr.mono hg zE|exact Arr.left zE|exact Arr.left (Arr.mono hg zE)) (h:=fun p167 cs167 hp167 hr167=>?_)
   cases hr167
   refine .quiet (.p rfl) rfl (fun _=>.loadAt flat274 rfl hp167 rfl) ?_;refine OD.q 1 rfl<|OD.ia (.p rfl) underlying207 size274 rfl rfl (show _=((2:Nat):Int) from rfl) (by first|assumption|exact Arr.mono hg zE|exact Arr.left zE|exact Arr.left (Arr.mono hg zE)) (h:=fun p170 cs170 hp170 hr170=>?_)
   cases hr170
   refine .quiet (.p rfl) rfl (fun _=>.loadAt flat274 rfl hp170 rfl) ?_;refine OD.q 1 rfl<|OD.ia (.p rfl) underlying207 size274 rfl rfl (show _=((3:Nat):Int) from rfl) (by first|assumption|exact Arr.mono hg zE|exact Arr.left zE|exact Arr.left (Arr.mono hg zE)) (h:=fun p173 cs173 hp173 hr173=>?_)
   cases hr173
   refine .quiet (.p rfl) rfl (fun _ => .loadAt flat274 rfl hp173 rfl) ?_;refine OD.q 1 rfl <| .quiet (.p rfl) rfl (fun _ => .addW rfl rfl) <| OD.slot 176 (v' := .int .u64 ((x3 + (x7 + mixW x4 14 18 41 + (x4 &&& x5 ^^^ ~~~x4 &&& x6) + shaK.getD t 0 + Sc.getD t 0)).toNat : Int)) rfl (by exact congrArg (Value.int .u64) (w_add _ _)) ?_;refine OD.q 1 rfl <| OD.ia (.p rfl) underlying207 size274 rfl rfl (show _ = ((4 : Nat) : Int) from rfl) (by first | assumption | exact Arr.mono hg zE | exact Arr.left zE | exact Arr.left (Arr.mono hg zE)) (h := fun p178 cs178 hp178 hr178 => ?_)
   cases hr178
   refine .quiet (.p rfl) rfl (fun _=>.loadAt flat274 rfl hp178 rfl) ?_;refine OD.q 1 rfl<|OD.ia (.p rfl) underlying207 size274 rfl rfl (show _=((5:Nat):Int) from rfl) (by first|assumption|exact Arr.mono hg zE|exact Arr.left zE|exact Arr.left (Arr.mono hg zE)) (h:=fun p181 cs181 hp181 hr181=>?_)
   cases hr181
   refine .quiet (.p rfl) rfl (fun _=>.loadAt flat274 rfl hp181 rfl) ?_;refine OD.q 1 rfl<|OD.ia (.p rfl) underlying207 size274 rfl rfl (show _=((6:Nat):Int) from rfl) (by first|assumption|exact Arr.mono hg zE|exact Arr.left zE|exact Arr.left (Arr.mono hg zE)) (h:=fun p184 cs184 hp184 hr184=>?_)
   cases hr184
   refine .quiet (.p rfl) rfl (fun _=>.loadAt flat274 rfl hp184 rfl) ?_;refine OD.litP (.p rfl) zC (T:=Rp.w64) (ys:=rnds v Sc (t+1)) underlying207 elem274 zF rfl rfl (by rw [hst];exact ⟨rfl,rfl,rfl,rfl,rfl,rfl,rfl,rfl,trivial⟩) zF (fun a186 c186=>?_);refine OD.q 1 rfl<|ODx.nil<|S.inBlock<|S.back hbp ?_;replace hg:=hg_p;replace hR:=hR_p
   try replace hh:=hh_p
   try replace hk:=hk_p
   try replace hb:=hb_p
   try replace hw:=hw_p
   clear hg_p hR_p;refine S.region rfl<|O.q 1 rfl<|O.op (.p rfl) (.add rfl rfl (IntWalk.i64_in _ zB))<|O.q 1 rfl<|O.nil ?_;exact S.pw (ih (t+1) ((a186,c186)) zB zB)
  ·clear ih
   have ht:t=80:=by omega
   subst ht;have hu:=rnds_len v Sc hv 80;generalize rnds v Sc 80=w at *;rw [show w=addT w v 0 from rfl];refine S.exit rfl<|S.seq<|S.seq<|S.region rfl<|O.q 1 rfl<|O.nil<|S.block<|S.loopK (ι:=Nat) (fun i=>i≤8) (fun i=>[(19,.int .i64 (i:Int))]) [(0,_),(13,_)] (fun i=>[OwnP Rp.w64 274 (.slice u.1 8 u.2) (addT w v i)]) (fun i=>8 - i) (0) zI (.cons rfl (.nil)) (.cons rfl (.cons rfl (.nil))) rfl fun i hx ih=>?_;have hm3:=meltRefl (g:=g);refine S.seq<|S.seq<|S.region rfl<|O.q 1 rfl<|O.op (.p rfl) (.lss rfl rfl)<|O.nil ?_
   first|refine S.condD rfl (fun h188=>?_) (fun h188=>?_)|refine S.condB rfl (fun h188=>?_) (fun h188=>?_)
   ·have hi:i<8:=by omega
    have hal:=addT_len hu hv (Nat.le_of_lt hi);refine S.skip<|S.seq<|S.block<|S.regionD (L:=[0,1,2,3,6,7,8,9,4,5,10,11,12]) F.mixed zC ?_;refine OD.q 6 rfl<|OD.ia (.p rfl) underlying207 size274 rfl rfl (show _=(((i):Nat):Int) by omega) (by first|assumption|exact Arr.mono hg zE|exact Arr.left zE|exact Arr.left (Arr.mono hg zE)) (h:=fun p199 cs199 hp199 hr199=>?_)
    cases hr199
    refine .quiet (.p rfl) rfl (fun _=>.loadAt flat274 rfl hp199 rfl) ?_;refine OD.slot 200 (v' :=.int .u64 ((v.getD i 0).toNat:Int)) rfl (by rw [← getD_at zB]) ?_;refine OD.idxOwn (T:=Rp.w64) (.p rfl) zC underlying207 size274 rfl rfl (show _=(((i):Nat):Int) by omega) zD zT (fun p195 hp195=>?_);refine OD.loadL (.p rfl) zC (fun _=>.loadOwn (T:=Rp.w64) (xs:=addT w v i) (j:=i) flat274 rfl hp195 rfl zD zB (by rintro _ rfl;exact congrArg (fun x=>[Value.int .u64 ((x:U64).toNat:Int)]) ((getD_at zB).trans (addT_get hu hv hi)))) ?_;refine .quiet (.p rfl) rfl (fun _=>.addW rfl rfl)<|OD.slot 201 (v' :=.int .u64 ((w.getD i 0+v.getD i 0).toNat:Int)) rfl (by exact congrArg (Value.int .u64) (w_add _ _)) ?_;refine OD.idxOwn (T:=Rp.w64) (.p rfl) zC underlying207 size274 rfl rfl (show _=(((i):Nat):Int) by omega) zD zT (fun p202 hp202=>?_);refine OD.storeOwn rfl zC size274 rfl hp202 rfl zD zT (show _=_ by rfl:Rp.rel _ _ _ (w.getD i 0+v.getD i 0)) ?_;refine ODx.nil<|S.inBlock<|S.region rfl<|O.q 1 rfl<|O.op (.p rfl) (.add rfl rfl (IntWalk.i64_in _ zB))<|O.q 1 rfl<|O.nil ?_;rw [addT_set hu hv hi];exact S.wk (ih (i+1) zB zB)
   ·clear ih
    have hi:i=8:=by omega
    subst hi;rw [addT_8 hu hv,zip_comm,← hblk];refine S.exit rfl<|S.seq<|S.region rfl<|O.q 2 rfl<|O.nil ?_;exact S.rt results222 rfl hR ⟨u.1,u.2,rfl,rfl⟩
theorem pad0_snoc (b:List UInt8) (z:Nat):b++128::List.replicate z 0++[0]=b++128::List.replicate (z+1) 0:=by
 rw [List.append_assoc,List.cons_append,List.replicate_succ']
theorem r1whole_c {r:Fr} {vb:Value} {b:List UInt8} (hb:Arr Rp.u8 r vb b) (hl:b.length≤1000000000000) :
  Con prog 221 #[vb] r [] (Ret fun u η=>∃ a c,u=.slice a (b++padB b.length).length c∧η=[OwnP Rp.u8 5 (.slice a (b++padB b.length).length c) (b++padB b.length)]):=by
 obtain ⟨a1,c1,rfl⟩:=hb.shape;refine Con.of (n:=40) _ rfl func221 rfl rfl rfl fun g hg R hR=>?_;have hb:=hb.mono hg;have hpn:padN b.length<128:=by unfold padN;omega
 refine S.seq<|S.region rfl<|O.q 1 rfl<|O.nil<|S.seq<|S.region rfl<|O.opE (.p rfl) (.litP (T:=Rp.u8) (ys:=[]) underlying24 elem5 zF rfl rfl trivial zF) ?_;rintro _ _ ⟨a7,c7,rfl,rfl⟩;refine O.q 1 rfl<|O.opE (.p rfl) (.appendP (T:=Rp.u8) pure_u8 underlying24 elem5 zF rfl rfl zD (by first|assumption|exact Arr.mono hg zE|exact Arr.left zE|exact Arr.left (Arr.mono hg zE)) zG zG) ?_;rintro _ _ ⟨a9,c9,rfl,rfl⟩;refine O.opE (.p rfl) (.litP (T:=Rp.u8) (ys:=[128]) underlying24 elem5 zF rfl rfl ⟨rfl,trivial⟩ zF) ?_;rintro _ _ ⟨a10,c10,rfl,rfl⟩;refine O.opE (.p rfl) (.appendO (T:=Rp.u8) underlying24 elem5 zF rfl rfl zD zD zG zG) ?_;rintro _ _ ⟨a11,c11,rfl,rfl⟩;refine O.q 1 rfl<|O.nil (S.seq (S.block ?_));rw [show ([]:List UInt8)++b++[128]=b++128::List.replicate 0 0 by simp];refine S.slot 3 (v' :=.slice a11 (b.length+1) c11) rfl zI ?_;refine S.ownIs (T:=Rp.u8) (e:=5) (v' :=.slice a11 (b.length+1) c11) (xs' :=b++128::List.replicate 0 0) zD zI rfl ?_;refine S.loopK2 (ι:=Nat) (κ:=Option Addr × Nat) (fun z s=>z≤padN b.length) (fun z s=>[(3,.slice s.1 (b.length+1+z) s.2)]) [(0,_)] (fun z s=>[OwnP Rp.u8 5 (.slice s.1 (b.length+1+z) s.2) (b++128::List.replicate z 0)]) (fun z s=>padN b.length - z) (0) ((a11,c11)) zI (.cons rfl (.nil)) (.cons rfl (.nil)) rfl fun z s hx ih=>?_;have hm1:=meltRefl (g:=g)
 have hzl:(b++128::List.replicate z 0).length=b.length+1+z:=by simp;omega
 refine S.seq<|S.seq<|S.region rfl<|O.q 1 rfl<|O.op (.p rfl) (.len rfl underlying24 rfl)<|O.op (.p rfl) (.rem rfl rfl zB)<|O.slot 14 (v' :=.int .i64 (((b.length+1+z) % 128:Nat):Int)) rfl (by exact congrArg (Value.int .i64) (by rw [Int.tmod_eq_emod_of_nonneg zB];omega)) ?_;refine O.op (.p rfl) (.neq rfl rfl)<|O.nil ?_
 first|refine S.condD rfl (fun h15=>?_) (fun h15=>?_)|refine S.condB rfl (fun h15=>?_) (fun h15=>?_)
 ·have hz:z<padN b.length:=by unfold padN at *;omega
  refine S.skip<|S.block<|S.region rfl<|O.q 1 rfl<|O.opE (.p rfl) (.litP (T:=Rp.u8) (ys:=[0]) underlying24 elem5 zF rfl rfl ⟨rfl,trivial⟩ zF) ?_;rintro _ _ ⟨a17,c17,rfl,rfl⟩;refine O.opE (.p rfl) (.appendO (T:=Rp.u8) underlying24 elem5 zF rfl rfl zD zD zG zG) ?_;rintro _ _ ⟨a18,c18,rfl,rfl⟩;refine O.q 1 rfl<|O.nil (S.inBlock ?_);rw [pad0_snoc]
  try simp only [hzl,List.length_singleton]
  exact S.pw (ih (z+1) ((a18,c18)) zB zB)
 ·have hz:z=padN b.length:=by unfold padN at *;omega
  clear ih;subst hz;have hE:b++padB b.length=b++128::List.replicate (padN b.length) 0++(List.replicate 8 0++be (8*(b.length:Int))):=by rw [padB];simp
  rw [← hzl];refine S.ownIs (T:=Rp.u8) (e:=5) (v' :=.slice s.1 (b++128::List.replicate (padN b.length) 0).length s.2) (xs' :=b++128::List.replicate (padN b.length) 0) zD rfl rfl ?_;generalize b++128::List.replicate (padN b.length) 0=E at *;have htl:(List.replicate 8 (0:UInt8)++be (8*(b.length:Int))).length=16:=by simp
  obtain ⟨tl,htd⟩:∃ tl,tl=List.replicate 8 (0:UInt8)++be (8*(b.length:Int)):=⟨_,rfl⟩;rw [← htd] at hE htl;refine S.exit rfl<|S.seq<|S.region rfl<|O.q 1 rfl<|O.op (.p rfl) (.len rfl underlying24 rfl)<|O.op (.p rfl) (.cvt underlying3 underlying274 rfl)<|O.op (.p rfl) (.mulW rfl rfl)<|O.slot 22 (v' :=.int .u64 ((8*b.length:Nat):Int)) rfl (by exact congrArg _ (by rw [wrapN zB,show (8:Int)*(b.length:Int)=((8*b.length:Nat):Int) from by omega,wrapN zB])) ?_;refine O.q 1 rfl<|O.nil<|S.seq<|S.seq<|S.region rfl<|O.q 1 rfl<|O.nil<|S.block<|S.ownIs (T:=Rp.u8) (e:=5) (v' :=.slice s.1 (E.length+0) s.2) (xs' :=E++tl.take 0) zD rfl zI ?_;refine S.loopK2 (ι:=Nat) (κ:=Option Addr × Nat) (fun k u=>k≤16) (fun k u=>[(5,.int .i64 ((15:Int) - (k:Int))),(3,.slice u.1 (E.length+k) u.2)]) [(4,_)] (fun k u=>[OwnP Rp.u8 5 (.slice u.1 (E.length+k) u.2) (E++tl.take k)]) (fun k u=>16 - k) (0) (s) zI (.cons rfl (.cons rfl (.nil))) (.cons rfl (.nil)) rfl fun k u hx ih=>?_;have hm2:=meltRefl (g:=g);have hkl:(E++tl.take k).length=E.length+k:=by simp;omega
  refine S.seq<|S.seq<|S.region rfl<|O.q 1 rfl<|O.op (.p rfl) (.geq rfl rfl)<|O.nil ?_
  first|refine S.condD rfl (fun h24=>?_) (fun h24=>?_)|refine S.condB rfl (fun h24=>?_) (fun h24=>?_)
  ·have hk:k<16:=by omega
   have hsn:E++tl.take k++[tl[k]]=E++tl.take (k+1):=by rw [List.append_assoc,← List.take_succ_eq_append_getElem zB]
   refine S.skip<|S.seq<|S.block<|S.seq<|S.region rfl<|O.q 1 rfl<|O.nil<|S.seq<|S.seq<|S.region rfl<|O.q 1 rfl<|O.op (.p rfl) (.lss rfl rfl)<|O.nil ?_
   first|refine S.condD rfl (fun h28=>?_) (fun h28=>?_)|refine S.condB rfl (fun h28=>?_) (fun h28=>?_)
   ·have h8:8≤k:=by omega
    have hx:tl[k]=beAt (8*(b.length:Int)) (15 - k):=by
     have:tl[k]?=some (beAt (8*(b.length:Int)) (15 - k)):=by
      rw [htd,List.getElem?_append_right zK];have:=be_get (8*(b.length:Int)) (15 - k) zB;rw [← this];congr 1;simp;omega
     rw [List.getElem?_eq_getElem zB] at this;exact Option.some.inj this
    rw [hx] at hsn;refine S.region rfl<|O.q 2 rfl<|O.op (.p rfl) (.mul rfl rfl (IntWalk.i64_in _ zB))<|O.op (.p rfl) (.cvt underlying3 underlying197 rfl)<|O.slot 32 (v' :=.int .u64 (8*((15 - k:Nat):Int))) rfl (by exact congrArg (Value.int .u64) (by rw [show (8:Int)*(15 - (k:Int))=((8*(15 - k):Nat):Int) from by omega,wrapN zB];omega)) ?_;refine O.op (.p rfl) (.shr rfl rfl zB)<|O.op (.p rfl) (.cvt underlying274 underlying5 rfl)<|O.slot 34 (v' :=byteV (beAt (8*(b.length:Int)) (15 - k))) rfl (by have q:=shift_byte ((8*b.length:Nat):Int) (15 - k) zB (8*((15 - k:Nat):Int)) rfl;rw [wrapN zB] at q;exact (congrArg (Value.int .u8) q).trans (by rw [show ((8*b.length:Nat):Int)=8*(b.length:Int) from by omega];rfl)) ?_;refine O.q 1 rfl<|O.nil<|S.region rfl<|O.q 2 rfl<|O.opE (.p rfl) (.litP (T:=Rp.u8) (ys:=[beAt (8*(b.length:Int)) (15 - k)]) underlying24 elem5 zF rfl rfl ⟨rfl,trivial⟩ zF) ?_;rintro _ _ ⟨a37,c37,rfl,rfl⟩;refine O.opE (.p rfl) (.appendO (T:=Rp.u8) underlying24 elem5 zF rfl rfl zD zD zG zG) ?_;rintro _ _ ⟨a38,c38,rfl,rfl⟩;refine O.q 1 rfl<|O.nil<|S.inBlock<|S.region rfl<|O.q 1 rfl<|O.op (.p rfl) (.sub rfl rfl (IntWalk.i64_in _ zB))<|O.q 1 rfl<|O.nil ?_;rw [hsn]
    try simp only [hkl,List.length_singleton]
    refine S.slot 5 (v' :=.int .i64 ((15:Int) - ((k+1:Nat):Int))) rfl (congrArg _ zB) ?_;exact S.pw (ih (k+1) ((a38,c38)) zB zB)
   ·have h8:k<8:=by omega
    have hx:tl[k]=0:=by
     have:tl[k]?=some 0:=by rw [htd,List.getElem?_append_left zK,List.getElem?_replicate,if_pos h8]
     rw [List.getElem?_eq_getElem zB] at this;exact Option.some.inj this
    rw [hx] at hsn;refine S.skip<|S.region rfl<|O.q 2 rfl<|O.opE (.p rfl) (.litP (T:=Rp.u8) (ys:=[0]) underlying24 elem5 zF rfl rfl ⟨rfl,trivial⟩ zF) ?_;rintro _ _ ⟨a37,c37,rfl,rfl⟩;refine O.opE (.p rfl) (.appendO (T:=Rp.u8) underlying24 elem5 zF rfl rfl zD zD zG zG) ?_;rintro _ _ ⟨a38,c38,rfl,rfl⟩;refine O.q 1 rfl<|O.nil<|S.inBlock<|S.region rfl<|O.q 1 rfl<|O.op (.p rfl) (.sub rfl rfl (IntWalk.i64_in _ zB))<|O.q 1 rfl<|O.nil ?_;rw [hsn]
    try simp only [hkl,List.length_singleton]
    refine S.slot 5 (v' :=.int .i64 ((15:Int) - ((k+1:Nat):Int))) rfl (congrArg _ zB) ?_;exact S.pw (ih (k+1) ((a38,c38)) zB zB)
  ·clear ih
   have hk:k=16:=by omega
   subst hk;rw [← hkl,List.take_of_length_le zB,← hE];refine S.ownIs (T:=Rp.u8) (e:=5) (v' :=.slice u.1 (b++padB b.length).length u.2) (xs' :=b++padB b.length) zD rfl rfl ?_;refine S.exit rfl<|S.seq<|S.region rfl<|O.q 2 rfl<|O.nil ?_;exact S.rt results221 rfl hR ⟨u.1,u.2,rfl,rfl⟩
theorem r1by_c {r:Fr} {vf vk vb:Value} {b:List UInt8} (hf:Arr Rp.w64 r vf shaH) (hk:Arr Rp.w64 r vk shaK) (hb:Arr Rp.u8 r vb b) (hl:b.length≤1000000000000) :
  Con prog 140 #[vf,vk,vb] r [] (Ret fun u η=>∃ a c,u=.slice a 64 c∧η=[OwnP Rp.u8 5 (.slice a 64 c) (shaSum b)]):=by
 obtain ⟨a1,c1,rfl⟩:=hf.shape;obtain ⟨a2,c2,rfl⟩:=hk.shape;obtain ⟨a3,c3,rfl⟩:=hb.shape;refine Con.of (n:=52) _ rfl func140 rfl rfl rfl fun g hg R hR=>?_;have hf:=hf.mono hg;have hk:=hk.mono hg;have hb:=hb.mono hg;have hsum:shaSum b=outB (feedN shaH (b++padB b.length) ((b++padB b.length).length / 128)):=rfl;have hW:=pad_whole b;have hpl:(b++padB b.length).length≤1000000001000:=by rw [List.length_append,padB];simp;unfold padN;omega
 refine S.seq<|S.region rfl<|O.q 1 rfl<|O.nil<|S.seq<|S.region rfl<|O.opE (.p rfl) (.litP (T:=Rp.w64) (ys:=[]) underlying207 elem274 zF rfl rfl trivial zF) ?_;rintro _ _ ⟨a13,c13,rfl,rfl⟩;refine O.q 1 rfl<|O.opE (.p rfl) (.appendP (T:=Rp.w64) pure_w64 underlying207 elem274 zF rfl rfl zD (by first|assumption|exact Arr.mono hg zE|exact Arr.left zE|exact Arr.left (Arr.mono hg zE)) zG zG) ?_;rintro _ _ ⟨a15,c15,rfl,rfl⟩;refine O.q 1 rfl<|O.nil<|S.seq<|S.ownIs (T:=Rp.w64) (e:=274) (v' :=.slice a15 8 c15) (xs' :=feedN shaH (b++padB b.length) 0) zD rfl rfl ?_;refine S.region rfl<|O.q 1 rfl<|O.call0 (.p rfl) rfl zC rfl rfl ((r1whole_c (by first|assumption|exact Arr.mono hg zE|exact Arr.left zE|exact Arr.left (Arr.mono hg zE)) zG)) ?_;rintro _ _ ⟨a17,c17,rfl,rfl⟩
 try simp only [zx1,zx2,zx3]
 refine O.q 1 rfl<|O.nil<|S.seq<|S.seq<|S.frzA zD fun g hs hm hw=>?_;replace hg:=Fr.sub_trans hg hs;replace hR:=melted hR hm
 try replace hf:=hf.mono hs
 try replace hk:=hk.mono hs
 try replace hb:=hb.mono hs
 clear hs hm;refine S.region rfl<|O.q 1 rfl<|O.nil (S.block ?_);generalize b++padB b.length=W at *;refine S.loopK2 (ι:=Nat) (κ:=Option Addr × Nat) (fun n s=>n≤W.length / 128) (fun n s=>[(9,.int .i64 ((128*n:Nat):Int)),(7,.slice s.1 8 s.2)]) [(1,_),(8,_)] (fun n s=>[OwnP Rp.w64 274 (.slice s.1 8 s.2) (feedN shaH W n)]) (fun n s=>W.length / 128 - n) (0) ((a15,c15)) zI (.cons rfl (.cons rfl (.nil))) (.cons rfl (.cons rfl (.nil))) rfl fun n s hx ih=>?_;have hm1:=meltRefl (g:=g);have hfl:=feedN_len shaH W rfl n;refine S.seq<|S.seq<|S.region rfl<|O.q 2 rfl<|O.op (.p rfl) (.len rfl underlying24 rfl)<|O.op (.p rfl) (.lss rfl rfl)<|O.nil ?_
 first|refine S.condD rfl (fun h21=>?_) (fun h21=>?_)|refine S.condB rfl (fun h21=>?_) (fun h21=>?_)
 ·have hn:n<W.length / 128:=by omega
  have hg_p:=hg;have hR_p:=hR
  try have hf_p:=hf
  try have hk_p:=hk
  try have hb_p:=hb
  try have hw_p:=hw
  refine S.frzH (B:=OwnP Rp.w64 274 (.slice s.1 8 s.2) (feedN shaH W n)) zD fun gp hsp ⟨mp,hmp,hsmp⟩ hbp=>?_;replace hg:=Fr.sub_trans hg hsp;replace hR:=backR hR hbp
  try replace hf:=hf.mono hsp
  try replace hk:=hk.mono hsp
  try replace hb:=hb.mono hsp
  try replace hw:=hw.mono hsp
  have hat:=(OwnP.arr hmp).mono hsmp;refine S.skip<|S.seq<|S.block<|S.region rfl<|O.q 5 rfl<|O.op (.p rfl) (.add rfl rfl (IntWalk.i64_in _ zB))<|O.sliceMid (a:=128*n) (b:=128*n+128) (.p rfl) underlying24 size5 rfl rfl rfl zE zG zG zG zG (fun u30 ha30=>?_);obtain ⟨a30,c30,rfl⟩:=ha30.shape;refine O.call0 (.p rfl) rfl zC rfl rfl ((r1turn_c hat hfl hk ha30 zK)) ?_;rintro _ _ ⟨a31,c31,rfl,rfl⟩
  try simp only [zx1,zx2,zx3]
  refine O.q 1 rfl<|O.nil<|S.inBlock<|S.back hbp ?_;replace hg:=hg_p;replace hR:=hR_p
  try replace hf:=hf_p
  try replace hk:=hk_p
  try replace hb:=hb_p
  try replace hw:=hw_p
  clear hg_p hR_p;rw [← feedN_next];refine S.region rfl<|O.q 1 rfl<|O.op (.p rfl) (.add rfl rfl (IntWalk.i64_in _ zB))<|O.q 1 rfl<|O.nil<|S.slot 9 (v' :=.int .i64 ((128*(n+1):Nat):Int)) rfl (congrArg _ zB) ?_;exact S.pw (ih (n+1) ((a31,c31)) zB zB)
 ·clear ih
  have hn:n=W.length / 128:=by omega
  subst hn;generalize feedN shaH W (W.length / 128)=ws at *;refine S.frzA zD fun g hs hm hh=>?_;replace hg:=Fr.sub_trans hg hs;replace hR:=melted hR hm
  try replace hf:=hf.mono hs
  try replace hk:=hk.mono hs
  try replace hb:=hb.mono hs
  try replace hw:=hw.mono hs
  replace hm1:=meltTrans hm1 hm;clear hs hm;refine S.addNil (T:=Rp.u8) (e:=5) ?_;refine S.exit rfl<|S.seq<|S.region rfl<|O.q 1 rfl<|O.nil<|S.seq<|S.seq<|S.region rfl<|O.q 1 rfl<|O.nil<|S.block<|S.loopK2 (ι:=Nat) (κ:=Option Addr × Nat) (fun k u=>k≤8) (fun k u=>[(11,.int .i64 (k:Int)),(10,.slice u.1 (8*k) u.2)]) [(7,_)] (fun k u=>[OwnP Rp.u8 5 (.slice u.1 (8*k) u.2) (outB (ws.take k))]) (fun k u=>8 - k) (0) ((none,0)) zI (.cons rfl (.cons rfl (.nil))) (.cons rfl (.nil)) rfl fun k u hx ih=>?_;have hm2:=meltRefl (g:=g);refine S.seq<|S.seq<|S.region rfl<|O.q 1 rfl<|O.op (.p rfl) (.lss rfl rfl)<|O.nil ?_
  first|refine S.condD rfl (fun h33=>?_) (fun h33=>?_)|refine S.condB rfl (fun h33=>?_) (fun h33=>?_)
  ·have hk8:k<8:=by omega
   have hkw:k<ws.length:=by omega
   have hol:(outB (ws.take k)).length=8*k:=by rw [outB_len,List.length_take];omega
   have hsn:=outB_snoc hkw;refine S.skip<|S.seq<|S.block<|S.seq<|S.region rfl<|O.q 1 rfl<|O.nil<|S.block<|S.ownIs (T:=Rp.u8) (e:=5) (v' :=.slice u.1 (8*k+0) u.2) (xs' :=outB (ws.take k)++(outW ws[k]).take 0) zD rfl zI ?_;refine S.loopK2 (ι:=Nat) (κ:=Option Addr × Nat) (fun j z=>j≤8) (fun j z=>[(12,.int .i64 ((56:Int) - ((8*j:Nat):Int))),(10,.slice z.1 (8*k+j) z.2)]) [(7,_),(11,_)] (fun j z=>[OwnP Rp.u8 5 (.slice z.1 (8*k+j) z.2) (outB (ws.take k)++(outW ws[k]).take j)]) (fun j z=>8 - j) (0) (u) zI (.cons rfl (.cons rfl (.nil))) (.cons rfl (.cons rfl (.nil))) rfl fun j z hx ih=>?_;have hm3:=meltRefl (g:=g);refine S.seq<|S.seq<|S.region rfl<|O.q 1 rfl<|O.op (.p rfl) (.geq rfl rfl)<|O.nil ?_
   first|refine S.condD rfl (fun h37=>?_) (fun h37=>?_)|refine S.condB rfl (fun h37=>?_) (fun h37=>?_)
   ·have hj:j<8:=by omega
    have hlj:=be_take_l ((ws[k].toNat:Nat):Int) j zB;have hxl:=ws[k].toNat_lt;have htk:(outB (ws.take k)++(outW ws[k]).take j).length=8*k+j:=by rw [List.length_append,hol,outW,hlj]
    refine S.skip<|S.seq<|S.block<|S.region rfl<|O.q 3 rfl<|O.ia (.p rfl) underlying207 size274 rfl rfl (show _=(((k):Nat):Int) by omega) (by first|assumption|exact Arr.mono hg zE|exact Arr.left zE|exact Arr.left (Arr.mono hg zE)) (h:=fun p43 cs43 hp43 hr43=>?_)
    cases hr43
    refine O.op (.p rfl) (.loadAt flat274 rfl hp43 rfl) ?_;refine O.q 1 rfl<|O.op (.p rfl) (.cvt underlying3 underlying197 rfl)<|O.slot 46 (v' :=.int .u64 ((56:Int) - ((8*j:Nat):Int))) rfl (by exact congrArg (Value.int .u64) (by rw [show (56:Int) - ((8*j:Nat):Int)=((56 - 8*j:Nat):Int) from by omega,wrapN zB])) ?_;refine O.op (.p rfl) (.shr rfl rfl zB)<|O.op (.p rfl) (.cvt underlying274 underlying5 rfl)<|O.slot 48 (v' :=byteV (beAt (ws[k].toNat:Int) (7 - j))) rfl (by exact shiftN (N:=ws[k].toNat) zB hj) ?_;refine O.opE (.p rfl) (.litP (T:=Rp.u8) (ys:=[beAt (ws[k].toNat:Int) (7 - j)]) underlying24 elem5 zF rfl rfl ⟨rfl,trivial⟩ zF) ?_;rintro _ _ ⟨a49,c49,rfl,rfl⟩;refine O.opE (.p rfl) (.appendO (T:=Rp.u8) underlying24 elem5 zF rfl rfl zD zD zG zG) ?_;rintro _ _ ⟨a50,c50,rfl,rfl⟩;refine O.q 1 rfl<|O.nil<|S.inBlock<|S.region rfl<|O.q 1 rfl<|O.op (.p rfl) (.sub rfl rfl (IntWalk.i64_in _ zB))<|O.q 1 rfl<|O.nil ?_;rw [List.append_assoc,show (outW ws[k]).take j++[beAt (ws[k].toNat:Int) (7 - j)]=(outW ws[k]).take (j+1) from be_take8 _ j hj]
    try simp only [List.length_append,hol,outW,hlj,List.length_singleton]
    refine S.slot 12 (v' :=.int .i64 ((56:Int) - ((8*(j+1):Nat):Int))) rfl (congrArg _ zB) ?_;exact S.pw (ih (j+1) ((a50,c50)) zB zB)
   ·clear ih
    have hj:j=8:=by omega
    subst hj;rw [show (outW ws[k]).take 8=outW ws[k] from rfl,hsn];refine S.exit rfl<|S.inBlock<|S.region rfl<|O.q 1 rfl<|O.op (.p rfl) (.add rfl rfl (IntWalk.i64_in _ zB))<|O.q 1 rfl<|O.nil ?_;exact S.pw (ih (k+1) (z) zB zB)
  ·clear ih
   have hk:k=8:=by omega
   subst hk;rw [show ws.take 8=ws from List.take_of_length_le zB];refine S.exit rfl<|S.seq<|S.region rfl<|O.q 2 rfl<|O.nil<|S.ret results140 rfl fun w hw=>Holds.end_ hR hw ?_;exact ⟨[OwnP Rp.u8 5 (.slice u.1 64 u.2) (outB ws)],⟨u.1,u.2,rfl,by rw [hsum]⟩,by repeat (first|exact zpa|exact zpn|(apply zpc;focus (repeat (first|exact zh|apply zt)))|apply zps)⟩
theorem r1table_c {r:Fr}:Con prog 139 #[] r [] (Ret fun u η=>∃ a c b d,u=.tuple #[.slice a 8 c,.slice b 80 d]∧η=[OwnP Rp.w64 274 (.slice b 80 d) shaK,OwnP Rp.w64 274 (.slice a 8 c) shaH]):=by
 refine Con.of (n:=4) _ rfl func139 rfl rfl rfl fun g hg R hR=>?_;refine S.seq<|S.region rfl<|O.q 2 rfl<|O.nil<|S.seq<|S.region rfl<|O.opE (.p rfl) (.litP (T:=Rp.w64) (ys:=shaH) underlying207 elem274 zF rfl rfl (by repeat (first|exact trivial|refine ⟨rfl,?_⟩)) zF) ?_;rintro _ _ ⟨a2,c2,rfl,rfl⟩;refine O.opE (.p rfl) (.litP (T:=Rp.w64) (ys:=shaK) underlying207 elem274 zF rfl rfl (by repeat (first|exact trivial|refine ⟨rfl,?_⟩)) zF) ?_;rintro _ _ ⟨a3,c3,rfl,rfl⟩;refine O.q 2 rfl<|O.nil<|S.ret2 results139 rfl rfl fun w hw=>Holds.end_ hR hw ?_;exact pk ⟨a2,c2,a3,c3,rfl,rfl⟩
theorem r1sum_c {r:Fr} {vb:Value} {b:List UInt8} (hb:Arr Rp.u8 r vb b) (hl:b.length≤1000000000000) :
  Con prog 73 #[vb] r [] (Ret fun u η=>∃ a c,u=.slice a 64 c∧η=[OwnP Rp.u8 5 (.slice a 64 c) (shaSum b)]):=by
 obtain ⟨a1,c1,rfl⟩:=hb.shape;refine Con.of (n:=13) _ rfl func73 rfl rfl rfl fun g hg R hR=>?_;have hb:=hb.mono hg;refine S.seq<|S.region rfl<|O.q 1 rfl<|O.nil<|S.seq<|S.region rfl<|O.call0 (.p rfl) rfl zC rfl rfl (r1table_c) ?_;rintro _ _ ⟨a6,c6,b6,d6,rfl,rfl⟩
 try simp only [zx1,zx2,zx3]
 refine O.q 5 rfl<|O.nil<|S.seq<|S.frzA zD fun g hs hm hk=>?_;replace hg:=Fr.sub_trans hg hs;replace hR:=melted hR hm
 try replace hb:=hb.mono hs
 clear hs hm;refine S.frzA zD fun g hs hm hf=>?_;replace hg:=Fr.sub_trans hg hs;replace hR:=melted hR hm
 try replace hb:=hb.mono hs
 try replace hk:=hk.mono hs
 clear hs hm;refine S.region rfl<|O.q 3 rfl<|O.call0 (.p rfl) rfl zC rfl rfl ((r1by_c hf hk hb hl)) ?_;rintro _ _ ⟨a12,c12,rfl,rfl⟩
 try simp only [zx1,zx2,zx3]
 refine O.q 1 rfl<|O.nil ?_;exact S.rt results73 rfl hR ⟨a12,c12,rfl,rfl⟩
end Go.Proofs.YtojafegjlahajaaGreatDoor
