/- Texts of this proof. -/
import Derived.Test.YtojafegjlahajaaGreatDoorQFi
import Derived.Test.YtojafegjlahajaaGreatDoorQSpLaid
open Go Go.Sp Go.Proofs.Tryz
set_option maxRecDepth 100000
set_option maxHeartbeats 1000000
attribute [local irreducible] obj Own OwnP
namespace Go.Proofs.YtojafegjlahajaaGreatDoor
theorem SameBytes_c {r:Fr} {va vb:Value} {xs ys:List UInt8} (ha:Arr Rp.u8 r va xs) (hb:Arr Rp.u8 r vb ys) :
  Con prog 19 #[va,vb] r [] (Ret fun v η=>v=.bool (decide (xs=ys))∧η=[]):=by
 refine Con.of (n:=26) _ rfl func19 rfl rfl rfl fun g hg R hR=>?_;have ha:=ha.mono hg;have hb:=hb.mono hg;have l1:=ha.bound;have l2:=hb.bound;obtain ⟨a1,c1,rfl⟩:=ha.shape;obtain ⟨a2,c2,rfl⟩:=hb.shape;refine S.seq<|S.region rfl<|O.q 1 rfl<|O.nil<|S.seq<|S.seq<|S.region rfl<|O.q 1 rfl<|O.op (.p rfl) (.len rfl underlying24 rfl)<|O.q 1 rfl<|O.op (.p rfl) (.len rfl underlying24 rfl)<|O.op (.p rfl) (.neq rfl rfl)<|O.nil ?_
 first|refine S.condD rfl (fun h10=>?_) (fun h10=>?_)|refine S.condB rfl (fun h10=>?_) (fun h10=>?_)
 ·refine S.seq<|S.region rfl<|O.q 1 rfl<|O.nil<|S.ret results19 rfl fun w hw=>hR _ _ w ?_ hw
  refine ⟨?_,rfl⟩
  congr 1
  symm
  rw [decide_eq_false_iff_not];rintro rfl;exact h10 rfl
 ·refine S.skip<|S.seq<|S.seq<|S.region rfl<|O.q 1 rfl<|O.nil (S.block ?_)
  have h10:xs.length=ys.length:=by omega
  refine S.loopK (ι:=Nat) (fun i=>i≤xs.length∧xs.take i=ys.take i) (fun i=>[(5,.int .i64 (i:Int))]) [(0,_),(1,_)] (fun i=>[]) (fun i=>xs.length - i) (0) zI (.cons rfl (.nil)) (.cons rfl (.cons rfl (.nil))) rfl fun i hx ih=>?_;have hm1:=meltRefl (g:=g);obtain ⟨hi,he⟩:=hx;refine S.seq<|S.seq<|S.region rfl<|O.q 2 rfl<|O.op (.p rfl) (.len rfl underlying24 rfl)<|O.op (.p rfl) (.lss rfl rfl)<|O.nil ?_
  first|refine S.condD rfl (fun h14=>?_) (fun h14=>?_)|refine S.condB rfl (fun h14=>?_) (fun h14=>?_)
  ·have hlt:i<xs.length:=by omega
   refine S.skip<|S.seq<|S.block<|S.seq<|S.regionD (L:=[0,1,2,3,4,5,6,7,8]) F.mixed zC<|OD.q 2 rfl<|OD.ia (.p rfl) underlying24 size5 rfl rfl rfl (by first|assumption|exact Arr.mono hg zE|exact Arr.left zE|exact Arr.left (Arr.mono hg zE)) (h:=fun p19 cs19 hp19 hr19=>?_)
   cases hr19
   refine .quiet (.p rfl) rfl (fun _=>.loadAt flat5 rfl hp19 rfl) ?_;refine OD.q 2 rfl<|OD.ia (.p rfl) underlying24 size5 rfl rfl rfl (by first|assumption|exact Arr.mono hg zE|exact Arr.left zE|exact Arr.left (Arr.mono hg zE)) (h:=fun p23 cs23 hp23 hr23=>?_)
   cases hr23
   refine .quiet (.p rfl) rfl (fun _=>.loadAt flat5 rfl hp23 rfl) ?_;refine .quiet (.p rfl) rfl (fun _=>.neq rfl rfl)<|ODx.nil ?_
   first|refine S.condD rfl (fun h25=>?_) (fun h25=>?_)|refine S.condB rfl (fun h25=>?_) (fun h25=>?_)
   ·refine S.seq<|S.region rfl<|O.q 1 rfl<|O.nil<|S.ret results19 rfl fun w hw=>hR _ _ w ?_ hw
    refine ⟨?_,rfl⟩
    congr 1
    symm
    rw [decide_eq_false_iff_not];rintro rfl;exact h25 rfl
   ·refine S.skip<|S.inBlock<|S.region rfl<|O.q 1 rfl<|O.op (.p rfl) (.add rfl rfl (IntWalk.i64_in _ zB))<|O.q 1 rfl<|O.nil ?_
    exact S.wk (ih (i+1) (by (refine ⟨hlt,?_⟩;rw [List.take_succ_eq_append_getElem hlt,List.take_succ_eq_append_getElem zB,he];congr 2;exact UInt8.toNat_inj.1 zB)) zB)
  ·refine S.exit rfl<|S.seq<|S.region rfl<|O.q 1 rfl<|O.nil<|S.ret results19 rfl fun w hw=>hR _ _ w ?_ hw
   refine ⟨?_,rfl⟩
   congr 1
   symm
   rw [decide_eq_true_eq];have:i=xs.length:=by omega
   subst this
   rwa [List.take_of_length_le (Nat.le_refl _),List.take_of_length_le zB] at he
theorem rotL_c {r:Fr} (x:U64) {a:Nat} {z:Int} (hz:z=0 - (a:Int)) (h0:0<a) (h:a<64) :
  Con prog 327 #[.int .u64 (x.toNat:Int),.int .i64 z] r [] (Ret fun v η=>v=.int .u64 ((rotR x a).toNat:Int)∧η=[]):=by
 refine Con.of (n:=17) _ rfl func327 rfl rfl rfl fun g hg R hR=>?_;refine S.seq<|S.region rfl<|O.q 1 rfl<|O.nil<|S.seq<|S.region rfl<|O.q 1 rfl<|O.op (.p rfl) (.cvt underlying3 underlying197 rfl)<|O.op (.p rfl) (.and rfl rfl)<|O.slot 8 (v' :=.int .u64 ((64 - a:Nat):Int)) rfl (by exact congrArg (Value.int .u64) (neg63 hz h0 h)) ?_;refine O.q 1 rfl<|O.nil<|S.seq<|S.region rfl<|O.q 2 rfl<|O.op (.p rfl) (.shl rfl rfl zB)<|O.slot 11 (v' :=.int .u64 ((x <<<UInt64.ofNat (64 - a)).toNat:Int)) rfl (by exact congrArg (Value.int .u64) (w_shl x zB)) ?_;refine O.q 2 rfl<|O.op (.p rfl) (.subW rfl rfl)<|O.slot 14 (v' :=.int .u64 (a:Int)) rfl (by (rw [show ((64:Int) - ((64 - a:Nat):Int))=((a:Nat):Int) from by omega,wrapN zB])) ?_;refine O.op (.p rfl) (.shr rfl rfl zB)<|O.slot 15 (v' :=.int .u64 ((x >>>UInt64.ofNat a).toNat:Int)) rfl (by exact congrArg (Value.int .u64) (w_shr x h)) ?_;refine O.op (.p rfl) (.or rfl rfl)<|O.slot 16 (v' :=.int .u64 ((rotR x a).toNat:Int)) rfl (by exact congrArg (Value.int .u64) ((w_or _ _).trans (by rw [UInt64.or_comm];rfl))) ?_;refine O.q 1 rfl<|O.nil ?_;exact S.rt results327 rfl hR ⟨rfl,rfl⟩
theorem mix_c {r:Fr} (x:U64) {a b c:Nat} (h0:0<a) (h:a<64) (k0:0<b) (k:b<64) (j0:0<c) (j:c<64) :
  Con prog 287 #[.int .u64 (x.toNat:Int),.int .i64 (a:Int),.int .i64 (b:Int),.int .i64 (c:Int)] r [] (Ret fun v η=>v=.int .u64 ((mixW x a b c).toNat:Int)∧η=[]):=by
 refine Con.of (n:=23) _ rfl func287 rfl rfl rfl fun g hg R hR=>?_;have w:∀ n:Nat,n<64→IntKind.i64.wrap (0 - (n:Int))=0 - (n:Int):=fun n hn=>IntWalk.i64_in _ zB;refine S.seq<|S.region rfl<|O.q 1 rfl<|O.nil<|S.seq<|S.region rfl<|O.q 2 rfl<|O.op (.p rfl) (.neg rfl)<|O.slot 11 (v' :=.int .i64 (0 - (a:Int))) rfl (by rw [w a h]) ?_;refine O.call0 (.p rfl) rfl zC rfl rfl ((rotL_c x rfl h0 h)) ?_;rintro _ _ ⟨rfl,rfl⟩
 try simp only [zx1,zx2,zx3]
 refine O.q 2 rfl<|O.op (.p rfl) (.neg rfl)<|O.slot 15 (v' :=.int .i64 (0 - (b:Int))) rfl (by rw [w b k]) ?_;refine O.call0 (.p rfl) rfl zC rfl rfl ((rotL_c x rfl k0 k)) ?_;rintro _ _ ⟨rfl,rfl⟩
 try simp only [zx1,zx2,zx3]
 refine O.op (.p rfl) (.xor rfl rfl)<|O.slot 17 (v' :=.int .u64 ((rotR x a ^^^ rotR x b).toNat:Int)) rfl (by exact congrArg (Value.int .u64) (w_xor _ _)) ?_;refine O.q 2 rfl<|O.op (.p rfl) (.neg rfl)<|O.slot 20 (v' :=.int .i64 (0 - (c:Int))) rfl (by rw [w c j]) ?_;refine O.call0 (.p rfl) rfl zC rfl rfl ((rotL_c x rfl j0 j)) ?_;rintro _ _ ⟨rfl,rfl⟩
 try simp only [zx1,zx2,zx3]
 refine O.op (.p rfl) (.xor rfl rfl)<|O.slot 22 (v' :=.int .u64 ((mixW x a b c).toNat:Int)) rfl (by exact congrArg (Value.int .u64) (w_xor _ _)) ?_;refine O.q 1 rfl<|O.nil ?_;exact S.rt results287 rfl hR ⟨rfl,rfl⟩
theorem small_c {r:Fr} (x:U64) {a b c:Nat} (h0:0<a) (h:a<64) (k0:0<b) (k:b<64) (j:c<64) :
  Con prog 286 #[.int .u64 (x.toNat:Int),.int .i64 (a:Int),.int .i64 (b:Int),.int .i64 (c:Int)] r [] (Ret fun v η=>v=.int .u64 ((smallW x a b c).toNat:Int)∧η=[]):=by
 refine Con.of (n:=22) _ rfl func286 rfl rfl rfl fun g hg R hR=>?_;have w:∀ n:Nat,n<64→IntKind.i64.wrap (0 - (n:Int))=0 - (n:Int):=fun n hn=>IntWalk.i64_in _ zB;refine S.seq<|S.region rfl<|O.q 1 rfl<|O.nil<|S.seq<|S.regionD (L:=[0,1,2,4,5,6,9,10,11,3,7,8,12,13]) F.mixed zC<|OD.q 2 rfl<|.quiet (.p rfl) rfl (fun _=>.neg rfl)<|OD.slot 11 (v' :=.int .i64 (0 - (a:Int))) rfl (by rw [w a h]) ?_;refine OD.q 2 rfl<|.quiet (.p rfl) rfl (fun _=>.neg rfl)<|OD.slot 15 (v' :=.int .i64 (0 - (b:Int))) rfl (by rw [w b k]) ?_;refine OD.q 2 rfl<|.quiet (.p rfl) rfl (fun _=>.shr rfl rfl zB)<|OD.slot 20 (v' :=.int .u64 ((x >>>UInt64.ofNat c).toNat:Int)) rfl (by exact congrArg (Value.int .u64) (w_shr x j)) ?_;refine OD.call0 (.p rfl) zC rfl zC rfl rfl ((rotL_c x rfl h0 h)) ?_;rintro _ _ ⟨rfl,rfl⟩
 try simp only [zx1,zx2,zx3]
 refine OD.call0 (.p rfl) zC rfl zC rfl rfl ((rotL_c x rfl k0 k)) ?_;rintro _ _ ⟨rfl,rfl⟩
 try simp only [zx1,zx2,zx3]
 refine .quiet (.p rfl) rfl (fun _=>.xor rfl rfl)<|OD.slot 17 (v' :=.int .u64 ((rotR x a ^^^ rotR x b).toNat:Int)) rfl (by exact congrArg (Value.int .u64) (w_xor _ _)) ?_;refine .quiet (.p rfl) rfl (fun _=>.xor rfl rfl)<|OD.slot 21 (v' :=.int .u64 ((smallW x a b c).toNat:Int)) rfl (by exact congrArg (Value.int .u64) (w_xor _ _)) ?_;refine OD.q 1 rfl<|ODx.nil ?_;exact S.rt results286 rfl hR ⟨rfl,rfl⟩
theorem K_at {r:Fr} {a:Addr} {t:Nat} (h:At r a (w64s shaK)) (ht:t<80):r.cell (a.add t)=some (w64 (shaK.getD t 0)):=h.at (w64s_get (by show t<80;exact ht))
theorem block_c {r:Fr} {bh:Nat} {T:TypeId} {vb:Value} {b:List UInt8} {v:List U64} {rest:List Value} (hv:v.length=8) (hb:Arr Rp.u8 r vb b) (hl:b.length=128) (hK:At r ⟨1,0,none⟩ (w64s shaK)) :
  Con prog 211 #[.pointer (some ⟨bh,0,none⟩),vb] r [obj bh T (w64s v++rest)] (Ret fun u η=>u=.tuple #[]∧η=[obj bh T (w64s (shaBlk v b)++rest)]):=by
 refine Con.of (n:=147) _ rfl func211 rfl rfl rfl fun g hg R hR=>?_;have hb:=hb.mono hg;have hK:=hK.mono hg;obtain ⟨a1,c1,rfl⟩:=hb.shape;refine S.seq<|S.region rfl<|O.opE (.p rfl) (.alloc (cs:=[.int .u64 0,.int .u64 0,.int .u64 0,.int .u64 0,.int .u64 0,.int .u64 0,.int .u64 0,.int .u64 0,.int .u64 0,.int .u64 0,.int .u64 0,.int .u64 0,.int .u64 0,.int .u64 0,.int .u64 0,.int .u64 0,.int .u64 0,.int .u64 0,.int .u64 0,.int .u64 0,.int .u64 0,.int .u64 0,.int .u64 0,.int .u64 0,.int .u64 0,.int .u64 0,.int .u64 0,.int .u64 0,.int .u64 0,.int .u64 0,.int .u64 0,.int .u64 0,.int .u64 0,.int .u64 0,.int .u64 0,.int .u64 0,.int .u64 0,.int .u64 0,.int .u64 0,.int .u64 0,.int .u64 0,.int .u64 0,.int .u64 0,.int .u64 0,.int .u64 0,.int .u64 0,.int .u64 0,.int .u64 0,.int .u64 0,.int .u64 0,.int .u64 0,.int .u64 0,.int .u64 0,.int .u64 0,.int .u64 0,.int .u64 0,.int .u64 0,.int .u64 0,.int .u64 0,.int .u64 0,.int .u64 0,.int .u64 0,.int .u64 0,.int .u64 0,.int .u64 0,.int .u64 0,.int .u64 0,.int .u64 0,.int .u64 0,.int .u64 0,.int .u64 0,.int .u64 0,.int .u64 0,.int .u64 0,.int .u64 0,.int .u64 0,.int .u64 0,.int .u64 0,.int .u64 0,.int .u64 0]) zeroValue382 rfl) ?_;rintro _ _ ⟨b4,rfl,rfl⟩;refine O.nil<|S.seq<|S.seq<|S.region rfl<|O.q 1 rfl<|O.nil<|S.block<|S.objIs (b:=b4) (cs' :=w64s (schM b 0)) zD rfl ?_
 refine S.loopK (ι:=Nat) (fun t=>t≤80) (fun t=>[(16,.int .i64 (t:Int))]) [(0,_),(1,_),(4,_)] (fun t=>[obj b4 382 (w64s (schM b t)),obj bh T (w64s v++rest)]) (fun t=>80 - t) (0) zB (.cons rfl (.nil)) (.cons rfl (.cons rfl (.cons rfl (.nil)))) rfl fun t hx ih=>?_;have hm1:=meltRefl (g:=g);refine S.seq<|S.region rfl<|O.op (.p rfl) (.lss rfl rfl)<|O.nil (S.seq ?_)
 first|refine S.condD rfl (fun h17=>?_) (fun h17=>?_)|refine S.condB rfl (fun h17=>?_) (fun h17=>?_)
 ·have ht:t<80:=by omega
  have hml:=schM_len (b:=b) (Nat.le_of_lt ht);refine S.skip<|S.seq<|S.block<|S.seq<|S.region rfl<|O.q 2 rfl<|O.nil<|S.seq<|S.seq<|S.region rfl<|O.q 1 rfl<|O.op (.p rfl) (.lss rfl rfl)<|O.nil ?_
  first|refine S.condD rfl (fun h20=>?_) (fun h20=>?_)|refine S.condB rfl (fun h20=>?_) (fun h20=>?_)
  ·have h16:t<16:=by omega
   have hsg:(b.take (8*t+8)).drop (8*t)=(b.drop (8*t)).take 8:=by rw [List.drop_take];congr 1;omega
   have hsa:beW ((b.take (8*t+8)).drop (8*t))=schedAt b (sched b t) t:=by rw [hsg,schedAt,if_pos h16]
   have hsl:((b.take (8*t+8)).drop (8*t)).length=8:=by simp;omega
   refine S.seq<|S.seq<|S.region rfl<|O.q 2 rfl<|O.op (.p rfl) (.mul rfl rfl (IntWalk.i64_in _ zB))<|O.q 1 rfl<|O.op (.p rfl) (.mul rfl rfl (IntWalk.i64_in _ zB))<|O.op (.p rfl) (.add rfl rfl (IntWalk.i64_in _ zB))<|O.sliceMid (a:=8*t) (b:=8*t+8) (.p rfl) underlying24 size5 rfl rfl rfl zE zG zG zG zG (fun u27 ha27=>?_);obtain ⟨a27,c27,rfl⟩:=ha27.shape;refine O.op (.p rfl) (.len rfl underlying24 rfl)<|O.q 1 rfl<|O.nil (S.block ?_);generalize (b.take (8*t+8)).drop (8*t)=seg at *;rw [hsl] at ha27 ⊢;refine S.objIs (b:=b4) (cs' :=w64s ((schM b t).set t (beW (seg.take 0)))) zD (by rw [show beW (seg.take 0)=0 from rfl,schM_zero ht]) ?_;refine S.loopK (ι:=Nat) (fun j=>j≤8) (fun j=>[(29,.int .i64 (j:Int))]) [(0,_),(1,_),(4,_),(5,_),(16,_),(27,_),(28,_)] (fun j=>[obj b4 382 (w64s ((schM b t).set t (beW (seg.take j)))),obj bh T (w64s v++rest)]) (fun j=>8 - j) (0) zB (.cons rfl (.nil)) (.cons rfl (.cons rfl (.cons rfl (.cons rfl (.cons rfl (.cons rfl (.cons rfl (.nil)))))))) rfl fun j hx ih=>?_;have hm2:=meltRefl (g:=g);refine S.seq<|S.region rfl<|O.op (.p rfl) (.lss rfl rfl)<|O.nil (S.seq ?_)
   first|refine S.condD rfl (fun h30=>?_) (fun h30=>?_)|refine S.condB rfl (fun h30=>?_) (fun h30=>?_)
   ·have hj:j<8:=by omega
    refine S.skip<|S.seq<|S.block<|S.seq<|S.region rfl<|O.ia (.p rfl) underlying24 size5 rfl rfl rfl (by first|assumption|exact Arr.mono hg zE|exact Arr.left zE|exact Arr.left (Arr.mono hg zE)) (h:=fun p31 cs31 hp31 hr31=>?_)
    cases hr31
    refine O.op (.p rfl) (.loadAt flat5 rfl hp31 rfl) ?_;refine O.q 1 rfl<|O.nil<|S.region rfl<|O.q 2 rfl<|O.op (.p rfl) (.idxArr (j:=t) underlying382 size274 rfl rfl (show _=(((t):Nat):Int) by omega) zB)<|O.op (.p rfl) (.loadObj flat274 rfl zD (w64s_get (by rw [List.length_set];omega))) ?_;refine O.slot 36 (v' :=.int .u64 ((beW (seg.take j)).toNat:Int)) rfl (by rw [Nat.zero_add,getD_set_self zB]) ?_;refine O.op (.p rfl) (.shl rfl rfl zB)<|O.slot 37 (v' :=.int .u64 ((beW (seg.take j) <<<8).toNat:Int)) rfl (by exact congrArg (Value.int .u64) (w_shl _ (n:=8) zF)) ?_;refine O.q 1 rfl<|O.op (.p rfl) (.cvt underlying5 underlying274 rfl)<|O.slot 39 (v' :=.int .u64 ((UInt64.ofNat seg[j].toNat).toNat:Int)) rfl (by exact congrArg (Value.int .u64) (w_u8 _)) ?_;refine O.op (.p rfl) (.or rfl rfl)<|O.slot 40 (v' :=.int .u64 ((beW (seg.take (j+1))).toNat:Int)) rfl (by exact congrArg (Value.int .u64) ((w_or _ _).trans (by rw [beW_take zB]))) ?_;refine O.op (.p rfl) (.idxArr (j:=t) underlying382 size274 rfl rfl (show _=(((t):Nat):Int) by omega) zB)<|O.opU rfl (.store1 flat274 rfl rfl rfl zD (by rw [w64s_length,List.length_set,hml];omega)) ?_;refine O.nil<|S.inBlock<|S.objIs (b:=b4) (cs' :=w64s ((schM b t).set t (beW (seg.take (j+1))))) zD (by rw [show Value.int .u64 ((beW (seg.take (j+1))).toNat:Int)=w64 (beW (seg.take (j+1))) from rfl,w64s_set,Nat.zero_add,List.set_set]) ?_
    refine S.region rfl<|O.op (.p rfl) (.add rfl rfl (IntWalk.i64_in _ zB))<|O.q 1 rfl<|O.nil ?_;exact S.wk (ih (j+1) zB zB)
   ·clear ih
    have hj:j=8:=by omega
    subst hj;refine S.objIs (b:=b4) (cs' :=w64s (schM b (t+1))) zD (by rw [List.take_of_length_le zB,hsa,schM_set ht]) ?_;refine S.exit rfl<|S.exit rfl<|S.region rfl<|O.op (.p rfl) (.add rfl rfl (IntWalk.i64_in _ zB))<|O.q 1 rfl<|O.nil ?_;exact S.wk (ih (t+1) zB zB)
  ·have h16:16≤t:=by omega
   have hsa:smallW ((sched b t).getD (t - 2) 0) 19 61 6+(sched b t).getD (t - 7) 0+smallW ((sched b t).getD (t - 15) 0) 1 8 7+(sched b t).getD (t - 16) 0=schedAt b (sched b t) t:=by rw [schedAt,if_neg zB]
   refine S.skip ?_;have hg_o:=hg;have hR_o:=hR
   try have hb_o:=hb
   try have hK_o:=hK
   refine S.frzH (B:=obj b4 382 (w64s (schM b t))) zD fun go hso ⟨mo,hmo,hsmo⟩ hbo=>?_;replace hg:=Fr.sub_trans hg hso;replace hR:=backR hR hbo
   try replace hb:=hb.mono hso
   try replace hK:=hK.mono hso
   have hat:=(obj_at hmo).mono hsmo;refine S.regionD (L:=[0,1,2,3,4,6,7,8,9,11,12,13,14,17,18,19,20,5,10,15,16,21,22,23]) F.mixed zC ?_;refine OD.q 2 rfl<|.quiet (.p rfl) rfl (fun _=>.sub rfl rfl (IntWalk.i64_in _ zB))<|.quiet (.p rfl) rfl (fun _=>.idxArrA (j:=t - 2) underlying382 size274 rfl rfl (show _=((t - 2:Nat):Int) by omega) zB)<|.quiet (.p rfl) rfl (fun _=>.load flat274 rfl (hat.at (w64s_get zB))) ?_;refine OD.slot 47 (v' :=.int .u64 (((sched b t).getD (t - 2) 0).toNat:Int)) rfl (by rw [schM_get zB]) ?_;refine OD.q 1 rfl<|.quiet (.p rfl) rfl (fun _=>.sub rfl rfl (IntWalk.i64_in _ zB))<|.quiet (.p rfl) rfl (fun _=>.idxArrA (j:=t - 7) underlying382 size274 rfl rfl (show _=((t - 7:Nat):Int) by omega) zB)<|.quiet (.p rfl) rfl (fun _=>.load flat274 rfl (hat.at (w64s_get zB))) ?_;refine OD.slot 52 (v' :=.int .u64 (((sched b t).getD (t - 7) 0).toNat:Int)) rfl (by rw [schM_get zB]) ?_;refine OD.q 1 rfl<|.quiet (.p rfl) rfl (fun _=>.sub rfl rfl (IntWalk.i64_in _ zB))<|.quiet (.p rfl) rfl (fun _=>.idxArrA (j:=t - 15) underlying382 size274 rfl rfl (show _=((t - 15:Nat):Int) by omega) zB)<|.quiet (.p rfl) rfl (fun _=>.load flat274 rfl (hat.at (w64s_get zB))) ?_;refine OD.slot 57 (v' :=.int .u64 (((sched b t).getD (t - 15) 0).toNat:Int)) rfl (by rw [schM_get zB]) ?_
   refine OD.q 1 rfl<|.quiet (.p rfl) rfl (fun _=>.sub rfl rfl (IntWalk.i64_in _ zB))<|.quiet (.p rfl) rfl (fun _=>.idxArrA (j:=t - 16) underlying382 size274 rfl rfl (show _=((t - 16:Nat):Int) by omega) zB)<|.quiet (.p rfl) rfl (fun _=>.load flat274 rfl (hat.at (w64s_get zB))) ?_;refine OD.slot 63 (v' :=.int .u64 (((sched b t).getD (t - 16) 0).toNat:Int)) rfl (by rw [schM_get zB]) ?_;refine OD.call0 (.p rfl) zC rfl zC rfl rfl ((small_c (a:=19) (b:=61) (c:=6) _ zF zF zF zF zF)) ?_;rintro _ _ ⟨rfl,rfl⟩
   try simp only [zx1,zx2,zx3]
   refine .quiet (.p rfl) rfl (fun _=>.addW rfl rfl)<|OD.slot 53 (v' :=.int .u64 ((smallW ((sched b t).getD (t - 2) 0) 19 61 6+(sched b t).getD (t - 7) 0).toNat:Int)) rfl (by exact congrArg (Value.int .u64) (w_add _ _)) ?_;refine OD.call0 (.p rfl) zC rfl zC rfl rfl ((small_c (a:=1) (b:=8) (c:=7) _ zF zF zF zF zF)) ?_;rintro _ _ ⟨rfl,rfl⟩
   try simp only [zx1,zx2,zx3]
   refine .quiet (.p rfl) rfl (fun _=>.addW rfl rfl)<|OD.slot 59 (v' :=.int .u64 ((smallW ((sched b t).getD (t - 2) 0) 19 61 6+(sched b t).getD (t - 7) 0+smallW ((sched b t).getD (t - 15) 0) 1 8 7).toNat:Int)) rfl (by exact congrArg (Value.int .u64) (w_add _ _)) ?_;refine .quiet (.p rfl) rfl (fun _=>.addW rfl rfl)<|OD.slot 64 (v' :=.int .u64 ((schedAt b (sched b t) t).toNat:Int)) rfl (by exact congrArg (Value.int .u64) ((w_add _ _).trans (by rw [hsa]))) ?_;refine .quiet (.p rfl) rfl (fun _=>.idxArr (j:=t) underlying382 size274 rfl rfl rfl zB)<|OD.last1 rfl zC (fun _ hw=>hbo hw) flat274 rfl rfl zO zD zb25 ?_;replace hg:=hg_o;replace hR:=hR_o
   try replace hb:=hb_o
   try replace hK:=hK_o
   clear hg_o hR_o;refine S.inBlock<|S.objIs (b:=b4) (cs' :=w64s (schM b (t+1))) zD (by rw [show Value.int .u64 ((schedAt b (sched b t) t).toNat:Int)=w64 (schedAt b (sched b t) t) from rfl,w64s_set,Nat.zero_add,schM_set ht]) ?_;refine S.region rfl<|O.op (.p rfl) (.add rfl rfl (IntWalk.i64_in _ zB))<|O.q 1 rfl<|O.nil ?_;exact S.wk (ih (t+1) zB zB)
 ·clear ih
  have ht:t=80:=by omega
  subst ht;rw [schM_80];have hS:=sched_len b 80;have hblk:shaBlk v b=List.zipWith (·+·) v (rnds v (sched b 80) 80):=rfl;generalize sched b 80=Sc at *;refine S.exit rfl<|S.seq<|S.region rfl<|O.q 1 rfl<|O.op (.p rfl) (.nilCheck rfl)<|O.op (.p rfl) (.loadObjAgg (news:=w64s v) isAgg276 (by rw [w64s_length,hv];kernel_rfl) rfl zD (by rw [List.drop_zero,List.take_left' rfl])) ?_;refine O.opE (.p rfl) (.alloc (cs:=[.int .u64 0,.int .u64 0,.int .u64 0,.int .u64 0,.int .u64 0,.int .u64 0,.int .u64 0,.int .u64 0]) zeroValue276 rfl) ?_;rintro _ _ ⟨b8,rfl,rfl⟩;refine O.opU rfl (.storeObj (news:=w64s v) (by rw [w64s_length,hv];kernel_rfl) rfl rfl zX (w64s_all v) zD (by rw [w64s_length,hv];decide)) ?_;refine O.nil<|S.seq<|S.seq<|S.objIs (b:=b8) (cs' :=w64s v) zD (by rw [List.take_zero,List.nil_append,List.drop_eq_nil_of_le (by rw [w64s_length,hv];decide),List.append_nil]) ?_;refine S.region rfl<|O.op (.p rfl) (.loadObjAgg (news:=w64s Sc) isAgg382 (by rw [w64s_length,hS];kernel_rfl) rfl zD (by rw [List.drop_zero,List.take_length])) ?_;refine O.q 1 rfl<|O.nil<|S.block<|S.loopK (ι:=Nat) (fun t=>t≤80) (fun t=>[(71,.int .i64 (t:Int))]) [(0,_),(8,_),(70,_)] (fun t=>[obj b8 276 (w64s (rnds v Sc t)),obj b4 382 (w64s Sc),obj bh T (w64s v++rest)]) (fun t=>80 - t) (0) zB (.cons rfl (.nil)) (.cons rfl (.cons rfl (.cons rfl (.nil)))) rfl fun t hx ih=>?_;have hm2:=meltRefl (g:=g)
  refine S.seq<|S.region rfl<|O.op (.p rfl) (.lss rfl rfl)<|O.nil (S.seq ?_)
  first|refine S.condD rfl (fun h72=>?_) (fun h72=>?_)|refine S.condB rfl (fun h72=>?_) (fun h72=>?_)
  ·have ht:t<80:=by omega
   obtain ⟨x0,x1,x2,x3,x4,x5,x6,x7,hxs⟩:=list8 (rnds_len v Sc hv t);have hst:rnds v Sc (t+1)=rnd [x0,x1,x2,x3,x4,x5,x6,x7] (shaK.getD t 0) (Sc.getD t 0):=by rw [rnds,hxs]
   rw [hxs];refine S.objIs (b:=b8) (cs' :=[.int .u64 (x0.toNat:Int),.int .u64 (x1.toNat:Int),.int .u64 (x2.toNat:Int),.int .u64 (x3.toNat:Int),.int .u64 (x4.toNat:Int),.int .u64 (x5.toNat:Int),.int .u64 (x6.toNat:Int),.int .u64 (x7.toNat:Int)]) zD rfl ?_;have hg_p:=hg;have hR_p:=hR
   try have hb_p:=hb
   try have hK_p:=hK
   refine S.frzH (B:=obj b8 276 [.int .u64 (x0.toNat:Int),.int .u64 (x1.toNat:Int),.int .u64 (x2.toNat:Int),.int .u64 (x3.toNat:Int),.int .u64 (x4.toNat:Int),.int .u64 (x5.toNat:Int),.int .u64 (x6.toNat:Int),.int .u64 (x7.toNat:Int)]) zD fun gp hsp ⟨mp,hmp,hsmp⟩ hbp=>?_;replace hg:=Fr.sub_trans hg hsp;replace hR:=backR hR hbp
   try replace hb:=hb.mono hsp
   try replace hK:=hK.mono hsp
   have hat:=(obj_at hmp).mono hsmp;refine S.skip<|S.seq<|S.block<|S.seq<|S.region rfl<|O.q 1 rfl<|O.op (.p rfl) (.indexArr (j:=t) underlying382 size274 flat274 rfl rfl rfl zB (by rw [List.getElem?_toArray];exact w64s_get zB)) ?_;refine O.slot 74 (v' :=.int .u64 ((Sc.getD t 0).toNat:Int)) rfl zP ?_;refine O.q 2 rfl<|O.nil<|S.seq<|S.regionD (L:=[0,1,2,3,4,5]) F.mixed zC<|.quiet (.p rfl) rfl (fun _=>.idxArrA (j:=0) underlying276 size274 rfl rfl rfl zB)<|.quiet (.p rfl) rfl (fun _=>.loadAt flat274 rfl hat rfl) ?_;refine .quiet (.p rfl) rfl (fun _=>.idxArrA (j:=4) underlying276 size274 rfl rfl rfl zB)<|.quiet (.p rfl) rfl (fun _=>.loadAt flat274 rfl (hat.drop 4) rfl) ?_;refine OD.q 2 rfl<|ODx.nil<|S.seq<|S.regionD (L:=[0,1,2,5,6,7,8,9,10,11,12,13,14,16,17,18,20,3,4,15,19,21,22]) F.mixed zC<|.quiet (.p rfl) rfl (fun _=>.idxArrA (j:=7) underlying276 size274 rfl rfl rfl zB)<|.quiet (.p rfl) rfl (fun _=>.loadAt flat274 rfl (hat.drop 7) rfl) ?_;refine OD.q 2 rfl<|.quiet (.p rfl) rfl (fun _=>.idxArrA (j:=5) underlying276 size274 rfl rfl rfl zB)<|.quiet (.p rfl) rfl (fun _=>.loadAt flat274 rfl (hat.drop 5) rfl) ?_;refine .quiet (.p rfl) rfl (fun _=>.and rfl rfl)<|OD.slot 87 (v' :=.int .u64 ((x4 &&& x5).toNat:Int)) rfl (by exact congrArg (Value.int .u64) (w_and _ _)) ?_
   refine OD.q 1 rfl <| .quiet (.p rfl) rfl (fun _ => .compl rfl) <| OD.slot 89 (v' := .int .u64 ((~~~x4).toNat : Int)) rfl (by exact congrArg (Value.int .u64) (w_not _)) ?_;refine .quiet (.p rfl) rfl (fun _ => .idxArrA (j := 6) underlying276 size274 rfl rfl rfl zB) <| .quiet (.p rfl) rfl (fun _ => .loadAt flat274 rfl (hat.drop 6) rfl) ?_;refine .quiet (.p rfl) rfl (fun _ => .and rfl rfl) <| OD.slot 92 (v' := .int .u64 ((~~~x4 &&& x6).toNat : Int)) rfl (by exact congrArg (Value.int .u64) (w_and _ _)) ?_;refine .quiet (.p rfl) rfl (fun _ => .xor rfl rfl) <| OD.slot 93 (v' := .int .u64 ((x4 &&& x5 ^^^ ~~~x4 &&& x6).toNat : Int)) rfl (by exact congrArg (Value.int .u64) (w_xor _ _)) ?_;refine OD.q 1 rfl <| .quiet (.p rfl) rfl (fun _ => .idxArrA (j := t) underlying382 size274 rfl rfl rfl zB) <| .quiet (.p rfl) rfl (fun _ => .load flat274 rfl (K_at hK ht)) ?_;refine OD.slot 97 (v' := .int .u64 ((shaK.getD t 0).toNat : Int)) rfl zP ?_;refine OD.q 1 rfl <| OD.call0 (.p rfl) zC rfl zC rfl rfl ((mix_c (a := 14) (b := 18) (c := 41) x4 zF zF zF zF zF zF)) ?_;rintro _ _ ⟨rfl, rfl⟩
   try simp only [zx1,zx2,zx3]
   refine .quiet (.p rfl) rfl (fun _ => .addW rfl rfl) <| OD.slot 83 (v' := .int .u64 ((x7 + mixW x4 14 18 41).toNat : Int)) rfl (by exact congrArg (Value.int .u64) (w_add _ _)) ?_;refine .quiet (.p rfl) rfl (fun _ => .addW rfl rfl) <| OD.slot 94 (v' := .int .u64 ((x7 + mixW x4 14 18 41 + (x4 &&& x5 ^^^ ~~~x4 &&& x6)).toNat : Int)) rfl (by exact congrArg (Value.int .u64) (w_add _ _)) ?_;refine .quiet (.p rfl) rfl (fun _ => .addW rfl rfl) <| OD.slot 98 (v' := .int .u64 ((x7 + mixW x4 14 18 41 + (x4 &&& x5 ^^^ ~~~x4 &&& x6) + shaK.getD t 0).toNat : Int)) rfl (by exact congrArg (Value.int .u64) (w_add _ _)) ?_;refine .quiet (.p rfl) rfl (fun _ => .addW rfl rfl) <| OD.slot 100 (v' := .int .u64 ((x7 + mixW x4 14 18 41 + (x4 &&& x5 ^^^ ~~~x4 &&& x6) + shaK.getD t 0 + Sc.getD t 0).toNat : Int)) rfl (by exact congrArg (Value.int .u64) (w_add _ _)) ?_;refine OD.q 1 rfl <| ODx.nil <| S.seq <| S.regionD (L := [0, 2, 3, 4, 5, 6, 7, 8, 9, 10, 11, 12, 13, 14, 15, 16, 1, 17, 18]) F.mixed zC <| OD.q 2 rfl <| .quiet (.p rfl) rfl (fun _ => .idxArrA (j := 1) underlying276 size274 rfl rfl rfl zB) <| .quiet (.p rfl) rfl (fun _ => .loadAt flat274 rfl (hat.drop 1) rfl) ?_;refine .quiet (.p rfl) rfl (fun _ => .and rfl rfl) <| OD.slot 106 (v' := .int .u64 ((x0 &&& x1).toNat : Int)) rfl (by exact congrArg (Value.int .u64) (w_and _ _)) ?_
   refine OD.q 1 rfl<|.quiet (.p rfl) rfl (fun _=>.idxArrA (j:=2) underlying276 size274 rfl rfl rfl zB)<|.quiet (.p rfl) rfl (fun _=>.loadAt flat274 rfl (hat.drop 2) rfl) ?_;refine .quiet (.p rfl) rfl (fun _=>.and rfl rfl)<|OD.slot 110 (v' :=.int .u64 ((x0 &&& x2).toNat:Int)) rfl (by exact congrArg (Value.int .u64) (w_and _ _)) ?_;refine .quiet (.p rfl) rfl (fun _=>.xor rfl rfl)<|OD.slot 111 (v' :=.int .u64 ((x0 &&& x1 ^^^ x0 &&& x2).toNat:Int)) rfl (by exact congrArg (Value.int .u64) (w_xor _ _)) ?_;refine .quiet (.p rfl) rfl (fun _=>.idxArrA (j:=1) underlying276 size274 rfl rfl rfl zB)<|.quiet (.p rfl) rfl (fun _=>.loadAt flat274 rfl (hat.drop 1) rfl) ?_;refine .quiet (.p rfl) rfl (fun _=>.idxArrA (j:=2) underlying276 size274 rfl rfl rfl zB)<|.quiet (.p rfl) rfl (fun _=>.loadAt flat274 rfl (hat.drop 2) rfl) ?_;refine .quiet (.p rfl) rfl (fun _=>.and rfl rfl)<|OD.slot 116 (v' :=.int .u64 ((x1 &&& x2).toNat:Int)) rfl (by exact congrArg (Value.int .u64) (w_and _ _)) ?_;refine .quiet (.p rfl) rfl (fun _=>.xor rfl rfl)<|OD.slot 117 (v' :=.int .u64 ((x0 &&& x1 ^^^ x0 &&& x2 ^^^ x1 &&& x2).toNat:Int)) rfl (by exact congrArg (Value.int .u64) (w_xor _ _)) ?_;refine OD.call0 (.p rfl) zC rfl zC rfl rfl ((mix_c (a:=28) (b:=34) (c:=39) x0 zF zF zF zF zF zF)) ?_;rintro _ _ ⟨rfl,rfl⟩
   try simp only [zx1,zx2,zx3]
   refine .quiet (.p rfl) rfl (fun _=>.addW rfl rfl)<|OD.slot 118 (v' :=.int .u64 ((mixW x0 28 34 39+(x0 &&& x1 ^^^ x0 &&& x2 ^^^ x1 &&& x2)).toNat:Int)) rfl (by exact congrArg (Value.int .u64) (w_add _ _)) ?_;refine OD.q 1 rfl<|ODx.nil<|S.seq<|S.back hbp ?_;replace hg:=hg_p;replace hR:=hR_p
   try replace hb:=hb_p
   try replace hK:=hK_p
   clear hg_p hR_p;refine S.regionD (L := [0, 1, 2]) F.mixed zC ?_;refine .quiet (.p rfl) rfl (fun _ => .sliceArrFrom (a := 1) underlying276 size274 rfl rfl rfl zF zF) <| .quiet (.p rfl) rfl (fun _ => .sliceArrTo (a := 7) underlying276 size274 rfl rfl rfl zF zF) <| OD.copyObj (m := 7) (.p rfl) zC underlying207 size274 rfl rfl zD rfl zI zI (by first | (simp; done) | (intro v hv; simp [Value.cells] at hv; rcases hv with rfl | rfl <;> rfl) | (refine List.forall_mem_cons.2 ⟨rfl, ?_⟩; repeat (first | exact (fun _ h => absurd h List.not_mem_nil) | refine List.forall_mem_cons.2 ⟨rfl, ?_⟩))) ?_;refine ODx.nil <| S.objIs (b := b8) (cs' := [.int .u64 (x0.toNat : Int), .int .u64 (x0.toNat : Int), .int .u64 (x1.toNat : Int), .int .u64 (x2.toNat : Int), .int .u64 (x3.toNat : Int), .int .u64 (x4.toNat : Int), .int .u64 (x5.toNat : Int), .int .u64 (x6.toNat : Int)]) zD rfl ?_;refine S.region rfl <| O.q 2 rfl <| O.op (.p rfl) (.addW rfl rfl) <| O.slot 124 (v' := .int .u64 ((x7 + mixW x4 14 18 41 + (x4 &&& x5 ^^^ ~~~x4 &&& x6) + shaK.getD t 0 + Sc.getD t 0 + (mixW x0 28 34 39 + (x0 &&& x1 ^^^ x0 &&& x2 ^^^ x1 &&& x2))).toNat : Int)) rfl (by exact congrArg (Value.int .u64) (w_add _ _)) ?_;refine O.op (.p rfl) (.idxArr (j := 4) underlying276 size274 rfl rfl rfl zB) <| O.op (.p rfl) (.lo flat274) ?_
   refine O.q 1 rfl <| O.op (.p rfl) (.addW rfl rfl) <| O.slot 128 (v' := .int .u64 ((x3 + (x7 + mixW x4 14 18 41 + (x4 &&& x5 ^^^ ~~~x4 &&& x6) + shaK.getD t 0 + Sc.getD t 0)).toNat : Int)) rfl (by exact congrArg (Value.int .u64) (w_add _ _)) ?_;refine O.op (.p rfl) (.idxArr (j := 0) underlying276 size274 rfl rfl rfl zB) <| O.opU rfl (.store1 flat274 rfl rfl zO zD zJ) ?_;refine O.op (.p rfl) (.idxArr (j := 4) underlying276 size274 rfl rfl rfl zB) <| O.opU rfl (.store1 flat274 rfl rfl zO zD zJ) ?_;refine O.nil <| S.inBlock <| S.objIs (b := b8) (cs' := w64s (rnds v Sc (t + 1))) zD (by rw [hst]; rfl) ?_;refine S.region rfl <| O.op (.p rfl) (.add rfl rfl (IntWalk.i64_in _ zB)) <| O.q 1 rfl <| O.nil ?_;exact S.wk (ih (t + 1) zB zB)
  ·clear ih
   have ht:t=80:=by omega
   subst ht;have hu:=rnds_len v Sc hv 80;generalize rnds v Sc 80=u at *;refine S.exit rfl<|S.seq<|S.region rfl<|O.q 1 rfl<|O.nil<|S.block<|S.objIs (b:=bh) (cs' :=w64s (addT v u 0)++rest) zD rfl ?_;refine S.loopK (ι:=Nat) (fun i=>i≤8) (fun i=>[(132,.int .i64 (i:Int))]) [(0,_),(8,_)] (fun i=>[obj bh T (w64s (addT v u i)++rest),obj b8 276 (w64s u),obj b4 382 (w64s Sc)]) (fun i=>8 - i) (0) zB (.cons rfl (.nil)) (.cons rfl (.cons rfl (.nil))) rfl fun i hx ih=>?_;have hm3:=meltRefl (g:=g);refine S.seq<|S.region rfl<|O.op (.p rfl) (.lss rfl rfl)<|O.nil (S.seq ?_)
   first|refine S.condD rfl (fun h133=>?_) (fun h133=>?_)|refine S.condB rfl (fun h133=>?_) (fun h133=>?_)
   ·have hi:i<8:=by omega
    have hal:=addT_len hv hu (Nat.le_of_lt hi);have hg_p:=hg;have hR_p:=hR
    try have hb_p:=hb
    try have hK_p:=hK
    refine S.frzH (B:=obj b8 276 (w64s u)) zD fun gp hsp ⟨mp,hmp,hsmp⟩ hbp=>?_;replace hg:=Fr.sub_trans hg hsp;replace hR:=backR hR hbp
    try replace hb:=hb.mono hsp
    try replace hK:=hK.mono hsp
    have hat:=(obj_at hmp).mono hsmp;have hg_q:=hg;have hR_q:=hR
    try have hb_q:=hb
    try have hK_q:=hK
    try have hat_q:=hat
    refine S.frzH (B:=obj bh T (w64s (addT v u i)++rest)) zD fun gq hsq ⟨mq,hmq,hsmq⟩ hbq=>?_;replace hg:=Fr.sub_trans hg hsq;replace hR:=backR hR hbq
    try replace hb:=hb.mono hsq
    try replace hK:=hK.mono hsq
    try replace hat:=hat.mono hsq
    have hath:=(obj_at hmq).mono hsmq;refine S.skip<|S.seq<|S.block<|S.seq<|S.region rfl<|O.q 2 rfl<|O.nil<|S.regionD (L:=[0,1,2,3,4,5,6,7,8,9,10,11]) F.mixed zC<|OD.q 2 rfl<|.quiet (.p rfl) rfl (fun _=>.nilCheck rfl)<|.quiet (.p rfl) rfl (fun _=>.idxArrA (j:=i) underlying276 size274 rfl rfl rfl zB)<|.quiet (.p rfl) rfl (fun _=>.load flat274 rfl (hath.at (by rw [List.getElem?_append_left (by rw [w64s_length];omega)];exact w64s_get zB))) ?_;refine OD.slot 139 (v' :=.int .u64 ((v.getD i 0).toNat:Int)) rfl (by rw [addT_get hv hu hi]) ?_;refine OD.q 1 rfl<|.quiet (.p rfl) rfl (fun _=>.idxArrA (j:=i) underlying276 size274 rfl rfl rfl zB)<|.quiet (.p rfl) rfl (fun _=>.load flat274 rfl (hat.at (w64s_get zB))) ?_;refine OD.slot 142 (v' :=.int .u64 ((u.getD i 0).toNat:Int)) rfl zP ?_;refine .quiet (.p rfl) rfl (fun _=>.addW rfl rfl)<|OD.slot 143 (v' :=.int .u64 ((v.getD i 0+u.getD i 0).toNat:Int)) rfl (by exact congrArg (Value.int .u64) (w_add _ _)) ?_;refine .quiet (.p rfl) rfl (fun _=>.nilCheck rfl)<|.quiet (.p rfl) rfl (fun _=>.idxArr (j:=i) underlying276 size274 rfl rfl rfl zB)<|OD.last1 rfl zC (fun _ hw=>hbq hw) flat274 rfl rfl zO zD zb25 ?_;replace hg:=hg_q;replace hR:=hR_q
    try replace hb:=hb_q
    try replace hK:=hK_q
    try replace hat:=hat_q
    clear hg_q hR_q;refine S.inBlock<|S.back hbp ?_;replace hg:=hg_p;replace hR:=hR_p
    try replace hb:=hb_p
    try replace hK:=hK_p
    clear hg_p hR_p;refine S.objIs (b:=bh) (cs' :=w64s (addT v u (i+1))++rest) zD (by rw [Nat.zero_add,List.set_append_left _ _ (by rw [w64s_length];omega),show Value.int .u64 ((v.getD i 0+u.getD i 0).toNat:Int)=w64 (v.getD i 0+u.getD i 0) from rfl,w64s_set,addT_set hv hu hi]) ?_;refine S.region rfl<|O.op (.p rfl) (.add rfl rfl (IntWalk.i64_in _ zB))<|O.q 1 rfl<|O.nil ?_;exact S.wk (ih (i+1) zB zB)
   ·clear ih
    have hi:i=8:=by omega
    subst hi;rw [addT_8 hv hu,← hblk];refine S.exit rfl<|S.end0 results211 fun w hw=>Holds.end_ hR hw ?_;exact pk ⟨rfl,rfl⟩
end Go.Proofs.YtojafegjlahajaaGreatDoor
