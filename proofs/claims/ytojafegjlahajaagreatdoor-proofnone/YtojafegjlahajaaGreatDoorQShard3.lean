/- Texts of this proof. -/
import Derived.Test.YtojafegjlahajaaGreatDoorQTmerk1
import Derived.Test.YtojafegjlahajaaGreatDoorQSpBuilder
open Go Go.Sp Go.Proofs.Tryz
set_option maxRecDepth 100000
set_option maxHeartbeats 1000000
attribute [local irreducible] obj Own OwnP
namespace Go.Proofs.YtojafegjlahajaaGreatDoor
def zero64_q:List Value:=List.replicate 64 (byteV 0)
theorem two_parts {g m:Fr} {e1 e2 e3:TypeId} {v1 v2 v3:Value} {xs ys:List UInt8} (hm:Sat [OwnP Rp.u8 e1 v1 xs,OwnP Rp.u8 e2 v2 ys,OwnP (Rp.cells 1) e3 v3 [[v1],[v2]]] m) (hd:g.disj m):Arr (Rp.slice Rp.u8) (g.add m) v3 [xs,ys]:=by
 obtain ⟨m1,m2,_,s1,s2,o1,m3,m4,_,s3,s4,o2,m5,_,_,s5,_,o3,_⟩:=hm;have t3:=Fr.sub_trans s3 s2;have t5:=Fr.sub_trans s5 (Fr.sub_trans s4 s2);exact (Arr.ofCells (T:=Rp.slice Rp.u8) (xs:=[xs,ys]) (o3.arr.mono t5) ⟨⟨_,rfl,o1.arr.mono s1⟩,⟨_,rfl,o2.arr.mono t3⟩,trivial⟩ rfl).mono (Fr.sub_add_right hd)
theorem sof_c {r:Fr} {s:List UInt8} (hH:At r ⟨0,0,none⟩ (w64s shaH)) (hK:At r ⟨1,0,none⟩ (w64s shaK)) (hs:s.length≤10000000000) :
  Con prog 101 #[.string (str s)] r [] (Ret fun v η=>∃ b,v=.pointer (some ⟨b,0,none⟩)∧η=[obj b 151 ((keyDig s).map byteV)]):=by
 have h64:=keyDig_len s;have hdg:shaSum [[6],s].flatten=keyDig s:=by unfold keyDig;simp
 refine Con.of (n:=12) _ rfl func101 rfl rfl rfl fun g hg R hR=>?_;have hH:=hH.mono hg;have hK:=hK.mono hg;refine S.seq<|S.region rfl<|O.q 1 rfl<|O.nil<|S.seq<|S.region rfl<|O.opE (.p rfl) (.alloc (cs:=[.int .u8 0,.int .u8 0,.int .u8 0,.int .u8 0,.int .u8 0,.int .u8 0,.int .u8 0,.int .u8 0,.int .u8 0,.int .u8 0,.int .u8 0,.int .u8 0,.int .u8 0,.int .u8 0,.int .u8 0,.int .u8 0,.int .u8 0,.int .u8 0,.int .u8 0,.int .u8 0,.int .u8 0,.int .u8 0,.int .u8 0,.int .u8 0,.int .u8 0,.int .u8 0,.int .u8 0,.int .u8 0,.int .u8 0,.int .u8 0,.int .u8 0,.int .u8 0,.int .u8 0,.int .u8 0,.int .u8 0,.int .u8 0,.int .u8 0,.int .u8 0,.int .u8 0,.int .u8 0,.int .u8 0,.int .u8 0,.int .u8 0,.int .u8 0,.int .u8 0,.int .u8 0,.int .u8 0,.int .u8 0,.int .u8 0,.int .u8 0,.int .u8 0,.int .u8 0,.int .u8 0,.int .u8 0,.int .u8 0,.int .u8 0,.int .u8 0,.int .u8 0,.int .u8 0,.int .u8 0,.int .u8 0,.int .u8 0,.int .u8 0,.int .u8 0]) zeroValue151 rfl) ?_;rintro _ _ ⟨b3,rfl,rfl⟩;refine O.nil<|S.seq<|S.objIs (b:=b3) (cs' :=zero64_q) zB zG ?_;refine S.regionD (L:=[0,1,3,2,4,5,6,7]) mixedF zD ?_;refine .quiet (.p rfl) rfl (fun _=>.fieldObj fld151x0 rfl)<|.quiet (.p rfl) rfl (fun _=>.sliceArrAll underlying149 size5 rfl zF)<|OD.q 1 rfl<|OD.alt2 2 4 [4,5,6,7] [2,5,6,7] zD rfl rfl ?_ ?_
 ·refine ODt.litP (.p rfl) zD (T:=Rp.u8) (ys:=[6]) underlying24 elem5 zF rfl rfl ⟨rfl,trivial⟩ zF (fun a6 c6=>?_)
  refine OD.strBytesO (xs:=s) (.p rfl) zD underlying9 underlying24 underlying5 rfl zC (fun a8 c8=>?_);refine OD.litP (.p rfl) zD (T:=Rp.cells 1) (ys:=[[.slice a6 1 c6],[.slice a8 s.length c8]]) underlying109 elem24 zF rfl rfl ⟨⟨rfl,rfl,by first|(simp;done)|(intro v hv;simp [Value.cells] at hv;rcases hv with rfl|rfl<;>rfl)|(refine List.forall_mem_cons.2 ⟨rfl,?_⟩;repeat (first|exact (fun _ h=>absurd h List.not_mem_nil)|refine List.forall_mem_cons.2 ⟨rfl,?_⟩))⟩,⟨rfl,rfl,by first|(simp;done)|(intro v hv;simp [Value.cells] at hv;rcases hv with rfl|rfl<;>rfl)|(refine List.forall_mem_cons.2 ⟨rfl,?_⟩;repeat (first|exact (fun _ h=>absurd h List.not_mem_nil)|refine List.forall_mem_cons.2 ⟨rfl,?_⟩))⟩,trivial⟩ zF (fun a9 c9=>?_);refine OD.callB (.p rfl) zD rfl zD rfl rfl (bs:=[OwnP Rp.u8 5 (.slice a6 1 c6) [6],OwnP Rp.u8 5 (.slice a8 s.length c8) s,OwnP (Rp.cells 1) 24 (.slice a9 2 c9) [[.slice a6 1 c6],[.slice a8 s.length c8]]]) zJ (fun m hm hd=>shaSum_c (ps:=[[6],s]) (two_parts hm hd) (hH.mono (Fr.sub_add_left _ _)) (hK.mono (Fr.sub_add_left _ _)) zK) ?_;rintro _ _ ⟨a10,c10,rfl,rfl⟩
  try simp only [zx1,zx2,zx3]
  rw [hdg];refine OD.copyToO (m:=64) (xs:=keyDig s) (.p rfl) zD underlying24 size5 rfl rfl zB zB zC zF zF zF ?_;refine ODx.nil<|S.seq<|S.region rfl<|O.q 1 rfl<|O.nil<|S.objIs (b:=b3) (cs' :=(keyDig s).map byteV) zB (by simp [zero64_q]) ?_;exact S.rt results101 rfl hR ⟨b3,rfl,rfl⟩
 ·refine ODt.strBytesO (xs:=s) (.p rfl) zD underlying9 underlying24 underlying5 rfl zC (fun a8 c8=>?_)
  refine OD.litP (.p rfl) zD (T:=Rp.u8) (ys:=[6]) underlying24 elem5 zF rfl rfl ⟨rfl,trivial⟩ zF (fun a6 c6=>?_);refine OD.litP (.p rfl) zD (T:=Rp.cells 1) (ys:=[[.slice a6 1 c6],[.slice a8 s.length c8]]) underlying109 elem24 zF rfl rfl ⟨⟨rfl,rfl,by first|(simp;done)|(intro v hv;simp [Value.cells] at hv;rcases hv with rfl|rfl<;>rfl)|(refine List.forall_mem_cons.2 ⟨rfl,?_⟩;repeat (first|exact (fun _ h=>absurd h List.not_mem_nil)|refine List.forall_mem_cons.2 ⟨rfl,?_⟩))⟩,⟨rfl,rfl,by first|(simp;done)|(intro v hv;simp [Value.cells] at hv;rcases hv with rfl|rfl<;>rfl)|(refine List.forall_mem_cons.2 ⟨rfl,?_⟩;repeat (first|exact (fun _ h=>absurd h List.not_mem_nil)|refine List.forall_mem_cons.2 ⟨rfl,?_⟩))⟩,trivial⟩ zF (fun a9 c9=>?_);refine OD.callB (.p rfl) zD rfl zD rfl rfl (bs:=[OwnP Rp.u8 5 (.slice a6 1 c6) [6],OwnP Rp.u8 5 (.slice a8 s.length c8) s,OwnP (Rp.cells 1) 24 (.slice a9 2 c9) [[.slice a6 1 c6],[.slice a8 s.length c8]]]) zJ (fun m hm hd=>shaSum_c (ps:=[[6],s]) (two_parts hm hd) (hH.mono (Fr.sub_add_left _ _)) (hK.mono (Fr.sub_add_left _ _)) zK) ?_;rintro _ _ ⟨a10,c10,rfl,rfl⟩
  try simp only [zx1,zx2,zx3]
  rw [hdg];refine OD.copyToO (m:=64) (xs:=keyDig s) (.p rfl) zD underlying24 size5 rfl rfl zB zB zC zF zF zF ?_;refine ODx.nil<|S.seq<|S.region rfl<|O.q 1 rfl<|O.nil<|S.objIs (b:=b3) (cs' :=(keyDig s).map byteV) zB (by simp [zero64_q]) ?_;exact S.rt results101 rfl hR ⟨b3,rfl,rfl⟩
theorem b64_get {d:List UInt8} {i:Nat} (h:i<d.length):(d.map byteV)[i]?=some (byteV (d.getD i 0)):=by
 rw [List.getElem?_map,List.getElem?_eq_getElem h,List.getD_eq_getElem?_getD,List.getElem?_eq_getElem h];rfl
theorem shr6 (x:UInt8):IntKind.i64.wrap ((x.toNat:Int).fdiv (2 ^ min (6:Int).toNat IntKind.u8.bits))=((x.toNat / 64:Nat):Int):=by
 have hx:=x.toNat_lt;have e1:(2:Int) ^ min (6:Int).toNat IntKind.u8.bits=64:=by decide
 have e2:(x.toNat:Int).fdiv 64=((x.toNat / 64:Nat):Int):=by rw [Int.fdiv_eq_ediv_of_nonneg _ zC];rfl
 rw [e1,e2,IntWalk.i64_in _ zC]
theorem shOf_c {r:Fr} {s:List UInt8} (hH:At r ⟨0,0,none⟩ (w64s shaH)) (hK:At r ⟨1,0,none⟩ (w64s shaK)) (hs:s.length≤10000000000) :
  Con prog 65 #[.string (str s)] r [] (Ret fun v η=>v=.int .i64 (shardOf s:Int)∧η=[]):=by
 have h64:=keyDig_len s;refine Con.of (n:=11) _ rfl func65 rfl rfl rfl fun g hg R hR=>?_;have hH:=hH.mono hg;have hK:=hK.mono hg;refine S.seq<|S.region rfl<|O.q 1 rfl<|O.nil<|S.seq<|S.region rfl<|O.q 1 rfl<|O.call0 (.p rfl) rfl zD rfl rfl ((sof_c zE zE zI)) ?_;rintro _ _ ⟨b4,rfl,rfl⟩
 try simp only [zx1,zx2,zx3]
 refine O.op (.p rfl) (.nilCheck rfl)<|O.op (.p rfl) (.fieldAddr fld151x0 rfl)<|O.op (.p rfl) (.idxArr (j:=0) underlying149 size5 rfl rfl rfl zC)<|O.op (.p rfl) (.loadObj flat5 rfl zB (b64_get zC)) ?_;refine O.slot 8 (v' :=byteV ((keyDig s).getD 0 0)) rfl zG ?_;refine O.op (.p rfl) (.shr rfl rfl zC)<|O.op (.p rfl) (.cvt underlying5 underlying3 rfl)<|O.slot 10 (v' :=.int .i64 (shardOf s:Int)) rfl (by exact congrArg (Value.int .i64) (shr6 _)) ?_;refine O.q 1 rfl<|O.nil ?_;exact S.rt results65 rfl hR ⟨rfl,rfl⟩
theorem copyCheck_c {r:Fr} {b:Nat} {p:Option Addr} {v:Value} (hp:p=none∨p=some (⟨b,0,none⟩:Addr)) :
  Con prog 250 #[.pointer (some ⟨b,0,none⟩)] r [obj b 142 [.pointer p,v]] (Ret fun u η=>u=.tuple #[]∧η=[obj b 142 [.pointer (some ⟨b,0,none⟩),v]]):=by
 refine Con.of (n:=20) _ rfl func250 rfl rfl rfl fun g hg R hR=>?_
 rcases hp with rfl|rfl
 ·
  refine S.seq<|S.region rfl<|O.q 1 rfl<|O.op (.p rfl) (.nilCheck rfl)<|O.op (.p rfl) (.fieldObj fld142x0 rfl)<|O.op (.p rfl) (.lo flat140) ?_;refine O.op (.p rfl) (.eqlP underlying140 rfl rfl)<|O.sT 6 rfl zG ?_;refine O.nil<|S.condT rfl<|S.region rfl<|O.q 2 rfl<|O.op (.p rfl) (.toUnsafe (k:=1) underlying140 underlying402 zD rfl zB zL) ?_;refine O.op (.p rfl) (.noEscape func316 zD rfl zD zD rfl rfl)<|O.op (.p rfl) (.fromUnsafe underlying402 underlying140 zD rfl zB zD) ?_;refine O.op (.p rfl) (.nilCheck rfl)<|O.op (.p rfl) (.fieldObj fld142x0 rfl)<|O.opU rfl (.store1 flat140 rfl rfl zN zB zH) ?_;refine O.nil<|S.end0 results250 fun w hw=>Holds.end_ hR hw ?_;exact pk ⟨rfl,rfl⟩
 ·
  refine S.seq<|S.region rfl<|O.q 1 rfl<|O.op (.p rfl) (.nilCheck rfl)<|O.op (.p rfl) (.fieldObj fld142x0 rfl)<|O.op (.p rfl) (.lo flat140) ?_;refine O.op (.p rfl) (.eqlP underlying140 rfl rfl)<|O.sF 6 rfl zG ?_;refine O.nil<|S.condF rfl<|S.seq<|S.region rfl<|O.q 1 rfl<|O.op (.p rfl) (.nilCheck rfl)<|O.op (.p rfl) (.fieldObj fld142x0 rfl)<|O.op (.p rfl) (.lo flat140) ?_;refine O.q 1 rfl<|O.op (.p rfl) (.neqSame underlying140 zD zD rfl rfl)<|O.sF 19 rfl zG ?_;refine O.nil<|S.condF rfl<|S.skip<|S.end0 results250 fun w hw=>Holds.end_ hR hw ?_;exact pk ⟨rfl,rfl⟩
theorem writeB_c {r:Fr} {b:Nat} {xs:List UInt8} {c:UInt8} (hl:xs.length≤1000000000) :
  Con prog 166 #[.pointer (some ⟨b,0,none⟩),byteV c] r [BuildP 142 5 b xs] (Ret fun u η=>u=.nilIface∧η=[BuildP 142 5 b (xs++[c])]):=by
 refine Con.of (n:=17) _ rfl func166 rfl rfl rfl fun g hg R hR=>?_;refine S.open (bs:=fun x:BuildO b=>[obj b 142 [.pointer x.p,x.v],OwnP Rp.u8 5 x.v xs]) .here (fun m h=>BuildP.opn h) fun x=>?_;simp only [List.cons_append,List.nil_append];have hxp:=x.hp;refine S.seq<|S.region rfl<|O.q 1 rfl<|O.nil<|S.seq<|S.region rfl<|O.q 1 rfl<|O.callS (.p rfl) rfl zD rfl rfl zB (copyCheck_c hxp) ?_;rintro _ _ ⟨rfl,rfl⟩
 try simp only [zx1,zx2,zx3]
 refine O.nil<|S.seq<|S.region rfl<|O.q 2 rfl<|O.op (.p rfl) (.nilCheck rfl)<|O.op (.p rfl) (.fieldObj fld142x1 rfl)<|O.op (.p rfl) (.lo flat24) ?_;refine O.q 1 rfl<|O.opE (.p rfl) (.litP (T:=Rp.u8) (ys:=[c]) underlying24 elem5 zF rfl rfl ⟨rfl,trivial⟩ zF) ?_;rintro _ _ ⟨a13,c13,rfl,rfl⟩;refine O.opE (.p rfl) (.appendO (T:=Rp.u8) underlying24 elem5 zF rfl rfl zB zB zK zK) ?_;rintro _ _ ⟨a14,c14,rfl,rfl⟩;refine O.op (.p rfl) (.nilCheck rfl)<|O.op (.p rfl) (.fieldObj fld142x1 rfl)<|O.opU rfl (.store1 flat24 rfl rfl zN zB zH) ?_;refine O.nil<|S.seq<|S.region rfl<|O.q 1 rfl<|O.nil ?_;rw [show xs.length+[c].length=(xs++[c]).length from by simp];refine S.foldS (A:=BuildP 142 5 b (xs++[c])) (bs:=[obj b 142 [.pointer (some ⟨b,0,none⟩),.slice a14 (xs++[c]).length c14],OwnP Rp.u8 5 (.slice a14 (xs++[c]).length c14) (xs++[c])]) zJ (fun m h=>BuildP.fold (.inr rfl) h) ?_;exact S.rt results166 rfl hR ⟨rfl,rfl⟩
theorem addB (c x:UInt8):Value.int .u8 (IntKind.u8.wrap ((c.toNat:Int)+(x.toNat:Int)))=byteV (c+x):=by
 rw [wrapB]
 congr 1
 apply UInt8.toNat_inj.1
 rw [UInt8.toNat_add];simp only [Sp.byteOf];have:=(((c.toNat:Int)+(x.toNat:Int)) % 256).toNat
 simp
 omega
theorem sign_c {r:Fr} {b:Nat} {va:Value} {xs ys:List UInt8} (ha:Arr Rp.u8 r va xs) (hl:xs.length+ys.length≤1000000000) :
  Con prog 103 #[.pointer (some ⟨b,0,none⟩),va] r [BuildP 142 5 b ys] (Ret fun u η=>u=.tuple #[]∧η=[BuildP 142 5 b (ys++xs.map (48+·))]):=by
 obtain ⟨a1,c1,rfl⟩:=ha.shape;refine Con.of (n:=17) _ rfl func103 rfl rfl rfl fun g hg R hR=>?_;have ha:=ha.mono hg;refine S.seq<|S.region rfl<|O.q 1 rfl<|O.op (.p rfl) (.len rfl underlying24 rfl)<|O.q 1 rfl<|O.nil<|S.block<|S.imp (η' :=[BuildP 142 5 b (ys++(xs.take 0).map (48+·))]) (fun m h=>by simpa using h) ?_;refine S.loopK (ι:=Nat) (fun i=>i≤xs.length) (fun i=>[(8,.int .i64 (i:Int))]) [(0,_),(6,_),(7,_)] (fun i=>[BuildP 142 5 b (ys++(xs.take i).map (48+·))]) (fun i=>xs.length - i) (0) zL (.cons rfl (.nil)) (.cons rfl (.cons rfl (.cons rfl (.nil)))) rfl fun i hx ih=>?_;have hm1:=meltRefl (g:=g);refine S.seq<|S.region rfl<|O.op (.p rfl) (.lss rfl rfl)<|O.nil (S.seq ?_)
 first|refine S.condD rfl (fun h9=>?_) (fun h9=>?_)|refine S.condB rfl (fun h9=>?_) (fun h9=>?_)
 ·have hi:i<xs.length:=by omega
  have e:ys++(xs.take i).map (48+·)++[48+xs[i]]=ys++(xs.take (i+1)).map (48+·):=by rw [List.append_assoc,List.take_succ_eq_append_getElem hi,List.map_append];rfl
  have htl:(xs.take i).length≤xs.length:=by simp;omega
  refine S.skip<|S.seq<|S.block<|S.seq<|S.region rfl<|O.ia (.p rfl) underlying24 size5 rfl rfl (show _=(((i):Nat):Int) by omega) (by first|assumption|exact Arr.mono hg zE|exact Arr.left zE|exact Arr.left (Arr.mono hg zE)) (h:=fun p10 cs10 hp10 hr10=>?_)
  cases hr10
  refine O.op (.p rfl) (.loadAt flat5 rfl hp10 rfl) ?_;refine O.q 1 rfl<|O.nil<|S.region rfl<|O.q 2 rfl<|O.op (.p rfl) (.addW rfl rfl)<|O.slot 14 (v' :=byteV (48+xs[i])) rfl (by exact addB 48 xs[i]) ?_;refine O.callS (.p rfl) rfl zD rfl rfl zB (writeB_c zK) ?_;rintro _ _ ⟨rfl,rfl⟩
  try simp only [zx1,zx2,zx3]
  refine O.nil<|S.inBlock<|S.region rfl<|O.op (.p rfl) (.add rfl rfl (IntWalk.i64_in _ zC))<|O.q 1 rfl<|O.nil ?_;rw [e];exact S.wk (ih (i+1) zC zC)
 ·clear ih
  have hi:i=xs.length:=by omega
  subst hi;rw [List.take_length];refine S.exit rfl<|S.end0 results103 fun w hw=>Holds.end_ hR hw ?_;exact pk ⟨rfl,rfl⟩
def bitsL (d:List UInt8) (k:Nat):List UInt8:=(List.range k).map fun i=>bit1 d (i+2)
theorem bitsL_snoc (d:List UInt8) (k:Nat):bitsL d (k+1)=bitsL d k++[bit1 d (k+2)]:=by unfold bitsL;rw [List.range_succ,List.map_append];rfl
theorem bitsL_way (s:List UInt8):(bitsL (keyDig s) 510).map (48+·)=wayOf s:=(way_eq s).symm
theorem bitK:∀ (k:Fin 8) (n:Fin 256),bitsOf BinOp.and IntKind.u8 (((n.val:Nat):Int).fdiv (2 ^ min (((k.val:Nat):Int)).toNat IntKind.u8.bits)) 1=((n.val >>>k.val &&& 1:Nat):Int):=by decide
theorem bitAt (d:List UInt8) (i:Nat):Value.int .u8 (bitsOf BinOp.and IntKind.u8 (((d.getD (i / 8) 0).toNat:Int).fdiv (2 ^ min (((7 - i % 8:Nat):Int)).toNat IntKind.u8.bits)) 1)=byteV (bit1 d i):=by
 have hk:7 - i % 8<8:=by omega
 have h:=bitK ⟨7 - i % 8,hk⟩ ⟨_,(d.getD (i / 8) 0).toNat_lt⟩;simp only at h;rw [h];unfold bit1 byteV;rw [UInt8.toNat_and,UInt8.toNat_shiftRight,UInt8.toNat_ofNat'];rw [Nat.mod_eq_of_lt (show 7 - i % 8<2 ^ 8 by omega),Nat.mod_eq_of_lt hk]
 rfl
theorem bits1_c {r:Fr} {l b bf bp:Nat} {d:List UInt8} {J:List UInt8→SProp} (hf:At r ⟨bf,0,none⟩ [.int .i64 2]) (hp:At r ⟨bp,0,none⟩ [.pointer (some ⟨b,0,none⟩)]) (hd:At r ⟨b,0,none⟩ (d.map byteV)) (h64:d.length=64)
  (hy:∀ done y,(∃ k,k<510∧done++[y]=bitsL d (k+1))→YCon prog l #[byteV y] r [J done] (Ret fun u η=>u=.bool true∧η=[J (done++[y])])) :
  Con prog 165 #[yieldV l,.pointer (some ⟨bf,0,none⟩),.pointer (some ⟨bp,0,none⟩)] r [J []] (Ret fun _ η=>η=[J (bitsL d 510)]):=by
 refine Con.of (n:=24) _ rfl func165 rfl rfl rfl fun g hg R hR=>?_;replace hf:At g.h ⟨bf,0,none⟩ [.int .i64 2]:=At.mono hg hf;replace hp:At g.h ⟨bp,0,none⟩ [.pointer (some ⟨b,0,none⟩)]:=At.mono hg hp;replace hd:At g.h ⟨b,0,none⟩ (d.map byteV):=At.mono hg hd;refine S.seq<|S.region rfl<|O.op (.p rfl) (.loadAt flat3 rfl hf rfl) ?_;refine O.q 1 rfl<|O.nil<|S.block<|S.loopK (ι:=Nat) (fun i=>i≤510) (fun i=>[(4,.int .i64 ((i+2:Nat):Int))]) [(0,_),(2,_)] (fun i=>[J (bitsL d i)]) (fun i=>510 - i) (0) zL (.cons rfl (.nil)) (.cons rfl (.cons rfl (.nil))) rfl fun i hx ih=>?_;have hm1:=meltRefl (g:=g);refine S.seq<|S.seq<|S.region rfl<|O.q 1 rfl<|O.op (.p rfl) (.lss rfl rfl)<|O.nil ?_
 first|refine S.condD rfl (fun h7=>?_) (fun h7=>?_)|refine S.condB rfl (fun h7=>?_) (fun h7=>?_)
 ·have hi:i<510:=by omega
  have hsn:=bitsL_snoc d i;have hdl:(d.map byteV).length=64:=by rw [List.length_map,h64]
  refine S.skip<|S.seq<|S.block<|S.seq<|S.region rfl<|O.q 1 rfl<|O.op (.p rfl) (.loadAt flat234 rfl hp rfl) ?_;refine O.q 1 rfl<|O.op (.p rfl) (.quo rfl rfl zC)<|O.slot 13 (v' :=.int .i64 (((i+2) / 8:Nat):Int)) rfl (by exact congrArg (Value.int .i64) (by rw [Int.tdiv_eq_ediv_of_nonneg zC,IntWalk.i64_in _ zC];rfl)) ?_;refine O.op (.p rfl) (.nilCheck rfl)<|O.op (.p rfl) (.idxArrA (j:=(i+2) / 8) underlying149 size5 rfl rfl rfl zC)<|O.op (.p rfl) (.load flat5 rfl (hd.at (b64_get zC))) ?_;refine O.slot 16 (v' :=byteV (d.getD ((i+2) / 8) 0)) rfl zG ?_;refine O.q 1 rfl<|O.op (.p rfl) (.rem rfl rfl zC)<|O.slot 18 (v' :=.int .i64 (((i+2) % 8:Nat):Int)) rfl (by exact congrArg (Value.int .i64) (by rw [Int.tmod_eq_emod_of_nonneg zC];omega)) ?_;refine O.op (.p rfl) (.sub rfl rfl (IntWalk.i64_in _ zC))<|O.slot 19 (v' :=.int .i64 ((7 - (i+2) % 8:Nat):Int)) rfl (by exact congrArg (Value.int .i64) zC) ?_;refine O.op (.p rfl) (.shr rfl rfl zC)<|O.op (.p rfl) (.and rfl rfl)<|O.slot 21 (v' :=byteV (bit1 d (i+2))) rfl (by exact bitAt d (i+2)) ?_;refine O.yieldSs (.p rfl) rfl rfl rfl zJ ((hy (bitsL d i) (bit1 d (i+2)) ⟨i,hi,hsn.symm⟩).sub hg) ?_;rintro _ _ ⟨rfl,rfl⟩;refine O.op (.p rfl) (.not rfl)<|O.nil<|S.condF rfl<|S.skip<|S.inBlock<|S.region rfl<|O.q 1 rfl<|O.op (.p rfl) (.add rfl rfl (IntWalk.i64_in _ zC))<|O.q 1 rfl<|O.nil ?_;simp only [List.cons_append,List.nil_append];rw [← hsn]
  exact S.pw (ih (i+1) zC zC)
 ·clear ih
  have hi:i=510:=by omega
  subst hi;refine S.exit rfl<|S.end0 results165 fun w hw=>Holds.end_ hR hw ?_;exact pk rfl
end Go.Proofs.YtojafegjlahajaaGreatDoor
