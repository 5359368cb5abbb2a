/- Texts of this proof. -/
import Derived.Test.YtojafegjlahajaaGreatDoorQSpBuilder
import Derived.Test.YtojafegjlahajaaGreatDoorQSes4
open Go Go.Sp Go.Proofs.Tryz
set_option maxRecDepth 100000
set_option maxHeartbeats 1000000
attribute [local irreducible] obj Own av
namespace Go.Proofs.YtojafegjlahajaaGreatDoor
def F5:List Value:=List.replicate 64 (bD 0)
theorem Ls {g m:Fr} {e1 e2 bY:TypeId} {v1 v2 v3:Value} {xs ys:List UInt8} (hm:Sat [av ag.u8 e1 v1 xs,av ag.u8 e2 v2 ys,av (ag.cells 1) bY v3 [[v1],[v2]]] m) (hd:g.cR m):aj (ag.slice ag.u8) (g.add m) v3 [xs,ys]:=by
 obtain ⟨m1,m2,_,s1,s2,o1,m3,m4,_,s3,pO,o2,m5,_,_,yw,_,k7,_⟩:=hm;have t3:=Fr.aH s3 s2;have t5:=Fr.aH yw (Fr.aH pO s2);exact (aj.kO (T:=ag.slice ag.u8) (xs:=[xs,ys]) (k7.arr.mono t5) ⟨⟨_,rfl,o1.arr.mono s1⟩,⟨_,rfl,o2.arr.mono t3⟩,trivial⟩ rfl).mono (Fr.dL hd)
theorem K5 {r:Fr} {s:List UInt8} (hH:At r ⟨0,0,none⟩ (bR er)) (hK:At r ⟨1,0,none⟩ (bR gr)) (hs:s.length≤10000000000) :
  ay prog 101 #[.string (str s)] r [] (aL fun v U=>∃ b,v=.pointer (some ⟨b,0,none⟩)∧U=[obj b 151 ((lE s).map bD)]):=by
 have iE:=Ez s;have Iq:lM [[6],s].flatten=lE s:=by unfold lE;simp
 refine ay.of (n:=12) _ rfl func101 rfl rfl rfl fun g hg R hR=>?_;have hH:=hH.mono hg;have hK:=hK.mono hg;refine S.seq<|S.region rfl<|O.q 1 rfl<|O.nil<|S.seq<|S.region rfl<|O.aM (.p rfl) (.alloc (cs:=[.int .u8 0,.int .u8 0,.int .u8 0,.int .u8 0,.int .u8 0,.int .u8 0,.int .u8 0,.int .u8 0,.int .u8 0,.int .u8 0,.int .u8 0,.int .u8 0,.int .u8 0,.int .u8 0,.int .u8 0,.int .u8 0,.int .u8 0,.int .u8 0,.int .u8 0,.int .u8 0,.int .u8 0,.int .u8 0,.int .u8 0,.int .u8 0,.int .u8 0,.int .u8 0,.int .u8 0,.int .u8 0,.int .u8 0,.int .u8 0,.int .u8 0,.int .u8 0,.int .u8 0,.int .u8 0,.int .u8 0,.int .u8 0,.int .u8 0,.int .u8 0,.int .u8 0,.int .u8 0,.int .u8 0,.int .u8 0,.int .u8 0,.int .u8 0,.int .u8 0,.int .u8 0,.int .u8 0,.int .u8 0,.int .u8 0,.int .u8 0,.int .u8 0,.int .u8 0,.int .u8 0,.int .u8 0,.int .u8 0,.int .u8 0,.int .u8 0,.int .u8 0,.int .u8 0,.int .u8 0,.int .u8 0,.int .u8 0,.int .u8 0,.int .u8 0]) zeroValue151 rfl) ?_;rintro _ _ ⟨b3,rfl,rfl⟩;refine O.nil<|S.seq<|S.c7 (b:=b3) (cs' :=F5) ai aK ?_;refine S.bB (L:=[0,1,3,2,4,5,6,7]) bA aa ?_;refine .quiet (.p rfl) rfl (fun _=>.aD CC rfl)<|.quiet (.p rfl) rfl (fun _=>.Wj underlying149 fR rfl aC)<|af.q 1 rfl<|af.eY 2 4 [4,5,6,7] [2,5,6,7] aa rfl rfl ?_ ?_
 ·refine bO.ct (.p rfl) aa (T:=ag.u8) (ys:=[6]) underlying24 eR aC rfl rfl ⟨rfl,trivial⟩ aC (fun a6 dF=>?_)
  refine af.pR (xs:=s) (.p rfl) aa underlying9 underlying24 underlying5 rfl ah (fun a8 n_=>?_);refine af.ct (.p rfl) aa (T:=ag.cells 1) (ys:=[[.slice a6 1 dF],[.slice a8 s.length n_]]) underlying109 iC aC rfl rfl ⟨⟨rfl,rfl,by first|(simp;done)|(intro v hv;simp [Value.cells] at hv;rcases hv with rfl|rfl<;>rfl)|(refine List.forall_mem_cons.2 ⟨rfl,?_⟩;repeat (first|exact (fun _ h=>absurd h List.not_mem_nil)|refine List.forall_mem_cons.2 ⟨rfl,?_⟩))⟩,⟨rfl,rfl,by first|(simp;done)|(intro v hv;simp [Value.cells] at hv;rcases hv with rfl|rfl<;>rfl)|(refine List.forall_mem_cons.2 ⟨rfl,?_⟩;repeat (first|exact (fun _ h=>absurd h List.not_mem_nil)|refine List.forall_mem_cons.2 ⟨rfl,?_⟩))⟩,trivial⟩ aC (fun a9 qz=>?_);refine af.dw (.p rfl) aa rfl aa rfl rfl (bs:=[av ag.u8 5 (.slice a6 1 dF) [6],av ag.u8 5 (.slice a8 s.length n_) s,av (ag.cells 1) 24 (.slice a9 2 qz) [[.slice a6 1 dF],[.slice a8 s.length n_]]]) bf (fun m hm hd=>yy (ps:=[[6],s]) (Ls hm hd) (hH.mono (Fr.de _ _)) (hK.mono (Fr.de _ _)) b5) ?_;rintro _ _ ⟨oP,oV,rfl,rfl⟩
  try simp only [an,aq,au]
  rw [Iq];refine af.y8 (m:=64) (xs:=lE s) (.p rfl) aa underlying24 fR rfl rfl ai ai ah aC aC aC ?_;refine aI.nil<|S.seq<|S.region rfl<|O.q 1 rfl<|O.nil<|S.c7 (b:=b3) (cs' :=(lE s).map bD) ai (by simp [F5]) ?_;exact S.rt results101 rfl hR ⟨b3,rfl,rfl⟩
 ·refine bO.pR (xs:=s) (.p rfl) aa underlying9 underlying24 underlying5 rfl ah (fun a8 n_=>?_)
  refine af.ct (.p rfl) aa (T:=ag.u8) (ys:=[6]) underlying24 eR aC rfl rfl ⟨rfl,trivial⟩ aC (fun a6 dF=>?_);refine af.ct (.p rfl) aa (T:=ag.cells 1) (ys:=[[.slice a6 1 dF],[.slice a8 s.length n_]]) underlying109 iC aC rfl rfl ⟨⟨rfl,rfl,by first|(simp;done)|(intro v hv;simp [Value.cells] at hv;rcases hv with rfl|rfl<;>rfl)|(refine List.forall_mem_cons.2 ⟨rfl,?_⟩;repeat (first|exact (fun _ h=>absurd h List.not_mem_nil)|refine List.forall_mem_cons.2 ⟨rfl,?_⟩))⟩,⟨rfl,rfl,by first|(simp;done)|(intro v hv;simp [Value.cells] at hv;rcases hv with rfl|rfl<;>rfl)|(refine List.forall_mem_cons.2 ⟨rfl,?_⟩;repeat (first|exact (fun _ h=>absurd h List.not_mem_nil)|refine List.forall_mem_cons.2 ⟨rfl,?_⟩))⟩,trivial⟩ aC (fun a9 qz=>?_);refine af.dw (.p rfl) aa rfl aa rfl rfl (bs:=[av ag.u8 5 (.slice a6 1 dF) [6],av ag.u8 5 (.slice a8 s.length n_) s,av (ag.cells 1) 24 (.slice a9 2 qz) [[.slice a6 1 dF],[.slice a8 s.length n_]]]) bf (fun m hm hd=>yy (ps:=[[6],s]) (Ls hm hd) (hH.mono (Fr.de _ _)) (hK.mono (Fr.de _ _)) b5) ?_;rintro _ _ ⟨oP,oV,rfl,rfl⟩
  try simp only [an,aq,au]
  rw [Iq];refine af.y8 (m:=64) (xs:=lE s) (.p rfl) aa underlying24 fR rfl rfl ai ai ah aC aC aC ?_;refine aI.nil<|S.seq<|S.region rfl<|O.q 1 rfl<|O.nil<|S.c7 (b:=b3) (cs' :=(lE s).map bD) ai (by simp [F5]) ?_;exact S.rt results101 rfl hR ⟨b3,rfl,rfl⟩
theorem GH {d:List UInt8} {i:Nat} (h:i<d.length):(d.map bD)[i]?=some (bD (d.getD i 0)):=by
 rw [List.getElem?_map,List.getElem?_eq_getElem h,List.getD_eq_getElem?_getD,List.getElem?_eq_getElem h];rfl
theorem Wg (x:UInt8):IntKind.i64.wrap ((x.toNat:Int).fdiv (2 ^ min (6:Int).toNat IntKind.u8.bits))=((x.toNat / 64:Nat):Int):=by
 have hx:=x.toNat_lt;have e1:(2:Int) ^ min (6:Int).toNat IntKind.u8.bits=64:=by decide
 have e2:(x.toNat:Int).fdiv 64=((x.toNat / 64:Nat):Int):=by rw [Int.fdiv_eq_ediv_of_nonneg _ ah];rfl
 rw [e1,e2,IntWalk.i64_in _ ah]
theorem sA {r:Fr} {s:List UInt8} (hH:At r ⟨0,0,none⟩ (bR er)) (hK:At r ⟨1,0,none⟩ (bR gr)) (hs:s.length≤10000000000) :
  ay prog 65 #[.string (str s)] r [] (aL fun v U=>v=.int .i64 (pP s:Int)∧U=[]):=by
 have iE:=Ez s;refine ay.of (n:=11) _ rfl func65 rfl rfl rfl fun g hg R hR=>?_;have hH:=hH.mono hg;have hK:=hK.mono hg;refine S.seq<|S.region rfl<|O.q 1 rfl<|O.nil<|S.seq<|S.region rfl<|O.q 1 rfl<|O.aB (.p rfl) rfl aa rfl rfl ((K5 zE zE bJ)) ?_;rintro _ _ ⟨b4,rfl,rfl⟩
 try simp only [an,aq,au]
 refine O.op (.p rfl) (.nilCheck rfl)<|O.op (.p rfl) (.fieldAddr CC rfl)<|O.op (.p rfl) (.p_ (j:=0) underlying149 fR rfl rfl rfl ah)<|O.op (.p rfl) (.cS lu rfl ai (GH ah)) ?_;refine O.slot 8 (v' :=bD ((lE s).getD 0 0)) rfl aK ?_;refine O.op (.p rfl) (.shr rfl rfl ah)<|O.op (.p rfl) (.lU underlying5 underlying3 rfl)<|O.slot 10 (v' :=.int .i64 (pP s:Int)) rfl (by exact congrArg (Value.int .i64) (Wg _)) ?_;refine O.q 1 rfl<|O.nil ?_;exact S.rt results65 rfl hR ⟨rfl,rfl⟩
theorem Nh {r:Fr} {b:Nat} {p:Option Addr} {v:Value} (hp:p=none∨p=some (⟨b,0,none⟩:Addr)) :
  ay prog 250 #[.pointer (some ⟨b,0,none⟩)] r [obj b 142 [.pointer p,v]] (aL fun u U=>u=.tuple #[]∧U=[obj b 142 [.pointer (some ⟨b,0,none⟩),v]]):=by
 refine ay.of (n:=20) _ rfl func250 rfl rfl rfl fun g hg R hR=>?_
 rcases hp with rfl|rfl
 ·
  refine S.seq<|S.region rfl<|O.q 1 rfl<|O.op (.p rfl) (.nilCheck rfl)<|O.op (.p rfl) (.aD zu rfl)<|O.op (.p rfl) (.lo zn) ?_;refine O.op (.p rfl) (.rK underlying140 rfl rfl)<|O.sT 6 rfl aK ?_;refine O.nil<|S.bx rfl<|S.region rfl<|O.q 2 rfl<|O.op (.p rfl) (.toUnsafe (k:=1) underlying140 underlying402 aa rfl ai bI) ?_;refine O.op (.p rfl) (.Tr func316 aa rfl aa aa rfl rfl)<|O.op (.p rfl) (.N9 underlying402 underlying140 aa rfl ai aa) ?_;refine O.op (.p rfl) (.nilCheck rfl)<|O.op (.p rfl) (.aD zu rfl)<|O.bu rfl (.bn zn rfl rfl bq ai aW) ?_;refine O.nil<|S.ev results250 fun w hw=>Holds.end_ hR hw ?_;exact pk ⟨rfl,rfl⟩
 ·
  refine S.seq<|S.region rfl<|O.q 1 rfl<|O.op (.p rfl) (.nilCheck rfl)<|O.op (.p rfl) (.aD zu rfl)<|O.op (.p rfl) (.lo zn) ?_;refine O.op (.p rfl) (.rK underlying140 rfl rfl)<|O.aN 6 rfl aK ?_;refine O.nil<|S.aQ rfl<|S.seq<|S.region rfl<|O.q 1 rfl<|O.op (.p rfl) (.nilCheck rfl)<|O.op (.p rfl) (.aD zu rfl)<|O.op (.p rfl) (.lo zn) ?_;refine O.q 1 rfl<|O.op (.p rfl) (.Tn underlying140 aa aa rfl rfl)<|O.aN 19 rfl aK ?_;refine O.nil<|S.aQ rfl<|S.skip<|S.ev results250 fun w hw=>Holds.end_ hR hw ?_;exact pk ⟨rfl,rfl⟩
theorem XD {r:Fr} {b:Nat} {xs:List UInt8} {c:UInt8} (hl:xs.length≤1000000000) :
  ay prog 166 #[.pointer (some ⟨b,0,none⟩),bD c] r [jJ 142 5 b xs] (aL fun u U=>u=.nilIface∧U=[jJ 142 5 b (xs++[c])]):=by
 refine ay.of (n:=17) _ rfl func166 rfl rfl rfl fun g hg R hR=>?_;refine S.open (bs:=fun x:Bx b=>[obj b 142 [.pointer x.p,x.v],av ag.u8 5 x.v xs]) .here (fun m h=>jJ.jq h) fun x=>?_;simp only [List.cons_append,List.nil_append];have Q1:=x.hp;refine S.seq<|S.region rfl<|O.q 1 rfl<|O.nil<|S.seq<|S.region rfl<|O.q 1 rfl<|O.bM (.p rfl) rfl aa rfl rfl ai (Nh Q1) ?_;rintro _ _ ⟨rfl,rfl⟩
 try simp only [an,aq,au]
 refine O.nil<|S.seq<|S.region rfl<|O.q 2 rfl<|O.op (.p rfl) (.nilCheck rfl)<|O.op (.p rfl) (.aD zv rfl)<|O.op (.p rfl) (.lo bc) ?_;refine O.q 1 rfl<|O.aM (.p rfl) (.ct (T:=ag.u8) (ys:=[c]) underlying24 eR aC rfl rfl ⟨rfl,trivial⟩ aC) ?_;rintro _ _ ⟨iO,iR,rfl,rfl⟩;refine O.aM (.p rfl) (.gT (T:=ag.u8) underlying24 eR aC rfl rfl ai ai b5 b5) ?_;rintro _ _ ⟨nV,n4,rfl,rfl⟩;refine O.op (.p rfl) (.nilCheck rfl)<|O.op (.p rfl) (.aD zv rfl)<|O.bu rfl (.bn bc rfl rfl bq ai aW) ?_;refine O.nil<|S.seq<|S.region rfl<|O.q 1 rfl<|O.nil ?_;rw [show xs.length+[c].length=(xs++[c]).length from by simp];refine S.cB (A:=jJ 142 5 b (xs++[c])) (bs:=[obj b 142 [.pointer (some ⟨b,0,none⟩),.slice nV (xs++[c]).length n4],av ag.u8 5 (.slice nV (xs++[c]).length n4) (xs++[c])]) bf (fun m h=>jJ.fold (.inr rfl) h) ?_;exact S.rt results166 rfl hR ⟨rfl,rfl⟩
theorem L6 (c x:UInt8):Value.int .u8 (IntKind.u8.wrap ((c.toNat:Int)+(x.toNat:Int)))=bD (c+x):=by
 rw [LF]
 congr 1
 apply UInt8.toNat_inj.1
 rw [UInt8.toNat_add];simp only [Sp.byteOf];have:=(((c.toNat:Int)+(x.toNat:Int)) % 256).toNat
 simp
 omega
theorem Wh {r:Fr} {b:Nat} {va:Value} {xs ys:List UInt8} (ha:aj ag.u8 r va xs) (hl:xs.length+ys.length≤1000000000) :
  ay prog 103 #[.pointer (some ⟨b,0,none⟩),va] r [jJ 142 5 b ys] (aL fun u U=>u=.tuple #[]∧U=[jJ 142 5 b (ys++xs.map (48+·))]):=by
 obtain ⟨a1,c1,rfl⟩:=ha.shape;refine ay.of (n:=17) _ rfl func103 rfl rfl rfl fun g hg R hR=>?_;have ha:=ha.mono hg;refine S.seq<|S.region rfl<|O.q 1 rfl<|O.op (.p rfl) (.len rfl underlying24 rfl)<|O.q 1 rfl<|O.nil<|S.block<|S.imp (ax :=[jJ 142 5 b (ys++(xs.take 0).map (48+·))]) (fun m h=>by simpa using h) ?_;refine S.e6 (ι:=Nat) (fun i=>i≤xs.length) (fun i=>[(8,.int .i64 (i:Int))]) [(0,_),(6,_),(7,_)] (fun i=>[jJ 142 5 b (ys++(xs.take i).map (48+·))]) (fun i=>xs.length - i) (0) bI (.cons rfl (.nil)) (.cons rfl (.cons rfl (.cons rfl (.nil)))) rfl fun i hx ih=>?_;have aX:=cL (g:=g);refine S.seq<|S.region rfl<|O.op (.p rfl) (.lss rfl rfl)<|O.nil (S.seq ?_)
 first|refine S.cc rfl (fun h9=>?_) (fun h9=>?_)|refine S.b7 rfl (fun h9=>?_) (fun h9=>?_)
 ·have hi:i<xs.length:=by omega
  have e:ys++(xs.take i).map (48+·)++[48+xs[i]]=ys++(xs.take (i+1)).map (48+·):=by rw [List.append_assoc,List.take_succ_eq_append_getElem hi,List.map_append];rfl
  have jF:(xs.take i).length≤xs.length:=by simp;omega
  refine S.skip<|S.seq<|S.block<|S.seq<|S.region rfl<|O.b8 (.p rfl) underlying24 fR rfl rfl (show _=(((i):Nat):Int) by omega) (by first|assumption|exact aj.mono hg zE|exact aj.left zE|exact aj.left (aj.mono hg zE)) (h:=fun AE y9 l9 mc=>?_)
  cases mc
  refine O.op (.p rfl) (.loadAt lu rfl l9 rfl) ?_;refine O.q 1 rfl<|O.nil<|S.region rfl<|O.q 2 rfl<|O.op (.p rfl) (.nq rfl rfl)<|O.slot 14 (v' :=bD (48+xs[i])) rfl (by exact L6 48 xs[i]) ?_;refine O.bM (.p rfl) rfl aa rfl rfl ai (XD b5) ?_;rintro _ _ ⟨rfl,rfl⟩
  try simp only [an,aq,au]
  refine O.nil<|S.inBlock<|S.region rfl<|O.op (.p rfl) (.add rfl rfl (IntWalk.i64_in _ ah))<|O.q 1 rfl<|O.nil ?_;rw [e];exact S.dz (ih (i+1) ah ah)
 ·clear ih
  have hi:i=xs.length:=by omega
  subst hi;rw [List.take_length];refine S.exit rfl<|S.ev results103 fun w hw=>Holds.end_ hR hw ?_;exact pk ⟨rfl,rfl⟩
def oT (d:List UInt8) (k:Nat):List UInt8:=(List.range k).map fun i=>sW d (i+2)
theorem Mz (d:List UInt8) (k:Nat):oT d (k+1)=oT d k++[sW d (k+2)]:=by unfold oT;rw [List.range_succ,List.map_append];rfl
theorem MA (s:List UInt8):(oT (lE s) 510).map (48+·)=bS s:=(XA s).symm
theorem Mv:∀ (k:Fin 8) (n:Fin 256),bitsOf BinOp.and IntKind.u8 (((n.val:Nat):Int).fdiv (2 ^ min (((k.val:Nat):Int)).toNat IntKind.u8.bits)) 1=((n.val >>>k.val &&& 1:Nat):Int):=by decide
theorem Mu (d:List UInt8) (i:Nat):Value.int .u8 (bitsOf BinOp.and IntKind.u8 (((d.getD (i / 8) 0).toNat:Int).fdiv (2 ^ min (((7 - i % 8:Nat):Int)).toNat IntKind.u8.bits)) 1)=bD (sW d i):=by
 have hk:7 - i % 8<8:=by omega
 have h:=Mv ⟨7 - i % 8,hk⟩ ⟨_,(d.getD (i / 8) 0).toNat_lt⟩;simp only at h;rw [h];unfold sW bD;rw [UInt8.toNat_and,UInt8.toNat_shiftRight,UInt8.toNat_ofNat'];rw [Nat.mod_eq_of_lt (show 7 - i % 8<2 ^ 8 by omega),Nat.mod_eq_of_lt hk]
 rfl
theorem My {r:Fr} {l b rE bh:Nat} {d:List UInt8} {J:List UInt8→az} (hf:At r ⟨rE,0,none⟩ [.int .i64 2]) (hp:At r ⟨bh,0,none⟩ [.pointer (some ⟨b,0,none⟩)]) (hd:At r ⟨b,0,none⟩ (d.map bD)) (iE:d.length=64)
  (hy:∀ done y,(∃ k,k<510∧done++[y]=oT d (k+1))→gM prog l #[bD y] r [J done] (aL fun u U=>u=.bool true∧U=[J (done++[y])])) :
  ay prog 165 #[pW l,.pointer (some ⟨rE,0,none⟩),.pointer (some ⟨bh,0,none⟩)] r [J []] (aL fun _ U=>U=[J (oT d 510)]):=by
 refine ay.of (n:=24) _ rfl func165 rfl rfl rfl fun g hg R hR=>?_;replace hf:At g.h ⟨rE,0,none⟩ [.int .i64 2]:=At.mono hg hf;replace hp:At g.h ⟨bh,0,none⟩ [.pointer (some ⟨b,0,none⟩)]:=At.mono hg hp;replace hd:At g.h ⟨b,0,none⟩ (d.map bD):=At.mono hg hd;refine S.seq<|S.region rfl<|O.op (.p rfl) (.loadAt cv rfl hf rfl) ?_;refine O.q 1 rfl<|O.nil<|S.block<|S.e6 (ι:=Nat) (fun i=>i≤510) (fun i=>[(4,.int .i64 ((i+2:Nat):Int))]) [(0,_),(2,_)] (fun i=>[J (oT d i)]) (fun i=>510 - i) (0) bI (.cons rfl (.nil)) (.cons rfl (.cons rfl (.nil))) rfl fun i hx ih=>?_;have aX:=cL (g:=g);refine S.seq<|S.seq<|S.region rfl<|O.q 1 rfl<|O.op (.p rfl) (.lss rfl rfl)<|O.nil ?_
 first|refine S.cc rfl (fun h7=>?_) (fun h7=>?_)|refine S.b7 rfl (fun h7=>?_) (fun h7=>?_)
 ·have hi:i<510:=by omega
  have eU:=Mz d i;have hdl:(d.map bD).length=64:=by rw [List.length_map,iE]
  refine S.skip<|S.seq<|S.block<|S.seq<|S.region rfl<|O.q 1 rfl<|O.op (.p rfl) (.loadAt N2 rfl hp rfl) ?_;refine O.q 1 rfl<|O.op (.p rfl) (.quo rfl rfl ah)<|O.slot 13 (v' :=.int .i64 (((i+2) / 8:Nat):Int)) rfl (by exact congrArg (Value.int .i64) (by rw [Int.tdiv_eq_ediv_of_nonneg ah,IntWalk.i64_in _ ah];rfl)) ?_;refine O.op (.p rfl) (.nilCheck rfl)<|O.op (.p rfl) (.kN (j:=(i+2) / 8) underlying149 fR rfl rfl rfl ah)<|O.op (.p rfl) (.load lu rfl (hd.at (GH ah))) ?_;refine O.slot 16 (v' :=bD (d.getD ((i+2) / 8) 0)) rfl aK ?_;refine O.q 1 rfl<|O.op (.p rfl) (.rem rfl rfl ah)<|O.slot 18 (v' :=.int .i64 (((i+2) % 8:Nat):Int)) rfl (by exact congrArg (Value.int .i64) (by rw [Int.tmod_eq_emod_of_nonneg ah];omega)) ?_;refine O.op (.p rfl) (.sub rfl rfl (IntWalk.i64_in _ ah))<|O.slot 19 (v' :=.int .i64 ((7 - (i+2) % 8:Nat):Int)) rfl (by exact congrArg (Value.int .i64) ah) ?_;refine O.op (.p rfl) (.shr rfl rfl ah)<|O.op (.p rfl) (.and rfl rfl)<|O.slot 21 (v' :=bD (sW d (i+2))) rfl (by exact Mu d (i+2)) ?_;refine O.XM (.p rfl) rfl rfl rfl bf ((hy (oT d i) (sW d (i+2)) ⟨i,hi,eU.symm⟩).sub hg) ?_;rintro _ _ ⟨rfl,rfl⟩;refine O.op (.p rfl) (.not rfl)<|O.nil<|S.aQ rfl<|S.skip<|S.inBlock<|S.region rfl<|O.q 1 rfl<|O.op (.p rfl) (.add rfl rfl (IntWalk.i64_in _ ah))<|O.q 1 rfl<|O.nil ?_;simp only [List.cons_append,List.nil_append];rw [← eU]
  exact S.pw (ih (i+1) ah ah)
 ·clear ih
  have hi:i=510:=by omega
  subst hi;refine S.exit rfl<|S.ev results165 fun w hw=>Holds.end_ hR hw ?_;exact pk rfl
theorem MB {r:Fr} {b:Nat}:ay prog 102 #[.pointer (some ⟨b,0,none⟩),.int .i64 2] r [] (aL fun v U=>∃ rE bh,v=.func (.func 165) #[] #[.pointer (some ⟨rE,0,none⟩),.pointer (some ⟨bh,0,none⟩)]∧U=[obj rE 3 [.int .i64 2],obj bh 234 [.pointer (some ⟨b,0,none⟩)]]):=by
 refine ay.of (n:=6) _ rfl func102 rfl rfl rfl fun g hg R hR=>?_;refine S.seq<|S.region rfl<|O.aM (.p rfl) (.box (cs:=[_]) rfl rfl) ?_;rintro _ _ ⟨b2,rfl,rfl⟩;refine O.aM (.p rfl) (.box (cs:=[_]) rfl rfl) ?_;rintro _ _ ⟨b3,rfl,rfl⟩;refine O.q 1 rfl<|O.nil<|S.seq<|S.region rfl<|O.op (.p rfl) (.jc rfl rfl)<|O.q 1 rfl<|O.nil ?_;exact S.rt results102 rfl hR ⟨_,_,rfl,rfl⟩
theorem Mo {r:Fr} {b:Nat} {xs:List UInt8} (h0:0<xs.length):ay prog 104 #[.pointer (some ⟨b,0,none⟩)] r [jJ 142 5 b xs] (aL fun v U=>v=.string (str xs)∧U=[]):=by
 refine ay.of (n:=14) _ rfl func104 rfl rfl rfl fun g hg R hR=>?_;refine S.open (bs:=fun x:Bx b=>[obj b 142 [.pointer x.p,x.v],av ag.u8 5 x.v xs]) .here (fun m h=>jJ.jq h) fun ⟨p,v,_⟩=>?_;simp only [List.cons_append,List.nil_append];refine S.lV (.there .here) (fun _ x=>x.shape) fun ⟨a,c,hv⟩=>?_;subst hv;refine S.lV (.there .here) (fun _ x=>x.vZ ah) fun ⟨⟨b',hb⟩,_,hc1,tw⟩=>?_;subst hb;refine S.d_ (A:=obj b 142 [.pointer p,.slice (some ⟨b',0,none⟩) xs.length c]) ai fun g hs hm ⟨_,x',s'⟩=>?_;have ho:=(fun s x=>(gf x).mono s) s' x';clear x' s';replace hg:=Fr.aH hg hs;replace hR:=bp hR hm;clear hs hm;refine S.seq<|S.region rfl<|O.q 1 rfl<|O.nil<|S.seq<|S.bB (L:=[0,1,2,3,5,6,7,8,9,4,10,11]) bA aa<|af.q 1 rfl<|.quiet (.p rfl) rfl (fun _=>.nilCheck rfl)<|.quiet (.p rfl) rfl (fun _=>.fieldAddr zv rfl)<|.quiet (.p rfl) rfl (fun _=>.loadAt bc rfl (ho.drop 1) rfl) ?_;refine af.q 1 rfl<|.quiet (.p rfl) rfl (fun _=>.nilCheck rfl)<|.quiet (.p rfl) rfl (fun _=>.fieldAddr zv rfl)<|.quiet (.p rfl) rfl (fun _=>.loadAt bc rfl (ho.drop 1) rfl) ?_;refine .quiet (.p rfl) rfl (fun _=>.len rfl underlying24 rfl)<|.quiet (.p rfl) rfl (fun _=>.Wm rfl ah)<|af.Bf (xs:=xs) (.p rfl) aa underlying239 aa rfl ⟨b',_,_,rfl,rfl⟩ rfl ai rfl ah ?_;refine af.q 1 rfl<|aI.nil ?_
 exact S.rt results104 rfl hR ⟨rfl,rfl⟩
theorem oF {r:Fr} {s:List UInt8} (hH:At r ⟨0,0,none⟩ (bR er)) (hK:At r ⟨1,0,none⟩ (bR gr)) (hs:s.length≤10000000000) :
  ay prog 37 #[.string (str s)] r [] (aL fun v U=>v=.string (str (bS s))∧U=[]):=by
 have iE:=Ez s;refine ay.of (n:=15) _ rfl func37 rfl rfl rfl fun g hg R hR=>?_;have hH:=hH.mono hg;have hK:=hK.mono hg;refine S.seq<|S.region rfl<|O.q 1 rfl<|O.nil<|S.seq<|S.region rfl<|O.aM (.p rfl) (.alloc (cs:=[.pointer none,.slice none 0 0]) zeroValue142 rfl) ?_;rintro _ _ ⟨b3,rfl,rfl⟩;refine O.nil<|S.seq<|S.seq<|S.region rfl<|O.q 1 rfl<|O.aB (.p rfl) rfl aa rfl rfl ((K5 hH hK ah)) ?_;rintro _ _ ⟨fW,rfl,rfl⟩
 try simp only [an,aq,au]
 refine O.op (.p rfl) (.nilCheck rfl)<|O.op (.p rfl) (.fieldAddr CC rfl)<|O.aB (.p rfl) rfl aa rfl rfl ((MB)) ?_;rintro _ _ ⟨rE,bh,rfl,rfl⟩
 try simp only [an,aq,au]
 refine O.nil<|S.gh (T:=ag.u8) (e:=5) ?_;refine S.cB (A:=jJ 142 5 b3 []) (bs:=[obj b3 142 [.pointer none,.slice none 0 0],av ag.u8 5 (.slice none 0 0) []]) bf (fun m h=>jJ.fold (.inl rfl) h) ?_;refine S.d_ (A:=obj fW 151 ((lE s).map bD)) ai fun g hs hm ⟨_,x',s'⟩=>?_;have hd:=(fun s x=>(gf x).mono s) s' x';clear x' s';replace hg:=Fr.aH hg hs;replace hR:=bp hR hm
 try replace hH:=hH.mono hs
 try replace hK:=hK.mono hs
 clear hs hm;refine S.d_ (A:=obj rE 3 [.int .i64 2]) ai fun g hs hm ⟨_,x',s'⟩=>?_;have hf:=(fun s x=>(gf x).mono s) s' x';clear x' s';replace hg:=Fr.aH hg hs;replace hR:=bp hR hm
 try replace hH:=hH.mono hs
 try replace hK:=hK.mono hs
 try replace hd:=hd.mono hs
 clear hs hm;refine S.d_ (A:=obj bh 234 [.pointer (some ⟨fW,0,none⟩)]) ai fun g hs hm ⟨_,x',s'⟩=>?_;have hp:=(fun s x=>(gf x).mono s) s' x';clear x' s';replace hg:=Fr.aH hg hs;replace hR:=bp hR hm
 try replace hH:=hH.mono hs
 try replace hK:=hK.mono hs
 try replace hd:=hd.mono hs
 try replace hf:=hf.mono hs
 clear hs hm;refine S.block<|S.UQ (vT:=[10]) (β:=UInt8) (Br:=Unit) (dB:=Unit) (vs:=fun y _=>[bD y]) (own:=fun _ _=>[]) (aO:=[]) (uH :=[]) (fun aZ=>∃ k,k<510∧aZ=oT (lE s) (k+1)) (fun ys=>ys=oT (lE s) 510) (fun aZ _=>[jJ 142 5 b3 (aZ.map (48+·))]) () rfl aa rfl (fun _ _=>rfl) aa (fun l J hy=>ay.mono (My hf hp hd iE (fun aZ y hok=>hy aZ y () hok)) (aL.imp fun _ _ h=>⟨_,rfl,h⟩)) bf (fun l jf o7 tm done y e t hpre g qO R hR=>?_) (fun jf t ys mL=>?_)
 ·simp only [under,List.cons_append,List.nil_append]
  replace hg:=Fr.aH hg qO
  try replace hH:=hH.mono qO
  try replace hK:=hK.mono qO
  try replace hd:=hd.mono qO
  try replace hf:=hf.mono qO
  try replace hp:=hp.mono qO
  try replace hd:=hd.mono qO
  try replace hf:=hf.mono qO
  try replace hp:=hp.mono qO
  obtain ⟨kk,hkk,hdn⟩:=hpre;have mM:(done++[y]).length=kk+1:=by rw [hdn];simp [oT]
  rw [List.length_append,List.length_singleton] at mM;refine S.region rfl<|O.q 1 rfl<|O.nil<|S.beginRound ai rfl<|S.block<|S.region rfl<|O.q 1 rfl<|O.aM (.p rfl) (.ct (T:=ag.u8) (ys:=[y]) underlying24 eR aC rfl rfl ⟨rfl,trivial⟩ aC) ?_;rintro _ _ ⟨a12,jO,rfl,rfl⟩;refine O.e7 (.p rfl) rfl aa rfl rfl (bs:=[jJ 142 5 b3 (done.map (48+·)),av ag.u8 5 (.slice a12 1 jO) [y]]) bf (ay.xY (U:=[jJ 142 5 b3 (done.map (48+·))]) (bs:=[av ag.u8 5 (.slice a12 1 jO) [y]]) (fun m hm hd=>Wh ((Sat.arr hm).mono (Fr.dL hd)) b5)) ?_;rintro _ _ ⟨rfl,rfl⟩
  try simp only [an,aq,au]
  refine O.nil<|S.inBlock<|S.Vw ai fun w hw=>hR () w ?_;rw [List.map_append];exact hw.jU jx
 ·simp only [an,aq,au]
  subst mL;rw [MA];refine S.inBlock<|S.seq<|S.region rfl<|O.bM (.p rfl) rfl aa rfl rfl ai (Mo (by rw [lN];decide)) ?_;rintro _ _ ⟨rfl,rfl⟩
  try simp only [an,aq,au]
  refine O.q 1 rfl<|O.nil<|S.Vp (.inr ⟨_,rfl⟩) (.cons ai .nil) results37 (.tmp rfl) fun w hw=>?_;exact Holds.end_ hR hw ⟨_,⟨rfl,rfl⟩,by repeat (first|exact aS|exact aU|(apply aT;focus (repeat (first|exact aR|apply zt)))|apply aV)⟩
attribute [local irreducible] bw bZ
theorem RK {r:Fr} {va:Value} {xs:List aG} {f:FuncId} {first cap:Array Value} (ha:aj bW r va xs) (hc:dA prog f=true) (q:aG→Bool)
  (con:∀ cs x,x∈xs→bW.rel r cs x→ay prog f (first++#[.agg cs.toArray]++cap) r [] (aL fun v U=>v=.bool (q x)∧U=[])) :
  ay prog 285 #[va,.func (.func f) first cap] r [] (aL fun v U=>∃ k:Int,v=.int .i64 k∧(0≤k↔xs.any q=true)∧U=[]):=by
 have har:=ha;refine ay.of (n:=19) [va,.func (.func f) first cap] rfl func285 rfl rfl rfl fun g hg R hR=>?_;have ha:=ha.mono hg;have hbd:=ha.bound;obtain ⟨a1,c1,rfl⟩:=ha.shape;refine S.seq<|S.region rfl<|O.q 1 rfl<|O.nil<|S.seq<|S.seq<|S.region rfl<|O.q 1 rfl<|O.op (.p rfl) (.len rfl underlying25 rfl)<|O.q 1 rfl<|O.nil<|S.block<|S.e6 (ι:=Nat) (fun i=>i≤xs.length∧(xs.take i).any q=false) (fun i=>[(8,.int .i64 (i:Int))]) [(0,_),(1,_),(7,_)] (fun i=>[]) (fun i=>xs.length - i) (0) (by exact ⟨by simp,by simp⟩) (.cons rfl (.nil)) (.cons rfl (.cons rfl (.cons rfl (.nil)))) rfl fun i hx ih=>?_;have aX:=cL (g:=g);obtain ⟨hx1,hx2⟩:=hx;refine S.seq<|S.region rfl<|O.op (.p rfl) (.lss rfl rfl)<|O.nil (S.seq ?_)
 first|refine S.cc rfl (fun h9=>?_) (fun h9=>?_)|refine S.b7 rfl (fun h9=>?_) (fun h9=>?_)
 ·have hi:i<xs.length:=by omega
  cases e:q xs[i] with
  |true =>
   have hy:xs.any q=true:=List.any_eq_true.2 ⟨xs[i],List.getElem_mem hi,e⟩;clear ih;refine S.skip<|S.seq<|S.block<|S.seq<|S.region rfl<|O.q 2 rfl<|O.nil<|S.seq<|S.region rfl<|O.q 3 rfl<|O.ib (.p rfl) underlying25 di rfl rfl rfl har hg (h:=fun sq sY kY mg=>?_);have kZ:=ag.rel.mono mg hg;obtain ⟨SH,SL,rfl,DK,OB⟩:=bW.sh kZ;refine O.op (.p rfl) (.bz isAgg31 aa rfl kY) ?_;refine O.aB (.p rfl) rfl hc rfl rfl (((con _ _ (List.getElem_mem hi) mg).sub hg)) ?_;rintro _ _ ⟨rfl,rfl⟩
   try simp only [an,aq,au]
   refine O.sT 16 rfl (by exact e) ?_;refine O.nil<|S.bx rfl<|S.seq<|S.region rfl<|O.q 2 rfl<|O.nil ?_;exact S.rt results285 rfl hR ⟨(i:Int),rfl,⟨fun _=>hy,fun _=>by omega⟩,rfl⟩
  |false =>
   refine S.skip<|S.seq<|S.block<|S.seq<|S.region rfl<|O.q 2 rfl<|O.nil<|S.seq<|S.region rfl<|O.q 3 rfl<|O.ib (.p rfl) underlying25 di rfl rfl rfl har hg (h:=fun sq sY kY mg=>?_);have kZ:=ag.rel.mono mg hg;obtain ⟨SH,SL,rfl,DK,OB⟩:=bW.sh kZ;refine O.op (.p rfl) (.bz isAgg31 aa rfl kY) ?_;refine O.aB (.p rfl) rfl hc rfl rfl (((con _ _ (List.getElem_mem hi) mg).sub hg)) ?_;rintro _ _ ⟨rfl,rfl⟩
   try simp only [an,aq,au]
   refine O.aN 16 rfl (by exact e) ?_;refine O.nil<|S.aQ rfl<|S.skip<|S.inBlock<|S.region rfl<|O.op (.p rfl) (.add rfl rfl (IntWalk.i64_in _ ah))<|O.q 1 rfl<|O.nil ?_;exact S.dz (ih (i+1) (by exact ⟨by omega,by rw [List.take_succ_eq_append_getElem hi,List.any_append,hx2];simp [e]⟩) ah)
 ·clear ih
  have hi:i=xs.length:=by omega
  subst hi;rw [List.take_length] at hx2;refine S.exit rfl<|S.seq<|S.region rfl<|O.q 1 rfl<|O.nil ?_;exact S.rt results285 rfl hR ⟨-1,rfl,⟨fun h=>absurd h aC,fun h=>by rw [hx2] at h;cases h⟩,rfl⟩
theorem Ch {r:Fr} {va:Value} {xs:List aG} {f:FuncId} {first cap:Array Value} (ha:aj bW r va xs) (hc:dA prog f=true) (q:aG→Bool)
  (con:∀ cs x,x∈xs→bW.rel r cs x→ay prog f (first++#[.agg cs.toArray]++cap) r [] (aL fun v U=>v=.bool (q x)∧U=[])) (h1:(Value.func (.func f) first cap).oneCell' =true) :
  ay prog 207 #[va,.func (.func f) first cap] r [] (aL fun v U=>v=.bool (xs.any q)∧U=[]):=by
 refine ay.of (n:=9) [va,.func (.func f) first cap] rfl func207 rfl rfl rfl fun g hg R hR=>?_;refine S.seq<|S.region rfl<|O.q 1 rfl<|O.nil<|S.seq<|S.region rfl<|O.q 2 rfl<|O.aB (.p rfl) rfl aa rfl rfl (((RK ha hc q con).sub hg)) ?_;rintro mC _ ⟨SB,rfl,DB,rfl⟩
 try simp only [an,aq,au]
 refine O.op (.p rfl) (.geq rfl rfl)<|O.q 1 rfl<|O.nil ?_;exact S.rt results207 rfl hR ⟨congrArg _ (by rw [Bool.eq_iff_iff,decide_eq_true_iff];exact DB),rfl⟩
def oI (s:Nat) (p key:List UInt8):Bool:=decide (pP key=s) && p.isPrefixOf (bS key)
theorem VV {r:Fr} {b s:Nat} {L:List aG} {key p:List UInt8} (hA:kC r b s L) (hH:At r ⟨0,0,none⟩ (bR er)) (hK:At r ⟨1,0,none⟩ (bR gr)) (hk:key.length≤10000000000) (hp:p.length≤1000000000) :
  ay prog 209 #[.agg #[.pointer (some ⟨b,0,none⟩)],.string (str key),.string (str p)] r [] (aL fun v U=>v=.bool (oI s p key)∧U=[]):=by
 refine ay.of (n:=19) _ rfl func209 rfl rfl rfl fun g hg R hR=>?_;have hA:=hA.mono hg;have hH:=hH.mono hg;have hK:=hK.mono hg
 by_cases q:pP key=s
 ·have e0:oI s p key=p.isPrefixOf (bS key):=by unfold oI;rw [decide_eq_true q,Bool.true_and]
  refine S.seq<|S.region rfl<|O.aM (.p rfl) (.box (cs:=[_]) rfl rfl) ?_;rintro _ _ ⟨b3,rfl,rfl⟩;refine O.q 1 rfl<|O.nil<|S.seq<|S.c7 (b:=b3) (cs' :=[.pointer (some ⟨b,0,none⟩)]) ai rfl ?_;refine S.cW ai fun g hs hm h3=>?_;replace hg:=Fr.aH hg hs;replace hR:=bp hR hm
  try replace hA:=hA.mono hs
  try replace hH:=hH.mono hs
  try replace hK:=hK.mono hs
  clear hs hm;refine S.bB (L:=[0,2,3,1,4,5,6,7,9,8,10,11,12]) bA aa ?_;refine af.q 1 rfl<|.quiet (.p rfl) rfl (fun _=>.fieldAddr w5 rfl)<|.quiet (.p rfl) rfl (fun _=>.loadAt o8 rfl h3 rfl) ?_;refine af.aB (.p rfl) aa rfl aa rfl rfl ((sA hH hK hk)) ?_;rintro _ _ ⟨rfl,rfl⟩
  try simp only [an,aq,au]
  refine af.aB (.p rfl) aa rfl aa rfl rfl ((A7 hA)) ?_;rintro _ _ ⟨rfl,rfl⟩
  try simp only [an,aq,au]
  refine .quiet (.p rfl) rfl (fun _=>.eql rfl rfl)<|af.sT 12 rfl (by exact decide_eq_true ah) ?_;refine af.q 3 rfl<|af.aB (.g rfl rfl) aa rfl aa rfl rfl ((oF hH hK hk)) ?_;rintro _ _ ⟨rfl,rfl⟩
  try simp only [an,aq,au]
  refine af.aB (.g rfl rfl) aa rfl aa rfl rfl ((xf bI ah)) ?_;rintro _ _ ⟨rfl,rfl⟩
  try simp only [an,aq,au]
  refine af.q 2 rfl<|aI.nil ?_;exact S.rt results209 rfl hR ⟨congrArg Value.bool e0.symm,rfl⟩
 ·have e0:oI s p key=false:=by unfold oI;rw [decide_eq_false q,Bool.false_and]
  refine S.seq<|S.region rfl<|O.aM (.p rfl) (.box (cs:=[_]) rfl rfl) ?_;rintro _ _ ⟨b3,rfl,rfl⟩;refine O.q 1 rfl<|O.nil<|S.seq<|S.c7 (b:=b3) (cs' :=[.pointer (some ⟨b,0,none⟩)]) ai rfl ?_;refine S.cW ai fun g hs hm h3=>?_;replace hg:=Fr.aH hg hs;replace hR:=bp hR hm
  try replace hA:=hA.mono hs
  try replace hH:=hH.mono hs
  try replace hK:=hK.mono hs
  clear hs hm;refine S.bB (L:=[0,2,3,1,4,5,6,7,9,8,10,11,12]) bA aa ?_;refine af.q 1 rfl<|.quiet (.p rfl) rfl (fun _=>.fieldAddr w5 rfl)<|.quiet (.p rfl) rfl (fun _=>.loadAt o8 rfl h3 rfl) ?_;refine af.aB (.p rfl) aa rfl aa rfl rfl ((sA hH hK hk)) ?_;rintro _ _ ⟨rfl,rfl⟩
  try simp only [an,aq,au]
  refine af.aB (.p rfl) aa rfl aa rfl rfl ((A7 hA)) ?_;rintro _ _ ⟨rfl,rfl⟩
  try simp only [an,aq,au]
  refine .quiet (.p rfl) rfl (fun _=>.eql rfl rfl)<|af.aN 12 rfl (by exact decide_eq_false ah) ?_;refine af.q 7 rfl<|aI.nil ?_;exact S.rt results209 rfl hR ⟨congrArg Value.bool e0.symm,rfl⟩
theorem Cz {r:Fr} {GQ bv bh bH s:Nat} {L:List aG} {p:List UInt8} {v1 v2 v3 v4:Value} {e:aG} {cs:List Value} (he:bW.rel r cs e) (h1:At r ⟨GQ,0,none⟩ [.pointer (some ⟨bh,0,none⟩)]) (h2:At r ⟨bv,0,none⟩ [.string (str p)]) (hP:At r ⟨bh,0,none⟩ [.pointer (some ⟨bH,0,none⟩),v1,v2,v3,v4]) (hA:kC r bH s L)
  (hH:At r ⟨0,0,none⟩ (bR er)) (hK:At r ⟨1,0,none⟩ (bR gr)) (hk:e.1.length≤10000000000) (hp:p.length≤1000000000) :
  ay prog 208 #[.agg cs.toArray,.pointer (some ⟨GQ,0,none⟩),.pointer (some ⟨bv,0,none⟩)] r [] (aL fun v U=>v=.bool (!oI s p e.1)∧U=[]):=by
 obtain ⟨l1,m1,rfl,l2,l3⟩:=bW.sh he;refine ay.of (n:=14) _ rfl func208 rfl rfl rfl fun g hg R hR=>?_;have h1:=h1.mono hg;have h2:=h2.mono hg;have hP:=hP.mono hg;have hA:=hA.mono hg;have hH:=hH.mono hg;have hK:=hK.mono hg;refine S.seq<|S.region rfl<|O.aM (.p rfl) (.box (cs:=[_,_]) rfl rfl) ?_;rintro _ _ ⟨b3,rfl,rfl⟩;refine O.q 1 rfl<|O.nil<|S.seq<|S.c7 (b:=b3) (cs' :=[.string (str e.1),.slice l1 e.2.1.length m1]) ai rfl ?_;refine S.cW ai fun g hs hm h3=>?_;replace hg:=Fr.aH hg hs;replace hR:=bp hR hm
 try replace h1:=h1.mono hs
 try replace h2:=h2.mono hs
 try replace hP:=hP.mono hs
 try replace hA:=hA.mono hs
 try replace hH:=hH.mono hs
 try replace hK:=hK.mono hs
 clear hs hm;refine S.bB (L:=[0,1,2,3,4,5,6,7,8,9]) bA aa ?_;refine .quiet (.p rfl) rfl (fun _=>.loadAt N3 rfl h1 rfl) ?_;refine .quiet (.p rfl) rfl (fun _=>.nilCheck rfl)<|.quiet (.p rfl) rfl (fun _=>.fieldAddr vj rfl)<|.quiet (.p rfl) rfl (fun _=>.bz (cs:=[_]) isAgg85 aa rfl (hP.take 1)) ?_;refine .quiet (.p rfl) rfl (fun _=>.fieldAddr eA rfl)<|.quiet (.p rfl) rfl (fun _=>.loadAt bL rfl h3 rfl) ?_;refine .quiet (.p rfl) rfl (fun _=>.loadAt bL rfl h2 rfl) ?_;refine af.aB (.p rfl) aa rfl aa rfl rfl ((VV hA hH hK hk hp)) ?_;rintro _ _ ⟨rfl,rfl⟩
 try simp only [an,aq,au]
 refine .quiet (.p rfl) rfl (fun _=>(by first|exact .lH rfl|exact .not rfl)) ?_;refine af.q 1 rfl<|aI.nil ?_;exact S.rt results208 rfl hR ⟨rfl,rfl⟩
def p5 (s:Nat) (p xs:List UInt8) (x:dJ):Prop:=gE x∧fP x=xs∧¬ (x.1=3∧p.length=510)∧¬ (x.1=4∧p.length≠510)∧∀ e∈x.2.2.2.1,oI s p e.1=true
noncomputable instance (s:Nat) (p xs:List UInt8) (x:dJ):Decidable (p5 s p xs x):=Classical.propDecidable _
theorem N0 {s:Nat} {p xs:List UInt8} {x:dJ} (h1:gE x) (h2:fP x=xs) (h3:¬ (x.1=3∧p.length=510)) (h4:¬ (x.1=4∧p.length≠510)):(x.2.2.2.1.any fun e=>!oI s p e.1)=!decide (p5 s p xs x):=by
 rw [Bool.eq_iff_iff,List.any_eq_true]
 constructor
 ·rintro ⟨e,he,h⟩
  rw [Bool.not_eq_true'] at h ⊢;rw [decide_eq_false_iff_not]
  intro w
  rw [w.2.2.2.2 e he] at h
  cases h
 ·intro h
  rw [Bool.not_eq_true',decide_eq_false_iff_not] at h;refine Classical.byContradiction fun hc=>h ⟨h1,h2,h3,h4,fun e he=>?_⟩
  cases u:oI s p e.1
  ·exact (hc ⟨e,he,by rw [u];rfl⟩).elim
  ·rfl
theorem KK {r:Fr} {bh bH s:Nat} {L:List aG} {p xs:List UInt8} {v1 v2 v3 v4 vs:Value} {cs:List Value} {x:dJ} (hP:At r ⟨bh,0,none⟩ [.pointer (some ⟨bH,0,none⟩),v1,v2,v3,v4]) (hA:kC r bH s L) (hs:aj ag.u8 r vs xs) (h:gv.rel r cs x) (hx0:x.2.1.length≤1000000000000∧x.2.2.1.length≤1000000000000) (hx2:x.2.2.2.1.length≤10000000∧∀ y∈x.2.2.2.1,y.2.1.length≤10000000) (hxs:xs.length=64)
  (hH:At r ⟨0,0,none⟩ (bR er)) (hK:At r ⟨1,0,none⟩ (bR gr)) (hp:p.length≤1000000000) :
  ay prog 124 #[.pointer (some ⟨bh,0,none⟩),.string (str p),vs,.agg cs.toArray] r [] (aL fun v U=>v=.bool (decide (p5 s p xs x))∧U=[]):=by
 have h0:=h;obtain ⟨sH,uA,gI,sJ,uB,gJ,rfl,k1,k2,bg⟩:=gv.sh h;obtain ⟨a2,c2,rfl⟩:=hs.shape;have hps:(str p).size=p.length:=uu p;refine ay.of (n:=41) _ rfl func124 rfl rfl rfl fun g hg R hR=>?_;have hP:=hP.mono hg;have hA:=hA.mono hg;have hs:=hs.mono hg;have h0:=h0.mono hg;have k1:=k1.mono hg;have k2:=k2.mono hg;have bg:=bg.mono hg;have hH:=hH.mono hg;have hK:=hK.mono hg;refine S.seq<|S.region rfl<|O.aM (.p rfl) (.box (cs:=[_]) rfl rfl) ?_;rintro _ _ ⟨b4,rfl,rfl⟩;refine O.aM (.p rfl) (.box (cs:=[_]) rfl rfl) ?_;rintro _ _ ⟨gU,rfl,rfl⟩;refine O.aM (.p rfl) (.box (cs:=[_,_,_,_]) rfl rfl) ?_;rintro _ _ ⟨oR,rfl,rfl⟩;refine O.q 1 rfl<|O.nil<|S.seq<|S.c7 (b:=oR) (cs' :=[bD x.1,.slice sH x.2.1.length sJ,.slice uA x.2.2.1.length uB,.slice gI x.2.2.2.1.length gJ]) ai rfl ?_;refine S.cW ai fun g hs hm h7=>?_;replace hg:=Fr.aH hg hs;replace hR:=bp hR hm
 try replace hP:=hP.mono hs
 try replace hA:=hA.mono hs
 try replace hs:=hs.mono hs
 try replace h0:=h0.mono hs
 try replace k1:=k1.mono hs
 try replace k2:=k2.mono hs
 try replace bg:=bg.mono hs
 try replace hH:=hH.mono hs
 try replace hK:=hK.mono hs
 clear hs hm;refine S.cW ai fun g hs hm h5=>?_;replace hg:=Fr.aH hg hs;replace hR:=bp hR hm
 try replace hP:=hP.mono hs
 try replace hA:=hA.mono hs
 try replace hs:=hs.mono hs
 try replace h0:=h0.mono hs
 try replace k1:=k1.mono hs
 try replace k2:=k2.mono hs
 try replace bg:=bg.mono hs
 try replace hH:=hH.mono hs
 try replace hK:=hK.mono hs
 try replace h7:=h7.mono hs
 clear hs hm;refine S.cW ai fun g hs hm h4=>?_;replace hg:=Fr.aH hg hs;replace hR:=bp hR hm
 try replace hP:=hP.mono hs
 try replace hA:=hA.mono hs
 try replace hs:=hs.mono hs
 try replace h0:=h0.mono hs
 try replace k1:=k1.mono hs
 try replace k2:=k2.mono hs
 try replace bg:=bg.mono hs
 try replace hH:=hH.mono hs
 try replace hK:=hK.mono hs
 try replace h7:=h7.mono hs
 try replace h5:=h5.mono hs
 clear hs hm;refine S.region rfl<|O.op (.p rfl) (.bz isAgg27 aa rfl h7) ?_;refine O.aB (.p rfl) rfl aa rfl rfl ((As h0 hx0 hx2 hH hK)) ?_;rintro _ _ ⟨k9,nZ,rfl,rfl⟩
 try simp only [an,aq,au]
 refine O.q 1 rfl<|O.nil<|S.seq<|S.fo ai fun g hs hm hS=>?_;replace hg:=Fr.aH hg hs;replace hR:=bp hR hm
 try replace hP:=hP.mono hs
 try replace hA:=hA.mono hs
 try replace hs:=hs.mono hs
 try replace h0:=h0.mono hs
 try replace k1:=k1.mono hs
 try replace k2:=k2.mono hs
 try replace bg:=bg.mono hs
 try replace hH:=hH.mono hs
 try replace hK:=hK.mono hs
 try replace h7:=h7.mono hs
 try replace h5:=h5.mono hs
 try replace h4:=h4.mono hs
 clear hs hm
 by_cases g1:fP x=xs
 ·have g0:gE x:=(Ar x).1 (by rw [g1];exact hxs)
  cases k9 with
  |none =>
   obtain ⟨e1,_,_⟩:=aj.x_ aC hS;rw [g1] at e1;rw [e1] at hxs;exact absurd hxs aC
  |some k9 =>
   by_cases g3:x.1=3∧p.length=510
   ·have e:decide (p5 s p xs x)=false:=decide_eq_false fun q=>q.2.2.1 g3
    refine S.block<|S.seq<|S.seq<|S.region rfl<|O.q 1 rfl<|O.op (.p rfl) (.nw underlying24 rfl rfl)<|O.aN 14 rfl aK ?_;refine O.q 1 rfl<|O.nil<|S.aQ rfl<|S.region rfl<|O.q 2 rfl<|O.aB (.p rfl) rfl aa rfl rfl (oS (by first|assumption|exact aj.mono hg zE|exact aj.left zE|exact aj.left (aj.mono hg zE)) (by first|assumption|exact aj.mono hg zE|exact aj.left zE|exact aj.left (aj.mono hg zE))) ?_;rintro _ _ ⟨rfl,rfl⟩
    try simp only [an,aq,au]
    refine O.sT 17 rfl (by exact decide_eq_true g1) ?_;refine O.op (.p rfl) (.not rfl)<|O.q 1 rfl<|O.nil<|S.aQ rfl<|S.seq<|S.seq<|S.region rfl<|O.op (.p rfl) (.fieldAddr ez rfl)<|O.op (.p rfl) (.loadAt ey rfl h7 rfl) ?_;refine O.op (.p rfl) (.eql rfl rfl)<|O.sT 22 rfl (by rw [g3.1];rfl) ?_;refine O.q 1 rfl<|O.op (.g rfl rfl) (.loadAt bL rfl h5 rfl) ?_;refine O.op (.g rfl rfl) (.c6 rfl underlying9 rfl)<|O.op (.g rfl rfl) (.eql rfl rfl)<|O.sT 26 rfl (by exact decide_eq_true b5) ?_;refine O.q 2 rfl<|O.nil<|S.bx rfl<|S.skip<|S.bx rfl<|S.seq<|S.region rfl<|O.q 1 rfl<|O.nil ?_;exact S.rt results124 rfl hR ⟨congrArg Value.bool e.symm,rfl⟩
   ·by_cases g4:x.1=4∧p.length≠510
    ·have e:decide (p5 s p xs x)=false:=decide_eq_false fun q=>q.2.2.2.1 g4
     refine S.block<|S.seq<|S.seq<|S.region rfl<|O.q 1 rfl<|O.op (.p rfl) (.nw underlying24 rfl rfl)<|O.aN 14 rfl aK ?_;refine O.q 1 rfl<|O.nil<|S.aQ rfl<|S.region rfl<|O.q 2 rfl<|O.aB (.p rfl) rfl aa rfl rfl (oS (by first|assumption|exact aj.mono hg zE|exact aj.left zE|exact aj.left (aj.mono hg zE)) (by first|assumption|exact aj.mono hg zE|exact aj.left zE|exact aj.left (aj.mono hg zE))) ?_;rintro _ _ ⟨rfl,rfl⟩
     try simp only [an,aq,au]
     refine O.sT 17 rfl (by exact decide_eq_true g1) ?_;refine O.op (.p rfl) (.not rfl)<|O.q 1 rfl<|O.nil<|S.aQ rfl<|S.seq<|S.seq<|S.region rfl<|O.op (.p rfl) (.fieldAddr ez rfl)<|O.op (.p rfl) (.loadAt ey rfl h7 rfl) ?_;refine O.op (.p rfl) (.eql rfl rfl)<|O.aN 22 rfl (by rw [g4.1];rfl) ?_;refine O.q 6 rfl<|O.nil<|S.aQ rfl<|S.region rfl<|O.op (.p rfl) (.fieldAddr ez rfl)<|O.op (.p rfl) (.loadAt ey rfl h7 rfl) ?_;refine O.op (.p rfl) (.eql rfl rfl)<|O.sT 30 rfl (by rw [g4.1];rfl) ?_;refine O.q 1 rfl<|O.op (.g rfl rfl) (.loadAt bL rfl h5 rfl) ?_;refine O.op (.g rfl rfl) (.c6 rfl underlying9 rfl)<|O.op (.g rfl rfl) (.neq rfl rfl)<|O.sT 34 rfl (by exact decide_eq_true b5) ?_;refine O.q 2 rfl<|O.nil<|S.bx rfl<|S.seq<|S.region rfl<|O.q 1 rfl<|O.nil ?_;exact S.rt results124 rfl hR ⟨congrArg Value.bool e.symm,rfl⟩
    ·have xe:=N0 (s:=s) g0 g1 g3 g4
     have hl:∀ y∈x.2.2.2.1,y.1.length≤64:=fun y hy=>(g0.1.1 y hy).1.2
     by_cases cF:x.1=3
     ·
      refine S.block<|S.seq<|S.seq<|S.region rfl<|O.q 1 rfl<|O.op (.p rfl) (.nw underlying24 rfl rfl)<|O.aN 14 rfl aK ?_;refine O.q 1 rfl<|O.nil<|S.aQ rfl<|S.region rfl<|O.q 2 rfl<|O.aB (.p rfl) rfl aa rfl rfl (oS (by first|assumption|exact aj.mono hg zE|exact aj.left zE|exact aj.left (aj.mono hg zE)) (by first|assumption|exact aj.mono hg zE|exact aj.left zE|exact aj.left (aj.mono hg zE))) ?_;rintro _ _ ⟨rfl,rfl⟩
      try simp only [an,aq,au]
      refine O.sT 17 rfl (by exact decide_eq_true g1) ?_;refine O.op (.p rfl) (.not rfl)<|O.q 1 rfl<|O.nil<|S.aQ rfl<|S.seq<|S.seq<|S.region rfl<|O.op (.p rfl) (.fieldAddr ez rfl)<|O.op (.p rfl) (.loadAt ey rfl h7 rfl) ?_;refine O.op (.p rfl) (.eql rfl rfl)<|O.sT 22 rfl (by rw [cF];rfl) ?_;refine O.q 1 rfl<|O.op (.g rfl rfl) (.loadAt bL rfl h5 rfl) ?_;refine O.op (.g rfl rfl) (.c6 rfl underlying9 rfl)<|O.op (.g rfl rfl) (.eql rfl rfl)<|O.aN 26 rfl (by exact decide_eq_false (fun q=>g3 ⟨cF,by omega⟩)) ?_;refine O.q 2 rfl<|O.nil<|S.aQ rfl<|S.region rfl<|O.op (.p rfl) (.fieldAddr ez rfl)<|O.op (.p rfl) (.loadAt ey rfl h7 rfl) ?_;refine O.op (.p rfl) (.eql rfl rfl)<|O.aN 30 rfl (by rw [cF];rfl) ?_;refine O.q 6 rfl<|O.nil<|S.aQ rfl<|S.skip<|S.inBlock<|S.seq<|S.region rfl<|O.op (.p rfl) (.fieldAddr lZ rfl)<|O.op (.p rfl) (.loadAt dK rfl (h7.drop 3) rfl) ?_;refine O.op (.p rfl) (.jc rfl rfl)<|O.aB (.p rfl) rfl aa rfl rfl ((Ch bg aa (fun e=>!oI s p e.1) (fun cs e hm he=>Cz he h4 h5 hP hA hH hK (by have:=hl e hm;omega) hp) rfl)) ?_;rintro _ _ ⟨rfl,rfl⟩
      try simp only [an,aq,au]
      rw [xe];refine O.op (.p rfl) ((by first|exact .lH rfl|exact .not rfl)) ?_;refine O.q 1 rfl<|O.nil ?_;exact S.rt results124 rfl hR ⟨by rw [Bool.not_not],rfl⟩
     ·by_cases nP:x.1=4
      ·
       refine S.block<|S.seq<|S.seq<|S.region rfl<|O.q 1 rfl<|O.op (.p rfl) (.nw underlying24 rfl rfl)<|O.aN 14 rfl aK ?_;refine O.q 1 rfl<|O.nil<|S.aQ rfl<|S.region rfl<|O.q 2 rfl<|O.aB (.p rfl) rfl aa rfl rfl (oS (by first|assumption|exact aj.mono hg zE|exact aj.left zE|exact aj.left (aj.mono hg zE)) (by first|assumption|exact aj.mono hg zE|exact aj.left zE|exact aj.left (aj.mono hg zE))) ?_;rintro _ _ ⟨rfl,rfl⟩
       try simp only [an,aq,au]
       refine O.sT 17 rfl (by exact decide_eq_true g1) ?_;refine O.op (.p rfl) (.not rfl)<|O.q 1 rfl<|O.nil<|S.aQ rfl<|S.seq<|S.seq<|S.region rfl<|O.op (.p rfl) (.fieldAddr ez rfl)<|O.op (.p rfl) (.loadAt ey rfl h7 rfl) ?_;refine O.op (.p rfl) (.eql rfl rfl)<|O.aN 22 rfl (by rw [nP];rfl) ?_;refine O.q 6 rfl<|O.nil<|S.aQ rfl<|S.region rfl<|O.op (.p rfl) (.fieldAddr ez rfl)<|O.op (.p rfl) (.loadAt ey rfl h7 rfl) ?_;refine O.op (.p rfl) (.eql rfl rfl)<|O.sT 30 rfl (by rw [nP];rfl) ?_;refine O.q 1 rfl<|O.op (.g rfl rfl) (.loadAt bL rfl h5 rfl) ?_;refine O.op (.g rfl rfl) (.c6 rfl underlying9 rfl)<|O.op (.g rfl rfl) (.neq rfl rfl)<|O.aN 34 rfl (by exact decide_eq_false (fun q=>g4 ⟨nP,by omega⟩)) ?_;refine O.q 2 rfl<|O.nil<|S.aQ rfl<|S.skip<|S.inBlock<|S.seq<|S.region rfl<|O.op (.p rfl) (.fieldAddr lZ rfl)<|O.op (.p rfl) (.loadAt dK rfl (h7.drop 3) rfl) ?_;refine O.op (.p rfl) (.jc rfl rfl)<|O.aB (.p rfl) rfl aa rfl rfl ((Ch bg aa (fun e=>!oI s p e.1) (fun cs e hm he=>Cz he h4 h5 hP hA hH hK (by have:=hl e hm;omega) hp) rfl)) ?_;rintro _ _ ⟨rfl,rfl⟩
       try simp only [an,aq,au]
       rw [xe];refine O.op (.p rfl) ((by first|exact .lH rfl|exact .not rfl)) ?_;refine O.q 1 rfl<|O.nil ?_;exact S.rt results124 rfl hR ⟨by rw [Bool.not_not],rfl⟩
      ·
       refine S.block<|S.seq<|S.seq<|S.region rfl<|O.q 1 rfl<|O.op (.p rfl) (.nw underlying24 rfl rfl)<|O.aN 14 rfl aK ?_;refine O.q 1 rfl<|O.nil<|S.aQ rfl<|S.region rfl<|O.q 2 rfl<|O.aB (.p rfl) rfl aa rfl rfl (oS (by first|assumption|exact aj.mono hg zE|exact aj.left zE|exact aj.left (aj.mono hg zE)) (by first|assumption|exact aj.mono hg zE|exact aj.left zE|exact aj.left (aj.mono hg zE))) ?_;rintro _ _ ⟨rfl,rfl⟩
       try simp only [an,aq,au]
       refine O.sT 17 rfl (by exact decide_eq_true g1) ?_;refine O.op (.p rfl) (.not rfl)<|O.q 1 rfl<|O.nil<|S.aQ rfl<|S.seq<|S.seq<|S.region rfl<|O.op (.p rfl) (.fieldAddr ez rfl)<|O.op (.p rfl) (.loadAt ey rfl h7 rfl) ?_;refine O.op (.p rfl) (.eql rfl rfl)<|O.aN 22 rfl (by exact decide_eq_false (fun q=>cF (oU.1 q))) ?_;refine O.q 6 rfl<|O.nil<|S.aQ rfl<|S.region rfl<|O.op (.p rfl) (.fieldAddr ez rfl)<|O.op (.p rfl) (.loadAt ey rfl h7 rfl) ?_;refine O.op (.p rfl) (.eql rfl rfl)<|O.aN 30 rfl (by exact decide_eq_false (fun q=>nP (oU.1 q))) ?_;refine O.q 6 rfl<|O.nil<|S.aQ rfl<|S.skip<|S.inBlock<|S.seq<|S.region rfl<|O.op (.p rfl) (.fieldAddr lZ rfl)<|O.op (.p rfl) (.loadAt dK rfl (h7.drop 3) rfl) ?_;refine O.op (.p rfl) (.jc rfl rfl)<|O.aB (.p rfl) rfl aa rfl rfl ((Ch bg aa (fun e=>!oI s p e.1) (fun cs e hm he=>Cz he h4 h5 hP hA hH hK (by have:=hl e hm;omega) hp) rfl)) ?_;rintro _ _ ⟨rfl,rfl⟩
       try simp only [an,aq,au]
       rw [xe];refine O.op (.p rfl) ((by first|exact .lH rfl|exact .not rfl)) ?_;refine O.q 1 rfl<|O.nil ?_;exact S.rt results124 rfl hR ⟨by rw [Bool.not_not],rfl⟩
 ·have e:decide (p5 s p xs x)=false:=decide_eq_false fun q=>g1 q.2.1
  cases k9 with
  |none =>
   refine S.block<|S.seq<|S.seq<|S.region rfl<|O.q 1 rfl<|O.op (.p rfl) (.nw underlying24 rfl rfl)<|O.sT 14 rfl aK ?_;refine O.q 1 rfl<|O.nil<|S.bx rfl<|S.skip<|S.bx rfl<|S.seq<|S.region rfl<|O.q 1 rfl<|O.nil ?_;exact S.rt results124 rfl hR ⟨congrArg Value.bool e.symm,rfl⟩
  |some k9 =>
   refine S.block<|S.seq<|S.seq<|S.region rfl<|O.q 1 rfl<|O.op (.p rfl) (.nw underlying24 rfl rfl)<|O.aN 14 rfl aK ?_;refine O.q 1 rfl<|O.nil<|S.aQ rfl<|S.region rfl<|O.q 2 rfl<|O.aB (.p rfl) rfl aa rfl rfl (oS (by first|assumption|exact aj.mono hg zE|exact aj.left zE|exact aj.left (aj.mono hg zE)) (by first|assumption|exact aj.mono hg zE|exact aj.left zE|exact aj.left (aj.mono hg zE))) ?_;rintro _ _ ⟨rfl,rfl⟩
   try simp only [an,aq,au]
   refine O.aN 17 rfl (by exact decide_eq_false g1) ?_;refine O.op (.p rfl) (.not rfl)<|O.q 1 rfl<|O.nil<|S.bx rfl<|S.seq<|S.region rfl<|O.q 1 rfl<|O.nil ?_;exact S.rt results124 rfl hR ⟨congrArg Value.bool e.symm,rfl⟩
theorem oZ {r:Fr} {va:Value} {xs:List dn} (ha:aj c5 r va xs) (hl:xs.length≤100000000000) :
  ay prog 125 #[va] r [] (aL fun v U=>∃ a c,v=.slice a xs.length c∧U=[av c5 191 v xs]):=by
 refine ay.of (n:=8) _ rfl func125 rfl rfl rfl fun g hg R hR=>?_;have ha:=ha.mono hg;obtain ⟨a1,c1,rfl⟩:=ha.shape
 cases a1 with
 |none =>
  refine S.seq<|S.region rfl<|O.q 1 rfl<|O.nil<|S.seq<|S.seq<|S.region rfl<|O.q 1 rfl<|O.op (.p rfl) (.nw underlying100 rfl rfl)<|O.nil<|S.bx rfl<|S.seq<|S.region rfl<|O.q 1 rfl<|O.nil ?_;obtain ⟨rfl,_,rfl⟩:=aj.x_ aC ha;refine S.gh (T:=c5) (e:=191) ?_;refine S.ret results125 rfl fun w hw=>hR _ _ w ?_ hw;exact ⟨none,0,rfl,rfl⟩
 |some a1 =>
  refine S.seq<|S.region rfl<|O.q 1 rfl<|O.nil<|S.seq<|S.seq<|S.region rfl<|O.q 1 rfl<|O.op (.p rfl) (.nw underlying100 rfl rfl)<|O.nil<|S.aQ rfl<|S.skip<|S.seq<|S.region rfl<|O.aM (.p rfl) (.ct (T:=c5) (ys:=[]) underlying100 rJ aC rfl rfl trivial aC) ?_;rintro _ _ ⟨a5,dP,rfl,rfl⟩;refine O.q 1 rfl<|O.aM (.p rfl) (.nW (T:=c5) Uj underlying100 rJ aC rfl rfl ai (by first|assumption|exact aj.mono hg zE|exact aj.left zE|exact aj.left (aj.mono hg zE)) bJ bJ) ?_;rintro _ _ ⟨a7,iB,rfl,rfl⟩;refine O.q 1 rfl<|O.nil<|S.ret results125 rfl fun w hw=>hR _ _ w ?_ hw;exact ⟨a7,iB,by simp,by simp⟩
theorem vU {d g k:Fr} {bh bH s:Nat} {L:List aG} {cs:List Value} {m:Fr} (hd:d.sub g) (hm:g.cR m) (h:Sat [jK k,obj bh 89 cs,bl aJ d bH s L] m):k.sub (g.add m)∧At (g.add m) ⟨bh,0,none⟩ cs∧kC (g.add m) bH s L:=by
 obtain ⟨m1,m2,_,s1,s2,o1,m3,m4,_,s3,pO,o2,h3⟩:=h;have e:m1=k:=o1;refine ⟨e ▸ Fr.aH s1 (Fr.dL hm),((gf o2).mono (Fr.aH s3 s2)).mono (Fr.dL hm),?_⟩;obtain ⟨m5,_,_,yw,_,k7,_⟩:=h3;exact bl.a (Fr.aH hd (Fr.de _ _)) (Fr.aH (Fr.aH yw (Fr.aH pO s2)) (Fr.dL hm)) k7
theorem VP {r d:Fr} {bh s n:Nat} {L:List aG} {peer:Int} {cm:Bool} {W:List (List UInt8)} {F:List UInt8→List UInt8} {p:List UInt8} {cs:List Value} {x:dJ} (hT:gK r d s L) (hpos:0<peer) (h:gv.rel r cs x) (hp:p∈W) (hF:(F p).length=64) (hx0:x.2.1.length≤1000000000000∧x.2.2.1.length≤1000000000000) (hx2:x.2.2.2.1.length≤10000000∧∀ y∈x.2.2.2.1,y.2.1.length≤10000000) (mO:p.length≤1000000000) (hno:¬ p5 s p (F p) x) :
  ay prog 54 #[.pointer (some ⟨bh,0,none⟩),.string (str p),.agg cs.toArray] r [cN aJ 89 d bh s L peer cm W F n] (aL fun v U=>v=.tuple #[.slice none 0 0,.slice none 0 0,.int .i64 23]∧U=[cN aJ 89 d bh s L peer cm W F n]):=by
 have h0:=h;obtain ⟨sH,uA,gI,sJ,uB,gJ,rfl,k1,k2,bg⟩:=gv.sh h;refine ay.of (n:=104) _ rfl func54 rfl rfl rfl fun g hg R hR=>?_;have hT:=hT.mono hg;have h0:=h0.mono hg;refine S.open (bs:=fun z:lQ W F=>jV aJ 89 d z.k bh z.bH z.mp s L peer cm n z.M z.c) .here (fun m h=>cN.jq h) fun z=>?_;simp only [jV,List.cons_append,List.nil_append];obtain ⟨pv,e⟩:=z.has.1 hp;have hv:=z.ok p pv e;obtain ⟨pa,pc,rfl⟩:=hv.shape;rw [hF] at e hv;refine S.seq<|S.region rfl<|O.aM (.p rfl) (.box (cs:=[_,_,_,_]) rfl rfl) ?_;rintro _ _ ⟨gU,rfl,rfl⟩;refine O.q 3 rfl<|O.nil<|S.seq<|S.seq<|S.c7 (b:=gU) (cs' :=[bD x.1,.slice sH x.2.1.length sJ,.slice uA x.2.2.1.length uB,.slice gI x.2.2.2.1.length gJ]) ai rfl ?_;refine S.cW ai fun g hs hm h5=>?_;replace hg:=Fr.aH hg hs;replace hR:=bp hR hm
 try replace hT:=hT.mono hs
 try replace h0:=h0.mono hs
 clear hs hm;refine S.region rfl<|O.q 1 rfl<|O.bM (.p rfl) rfl aa rfl rfl ai (uj hpos) ?_;rintro _ _ ⟨rfl,rfl⟩
 try simp only [an,aq,au]
 refine O.sT 16 rfl aK ?_;refine O.op (.p rfl) (.not rfl)<|O.nil<|S.aQ rfl<|S.skip<|S.seq<|S.region rfl<|O.q 1 rfl<|O.op (.p rfl) (.nilCheck rfl)<|O.op (.p rfl) (.aD rO rfl)<|O.op (.p rfl) (.aD w6 rfl)<|O.op (.p rfl) (.lo lW) ?_;refine O.q 1 rfl<|O.op (.p rfl) (.ow underlying75 (qa underlying9) zeroValue24 rfl rfl ai) ?_;refine O.slot 25 (v' :=.tuple #[.slice pa 64 pc,.bool true]) rfl (by rw [e];rfl) ?_;refine O.q 3 rfl<|O.sT 27 rfl aK ?_;refine O.q 2 rfl<|O.nil<|S.seq<|S.block<|S.seq<|S.region rfl<|O.q 1 rfl<|O.op (.p rfl) (.not rfl)<|O.q 1 rfl<|O.nil<|S.aQ rfl<|S.seq<|S.region rfl<|O.q 3 rfl<|O.op (.p rfl) (.bz isAgg27 aa rfl h5) ?_;refine O.dw (.p rfl) rfl aa rfl rfl (bs:=[jK z.k,obj bh 89 [.pointer (some ⟨z.bH,0,none⟩),.map (some z.mp),.int .i64 (n:Int),.int .i64 peer,.bool cm],bl aJ d z.bH s L]) bf (fun m hm hd=>KK (vU hT.hd hd hm).2.1 (vU hT.hd hd hm).2.2 (hv.mono (vU hT.hd hd hm).1) (ag.rel.mono h0 (Fr.de _ _)) hx0 hx2 hF (hT.hH.mono (Fr.de _ _)) (hT.hK.mono (Fr.de _ _)) mO) ?_;rintro _ _ ⟨rfl,rfl⟩
 try simp only [an,aq,au]
 refine O.aN 36 rfl (by exact decide_eq_false hno) ?_;refine O.op (.p rfl) (.not rfl)<|O.q 1 rfl<|O.nil<|S.bx rfl<|S.seq<|S.region rfl<|O.q 3 rfl<|O.nil<|S.cB (A:=cN aJ 89 d bh s L peer cm W F n) (bs:=jV aJ 89 d z.k bh z.bH z.mp s L peer cm n z.M z.c) bf (fun m h=>cN.fold z h) ?_;refine S.Ky results54 rfl rfl rfl fun w hw=>Holds.end_ hR hw ?_;exact pk ⟨rfl,rfl⟩
end Go.Proofs.YtojafegjlahajaaGreatDoor
