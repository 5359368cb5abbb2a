/- Texts of this proof. -/
import Derived.Test.YtojafegjlahajaaGreatDoorQSpBuilder
import Derived.Test.YtojafegjlahajaaGreatDoorQSes4
open Go Go.Sp Go.Proofs.Tryz
set_option maxRecDepth 100000
set_option maxHeartbeats 1000000
attribute [local irreducible] obj Own av
namespace Go.Proofs.YtojafegjlahajaaGreatDoor
def Fg:List Value:=List.replicate 64 (bH 0)
theorem KK {g m:Fr} {e1 e2 b6:TypeId} {v1 v2 v3:Value} {xs ys:List UInt8} (hm:Sat [av ag.u8 e1 v1 xs,av ag.u8 e2 v2 ys,av (ag.cells 1) b6 v3 [[v1],[v2]]] m) (hd:g.cI m):aj (ag.slice ag.u8) (g.add m) v3 [xs,ys]:=by
 obtain ⟨m1,m2,_,s1,s2,o1,m3,m4,_,s3,oh,o2,m5,_,_,xY,_,kP,_⟩:=hm;have t3:=Fr.aI s3 s2;have t5:=Fr.aI xY (Fr.aI oh s2);exact (aj.j4 (T:=ag.slice ag.u8) (xs:=[xs,ys]) (kP.arr.mono t5) ⟨⟨_,rfl,o1.arr.mono s1⟩,⟨_,rfl,o2.arr.mono t3⟩,trivial⟩ rfl).mono (Fr.dA hd)
theorem Km {r:Fr} {s:List UInt8} (hH:At r ⟨0,0,none⟩ (bQ ed)) (hK:At r ⟨1,0,none⟩ (bQ fZ)) (hs:s.length≤10000000000) :
  ay prog 101 #[.string (str s)] r [] (aM fun v U=>∃ b,v=.pointer (some ⟨b,0,none⟩)∧U=[obj b 151 ((k4 s).map bH)]):=by
 have ig:=DS s;have HD:gY [[6],s].flatten=k4 s:=by unfold k4;simp
 refine ay.of (n:=12) _ rfl func101 rfl rfl rfl fun g hg R hR=>?_;have hH:=hH.mono hg;have hK:=hK.mono hg;refine S.seq<|S.region rfl<|O.q 1 rfl<|O.nil<|S.seq<|S.region rfl<|O.aO (.p rfl) (.alloc (cs:=[.int .u8 0,.int .u8 0,.int .u8 0,.int .u8 0,.int .u8 0,.int .u8 0,.int .u8 0,.int .u8 0,.int .u8 0,.int .u8 0,.int .u8 0,.int .u8 0,.int .u8 0,.int .u8 0,.int .u8 0,.int .u8 0,.int .u8 0,.int .u8 0,.int .u8 0,.int .u8 0,.int .u8 0,.int .u8 0,.int .u8 0,.int .u8 0,.int .u8 0,.int .u8 0,.int .u8 0,.int .u8 0,.int .u8 0,.int .u8 0,.int .u8 0,.int .u8 0,.int .u8 0,.int .u8 0,.int .u8 0,.int .u8 0,.int .u8 0,.int .u8 0,.int .u8 0,.int .u8 0,.int .u8 0,.int .u8 0,.int .u8 0,.int .u8 0,.int .u8 0,.int .u8 0,.int .u8 0,.int .u8 0,.int .u8 0,.int .u8 0,.int .u8 0,.int .u8 0,.int .u8 0,.int .u8 0,.int .u8 0,.int .u8 0,.int .u8 0,.int .u8 0,.int .u8 0,.int .u8 0,.int .u8 0,.int .u8 0,.int .u8 0,.int .u8 0]) zeroValue151 rfl) ?_;rintro _ _ ⟨b3,rfl,rfl⟩;refine O.nil<|S.seq<|S.c7 (b:=b3) (cs' :=Fg) ai aG ?_;refine S.bB (L:=[0,1,3,2,4,5,6,7]) bx aa ?_;refine .quiet (.p rfl) rfl (fun _=>.aF Cb rfl)<|.quiet (.p rfl) rfl (fun _=>.Uz underlying149 fL rfl zE)<|af.q 1 rfl<|af.eW 2 4 [4,5,6,7] [2,5,6,7] aa rfl rfl ?_ ?_
 ·refine bO.cn (.p rfl) aa (T:=ag.u8) (ys:=[6]) underlying24 eM zE rfl rfl ⟨rfl,trivial⟩ zE (fun a6 dD=>?_)
  refine af.pg (xs:=s) (.p rfl) aa underlying9 underlying24 underlying5 rfl ah (fun a8 nN=>?_);refine af.cn (.p rfl) aa (T:=ag.cells 1) (ys:=[[.slice a6 1 dD],[.slice a8 s.length nN]]) underlying109 gr zE rfl rfl ⟨⟨rfl,rfl,by first|(simp;done)|(intro v hv;simp [Value.cells] at hv;rcases hv with rfl|rfl<;>rfl)|(refine List.forall_mem_cons.2 ⟨rfl,?_⟩;repeat (first|exact (fun _ h=>absurd h List.not_mem_nil)|refine List.forall_mem_cons.2 ⟨rfl,?_⟩))⟩,⟨rfl,rfl,by first|(simp;done)|(intro v hv;simp [Value.cells] at hv;rcases hv with rfl|rfl<;>rfl)|(refine List.forall_mem_cons.2 ⟨rfl,?_⟩;repeat (first|exact (fun _ h=>absurd h List.not_mem_nil)|refine List.forall_mem_cons.2 ⟨rfl,?_⟩))⟩,trivial⟩ zE (fun a9 qc=>?_);refine af.cU (.p rfl) aa rfl aa rfl rfl (bs:=[av ag.u8 5 (.slice a6 1 dD) [6],av ag.u8 5 (.slice a8 s.length nN) s,av (ag.cells 1) 24 (.slice a9 2 qc) [[.slice a6 1 dD],[.slice a8 s.length nN]]]) aV (fun m hm hd=>r_ (ps:=[[6],s]) (KK hm hd) (hH.mono (Fr.cw _ _)) (hK.mono (Fr.cw _ _)) bX) ?_;rintro _ _ ⟨ov,oz,rfl,rfl⟩
  try simp only [an,aq,au]
  rw [HD];refine af.yC (m:=64) (xs:=k4 s) (.p rfl) aa underlying24 fL rfl rfl ai ai ah zE zE zE ?_;refine aK.nil<|S.seq<|S.region rfl<|O.q 1 rfl<|O.nil<|S.c7 (b:=b3) (cs' :=(k4 s).map bH) ai (by simp [Fg]) ?_;exact S.rt results101 rfl hR ⟨b3,rfl,rfl⟩
 ·refine bO.pg (xs:=s) (.p rfl) aa underlying9 underlying24 underlying5 rfl ah (fun a8 nN=>?_)
  refine af.cn (.p rfl) aa (T:=ag.u8) (ys:=[6]) underlying24 eM zE rfl rfl ⟨rfl,trivial⟩ zE (fun a6 dD=>?_);refine af.cn (.p rfl) aa (T:=ag.cells 1) (ys:=[[.slice a6 1 dD],[.slice a8 s.length nN]]) underlying109 gr zE rfl rfl ⟨⟨rfl,rfl,by first|(simp;done)|(intro v hv;simp [Value.cells] at hv;rcases hv with rfl|rfl<;>rfl)|(refine List.forall_mem_cons.2 ⟨rfl,?_⟩;repeat (first|exact (fun _ h=>absurd h List.not_mem_nil)|refine List.forall_mem_cons.2 ⟨rfl,?_⟩))⟩,⟨rfl,rfl,by first|(simp;done)|(intro v hv;simp [Value.cells] at hv;rcases hv with rfl|rfl<;>rfl)|(refine List.forall_mem_cons.2 ⟨rfl,?_⟩;repeat (first|exact (fun _ h=>absurd h List.not_mem_nil)|refine List.forall_mem_cons.2 ⟨rfl,?_⟩))⟩,trivial⟩ zE (fun a9 qc=>?_);refine af.cU (.p rfl) aa rfl aa rfl rfl (bs:=[av ag.u8 5 (.slice a6 1 dD) [6],av ag.u8 5 (.slice a8 s.length nN) s,av (ag.cells 1) 24 (.slice a9 2 qc) [[.slice a6 1 dD],[.slice a8 s.length nN]]]) aV (fun m hm hd=>r_ (ps:=[[6],s]) (KK hm hd) (hH.mono (Fr.cw _ _)) (hK.mono (Fr.cw _ _)) bX) ?_;rintro _ _ ⟨ov,oz,rfl,rfl⟩
  try simp only [an,aq,au]
  rw [HD];refine af.yC (m:=64) (xs:=k4 s) (.p rfl) aa underlying24 fL rfl rfl ai ai ah zE zE zE ?_;refine aK.nil<|S.seq<|S.region rfl<|O.q 1 rfl<|O.nil<|S.c7 (b:=b3) (cs' :=(k4 s).map bH) ai (by simp [Fg]) ?_;exact S.rt results101 rfl hR ⟨b3,rfl,rfl⟩
theorem F1 {d:List UInt8} {i:Nat} (h:i<d.length):(d.map bH)[i]?=some (bH (d.getD i 0)):=by
 rw [List.getElem?_map,List.getElem?_eq_getElem h,List.getD_eq_getElem?_getD,List.getElem?_eq_getElem h];rfl
theorem Uw (x:UInt8):IntKind.i64.wrap ((x.toNat:Int).fdiv (2 ^ min (6:Int).toNat IntKind.u8.bits))=((x.toNat / 64:Nat):Int):=by
 have hx:=x.toNat_lt;have e1:(2:Int) ^ min (6:Int).toNat IntKind.u8.bits=64:=by decide
 have e2:(x.toNat:Int).fdiv 64=((x.toNat / 64:Nat):Int):=by rw [Int.fdiv_eq_ediv_of_nonneg _ ah];rfl
 rw [e1,e2,IntWalk.i64_in _ ah]
theorem r9 {r:Fr} {s:List UInt8} (hH:At r ⟨0,0,none⟩ (bQ ed)) (hK:At r ⟨1,0,none⟩ (bQ fZ)) (hs:s.length≤10000000000) :
  ay prog 65 #[.string (str s)] r [] (aM fun v U=>v=.int .i64 (o_ s:Int)∧U=[]):=by
 have ig:=DS s;refine ay.of (n:=11) _ rfl func65 rfl rfl rfl fun g hg R hR=>?_;have hH:=hH.mono hg;have hK:=hK.mono hg;refine S.seq<|S.region rfl<|O.q 1 rfl<|O.nil<|S.seq<|S.region rfl<|O.q 1 rfl<|O.aC (.p rfl) rfl aa rfl rfl ((Km aB aB bL)) ?_;rintro _ _ ⟨b4,rfl,rfl⟩
 try simp only [an,aq,au]
 refine O.op (.p rfl) (.nilCheck rfl)<|O.op (.p rfl) (.fieldAddr Cb rfl)<|O.op (.p rfl) (.pO (j:=0) underlying149 fL rfl rfl rfl ah)<|O.op (.p rfl) (.cK kX rfl ai (F1 ah)) ?_;refine O.slot 8 (v' :=bH ((k4 s).getD 0 0)) rfl aG ?_;refine O.op (.p rfl) (.shr rfl rfl ah)<|O.op (.p rfl) (.lD underlying5 underlying3 rfl)<|O.slot 10 (v' :=.int .i64 (o_ s:Int)) rfl (by exact congrArg (Value.int .i64) (Uw _)) ?_;refine O.q 1 rfl<|O.nil ?_;exact S.rt results65 rfl hR ⟨rfl,rfl⟩
theorem Mn {r:Fr} {b:Nat} {p:Option Addr} {v:Value} (hp:p=none∨p=some (⟨b,0,none⟩:Addr)) :
  ay prog 250 #[.pointer (some ⟨b,0,none⟩)] r [obj b 142 [.pointer p,v]] (aM fun u U=>u=.tuple #[]∧U=[obj b 142 [.pointer (some ⟨b,0,none⟩),v]]):=by
 refine ay.of (n:=20) _ rfl func250 rfl rfl rfl fun g hg R hR=>?_
 rcases hp with rfl|rfl
 ·
  refine S.seq<|S.region rfl<|O.q 1 rfl<|O.op (.p rfl) (.nilCheck rfl)<|O.op (.p rfl) (.aF yW rfl)<|O.op (.p rfl) (.lo yQ) ?_;refine O.op (.p rfl) (.rq underlying140 rfl rfl)<|O.sT 6 rfl aG ?_;refine O.nil<|S.bC rfl<|S.region rfl<|O.q 2 rfl<|O.op (.p rfl) (.toUnsafe (k:=1) underlying140 underlying402 aa rfl ai bq) ?_;refine O.op (.p rfl) (.RY func316 aa rfl aa aa rfl rfl)<|O.op (.p rfl) (.Nd underlying402 underlying140 aa rfl ai aa) ?_;refine O.op (.p rfl) (.nilCheck rfl)<|O.op (.p rfl) (.aF yW rfl)<|O.bw rfl (.bk yQ rfl rfl bn ai aT) ?_;refine O.nil<|S.ej results250 fun w hw=>Holds.end_ hR hw ?_;exact pk ⟨rfl,rfl⟩
 ·
  refine S.seq<|S.region rfl<|O.q 1 rfl<|O.op (.p rfl) (.nilCheck rfl)<|O.op (.p rfl) (.aF yW rfl)<|O.op (.p rfl) (.lo yQ) ?_;refine O.op (.p rfl) (.rq underlying140 rfl rfl)<|O.aL 6 rfl aG ?_;refine O.nil<|S.aP rfl<|S.seq<|S.region rfl<|O.q 1 rfl<|O.op (.p rfl) (.nilCheck rfl)<|O.op (.p rfl) (.aF yW rfl)<|O.op (.p rfl) (.lo yQ) ?_;refine O.q 1 rfl<|O.op (.p rfl) (.RU underlying140 aa aa rfl rfl)<|O.aL 19 rfl aG ?_;refine O.nil<|S.aP rfl<|S.skip<|S.ej results250 fun w hw=>Holds.end_ hR hw ?_;exact pk ⟨rfl,rfl⟩
theorem VR {r:Fr} {b:Nat} {xs:List UInt8} {c:UInt8} (hl:xs.length≤1000000000) :
  ay prog 166 #[.pointer (some ⟨b,0,none⟩),bH c] r [js 142 5 b xs] (aM fun u U=>u=.nilIface∧U=[js 142 5 b (xs++[c])]):=by
 refine ay.of (n:=17) _ rfl func166 rfl rfl rfl fun g hg R hR=>?_;refine S.open (bs:=fun x:A0 b=>[obj b 142 [.pointer x.p,x.v],av ag.u8 5 x.v xs]) .here (fun m h=>js.gy h) fun x=>?_;simp only [List.cons_append,List.nil_append];have Pz:=x.hp;refine S.seq<|S.region rfl<|O.q 1 rfl<|O.nil<|S.seq<|S.region rfl<|O.q 1 rfl<|O.bD (.p rfl) rfl aa rfl rfl ai (Mn Pz) ?_;rintro _ _ ⟨rfl,rfl⟩
 try simp only [an,aq,au]
 refine O.nil<|S.seq<|S.region rfl<|O.q 2 rfl<|O.op (.p rfl) (.nilCheck rfl)<|O.op (.p rfl) (.aF yX rfl)<|O.op (.p rfl) (.lo bg) ?_;refine O.q 1 rfl<|O.aO (.p rfl) (.cn (T:=ag.u8) (ys:=[c]) underlying24 eM zE rfl rfl ⟨rfl,trivial⟩ zE) ?_;rintro _ _ ⟨iz,iD,rfl,rfl⟩;refine O.aO (.p rfl) (.gJ (T:=ag.u8) underlying24 eM zE rfl rfl ai ai bX bX) ?_;rintro _ _ ⟨nI,nM,rfl,rfl⟩;refine O.op (.p rfl) (.nilCheck rfl)<|O.op (.p rfl) (.aF yX rfl)<|O.bw rfl (.bk bg rfl rfl bn ai aT) ?_;refine O.nil<|S.seq<|S.region rfl<|O.q 1 rfl<|O.nil ?_;rw [show xs.length+[c].length=(xs++[c]).length from by simp];refine S.cg (A:=js 142 5 b (xs++[c])) (bs:=[obj b 142 [.pointer (some ⟨b,0,none⟩),.slice nI (xs++[c]).length nM],av ag.u8 5 (.slice nI (xs++[c]).length nM) (xs++[c])]) aV (fun m h=>js.fold (.inr rfl) h) ?_;exact S.rt results166 rfl hR ⟨rfl,rfl⟩
theorem Lc (c x:UInt8):Value.int .u8 (IntKind.u8.wrap ((c.toNat:Int)+(x.toNat:Int)))=bH (c+x):=by
 rw [KU]
 congr 1
 apply UInt8.toNat_inj.1
 rw [UInt8.toNat_add];simp only [Sp.byteOf];have:=(((c.toNat:Int)+(x.toNat:Int)) % 256).toNat
 simp
 omega
theorem Ux {r:Fr} {b:Nat} {va:Value} {xs ys:List UInt8} (ha:aj ag.u8 r va xs) (hl:xs.length+ys.length≤1000000000) :
  ay prog 103 #[.pointer (some ⟨b,0,none⟩),va] r [js 142 5 b ys] (aM fun u U=>u=.tuple #[]∧U=[js 142 5 b (ys++xs.map (48+·))]):=by
 obtain ⟨a1,c1,rfl⟩:=ha.shape;refine ay.of (n:=17) _ rfl func103 rfl rfl rfl fun g hg R hR=>?_;have ha:=ha.mono hg;refine S.seq<|S.region rfl<|O.q 1 rfl<|O.op (.p rfl) (.len rfl underlying24 rfl)<|O.q 1 rfl<|O.nil<|S.block<|S.imp (ax :=[js 142 5 b (ys++(xs.take 0).map (48+·))]) (fun m h=>by simpa using h) ?_;refine S.fT (ι:=Nat) (fun i=>i≤xs.length) (fun i=>[(8,.int .i64 (i:Int))]) [(0,_),(6,_),(7,_)] (fun i=>[js 142 5 b (ys++(xs.take i).map (48+·))]) (fun i=>xs.length - i) (0) bq (.cons rfl (.nil)) (.cons rfl (.cons rfl (.cons rfl (.nil)))) rfl fun i hx ih=>?_;have bl:=cW (g:=g);refine S.seq<|S.region rfl<|O.op (.p rfl) (.lss rfl rfl)<|O.nil (S.seq ?_)
 first|refine S.ct rfl (fun h9=>?_) (fun h9=>?_)|refine S.cm rfl (fun h9=>?_) (fun h9=>?_)
 ·have hi:i<xs.length:=by omega
  have e:ys++(xs.take i).map (48+·)++[48+xs[i]]=ys++(xs.take (i+1)).map (48+·):=by rw [List.append_assoc,List.take_succ_eq_append_getElem hi,List.map_append];rfl
  have jl:(xs.take i).length≤xs.length:=by simp;omega
  refine S.skip<|S.seq<|S.block<|S.seq<|S.region rfl<|O.b_ (.p rfl) underlying24 fL rfl rfl (show _=(((i):Nat):Int) by omega) (by first|assumption|exact aj.mono hg aB|exact aj.left aB|exact aj.left (aj.mono hg aB)) (h:=fun z7 yD lM lQ=>?_)
  cases lQ
  refine O.op (.p rfl) (.loadAt kX rfl lM rfl) ?_;refine O.q 1 rfl<|O.nil<|S.region rfl<|O.q 2 rfl<|O.op (.p rfl) (.mU rfl rfl)<|O.slot 14 (v' :=bH (48+xs[i])) rfl (by exact Lc 48 xs[i]) ?_;refine O.bD (.p rfl) rfl aa rfl rfl ai (VR bX) ?_;rintro _ _ ⟨rfl,rfl⟩
  try simp only [an,aq,au]
  refine O.nil<|S.inBlock<|S.region rfl<|O.op (.p rfl) (.add rfl rfl (IntWalk.i64_in _ ah))<|O.q 1 rfl<|O.nil ?_;rw [e];exact S.dH (ih (i+1) ah ah)
 ·clear ih
  have hi:i=xs.length:=by omega
  subst hi;rw [List.take_length];refine S.exit rfl<|S.ej results103 fun w hw=>Holds.end_ hR hw ?_;exact pk ⟨rfl,rfl⟩
def ox (d:List UInt8) (k:Nat):List UInt8:=(List.range k).map fun i=>sD d (i+2)
theorem LI (d:List UInt8) (k:Nat):ox d (k+1)=ox d k++[sD d (k+2)]:=by unfold ox;rw [List.range_succ,List.map_append];rfl
theorem LJ (s:List UInt8):(ox (k4 s) 510).map (48+·)=bT s:=(VO s).symm
theorem LD:∀ (k:Fin 8) (n:Fin 256),bitsOf BinOp.and IntKind.u8 (((n.val:Nat):Int).fdiv (2 ^ min (((k.val:Nat):Int)).toNat IntKind.u8.bits)) 1=((n.val >>>k.val &&& 1:Nat):Int):=by decide
theorem LC (d:List UInt8) (i:Nat):Value.int .u8 (bitsOf BinOp.and IntKind.u8 (((d.getD (i / 8) 0).toNat:Int).fdiv (2 ^ min (((7 - i % 8:Nat):Int)).toNat IntKind.u8.bits)) 1)=bH (sD d i):=by
 have hk:7 - i % 8<8:=by omega
 have h:=LD ⟨7 - i % 8,hk⟩ ⟨_,(d.getD (i / 8) 0).toNat_lt⟩;simp only at h;rw [h];unfold sD bH;rw [UInt8.toNat_and,UInt8.toNat_shiftRight,UInt8.toNat_ofNat'];rw [Nat.mod_eq_of_lt (show 7 - i % 8<2 ^ 8 by omega),Nat.mod_eq_of_lt hk]
 rfl
theorem LH {r:Fr} {l b q_ aS:Nat} {d:List UInt8} {J:List UInt8→az} (hf:At r ⟨q_,0,none⟩ [.int .i64 2]) (hp:At r ⟨aS,0,none⟩ [.pointer (some ⟨b,0,none⟩)]) (hd:At r ⟨b,0,none⟩ (d.map bH)) (ig:d.length=64)
  (hy:∀ done y,(∃ k,k<510∧done++[y]=ox d (k+1))→gC prog l #[bH y] r [J done] (aM fun u U=>u=.bool true∧U=[J (done++[y])])) :
  ay prog 165 #[pE l,.pointer (some ⟨q_,0,none⟩),.pointer (some ⟨aS,0,none⟩)] r [J []] (aM fun _ U=>U=[J (ox d 510)]):=by
 refine ay.of (n:=24) _ rfl func165 rfl rfl rfl fun g hg R hR=>?_;replace hf:At g.h ⟨q_,0,none⟩ [.int .i64 2]:=At.mono hg hf;replace hp:At g.h ⟨aS,0,none⟩ [.pointer (some ⟨b,0,none⟩)]:=At.mono hg hp;replace hd:At g.h ⟨b,0,none⟩ (d.map bH):=At.mono hg hd;refine S.seq<|S.region rfl<|O.op (.p rfl) (.loadAt cv rfl hf rfl) ?_;refine O.q 1 rfl<|O.nil<|S.block<|S.fT (ι:=Nat) (fun i=>i≤510) (fun i=>[(4,.int .i64 ((i+2:Nat):Int))]) [(0,_),(2,_)] (fun i=>[J (ox d i)]) (fun i=>510 - i) (0) bq (.cons rfl (.nil)) (.cons rfl (.cons rfl (.nil))) rfl fun i hx ih=>?_;have bl:=cW (g:=g);refine S.seq<|S.seq<|S.region rfl<|O.q 1 rfl<|O.op (.p rfl) (.lss rfl rfl)<|O.nil ?_
 first|refine S.ct rfl (fun h7=>?_) (fun h7=>?_)|refine S.cm rfl (fun h7=>?_) (fun h7=>?_)
 ·have hi:i<510:=by omega
  have eO:=LI d i;have hdl:(d.map bH).length=64:=by rw [List.length_map,ig]
  refine S.skip<|S.seq<|S.block<|S.seq<|S.region rfl<|O.q 1 rfl<|O.op (.p rfl) (.loadAt M6 rfl hp rfl) ?_;refine O.q 1 rfl<|O.op (.p rfl) (.quo rfl rfl ah)<|O.slot 13 (v' :=.int .i64 (((i+2) / 8:Nat):Int)) rfl (by exact congrArg (Value.int .i64) (by rw [Int.tdiv_eq_ediv_of_nonneg ah,IntWalk.i64_in _ ah];rfl)) ?_;refine O.op (.p rfl) (.nilCheck rfl)<|O.op (.p rfl) (.kz (j:=(i+2) / 8) underlying149 fL rfl rfl rfl ah)<|O.op (.p rfl) (.load kX rfl (hd.at (F1 ah))) ?_;refine O.slot 16 (v' :=bH (d.getD ((i+2) / 8) 0)) rfl aG ?_;refine O.q 1 rfl<|O.op (.p rfl) (.rem rfl rfl ah)<|O.slot 18 (v' :=.int .i64 (((i+2) % 8:Nat):Int)) rfl (by exact congrArg (Value.int .i64) (by rw [Int.tmod_eq_emod_of_nonneg ah];omega)) ?_;refine O.op (.p rfl) (.sub rfl rfl (IntWalk.i64_in _ ah))<|O.slot 19 (v' :=.int .i64 ((7 - (i+2) % 8:Nat):Int)) rfl (by exact congrArg (Value.int .i64) ah) ?_;refine O.op (.p rfl) (.shr rfl rfl ah)<|O.op (.p rfl) (.and rfl rfl)<|O.slot 21 (v' :=bH (sD d (i+2))) rfl (by exact LC d (i+2)) ?_;refine O.VZ (.p rfl) rfl rfl rfl aV ((hy (ox d i) (sD d (i+2)) ⟨i,hi,eO.symm⟩).sub hg) ?_;rintro _ _ ⟨rfl,rfl⟩;refine O.op (.p rfl) (.not rfl)<|O.nil<|S.aP rfl<|S.skip<|S.inBlock<|S.region rfl<|O.q 1 rfl<|O.op (.p rfl) (.add rfl rfl (IntWalk.i64_in _ ah))<|O.q 1 rfl<|O.nil ?_;simp only [List.cons_append,List.nil_append];rw [← eO]
  exact S.pw (ih (i+1) ah ah)
 ·clear ih
  have hi:i=510:=by omega
  subst hi;refine S.exit rfl<|S.ej results165 fun w hw=>Holds.end_ hR hw ?_;exact pk rfl
theorem LK {r:Fr} {b:Nat}:ay prog 102 #[.pointer (some ⟨b,0,none⟩),.int .i64 2] r [] (aM fun v U=>∃ q_ aS,v=.func (.func 165) #[] #[.pointer (some ⟨q_,0,none⟩),.pointer (some ⟨aS,0,none⟩)]∧U=[obj q_ 3 [.int .i64 2],obj aS 234 [.pointer (some ⟨b,0,none⟩)]]):=by
 refine ay.of (n:=6) _ rfl func102 rfl rfl rfl fun g hg R hR=>?_;refine S.seq<|S.region rfl<|O.aO (.p rfl) (.box (cs:=[_]) rfl rfl) ?_;rintro _ _ ⟨b2,rfl,rfl⟩;refine O.aO (.p rfl) (.box (cs:=[_]) rfl rfl) ?_;rintro _ _ ⟨b3,rfl,rfl⟩;refine O.q 1 rfl<|O.nil<|S.seq<|S.region rfl<|O.op (.p rfl) (.iS rfl rfl)<|O.q 1 rfl<|O.nil ?_;exact S.rt results102 rfl hR ⟨_,_,rfl,rfl⟩
theorem Lv {r:Fr} {b:Nat} {xs:List UInt8} (h0:0<xs.length):ay prog 104 #[.pointer (some ⟨b,0,none⟩)] r [js 142 5 b xs] (aM fun v U=>v=.string (str xs)∧U=[]):=by
 refine ay.of (n:=14) _ rfl func104 rfl rfl rfl fun g hg R hR=>?_;refine S.open (bs:=fun x:A0 b=>[obj b 142 [.pointer x.p,x.v],av ag.u8 5 x.v xs]) .here (fun m h=>js.gy h) fun ⟨p,v,_⟩=>?_;simp only [List.cons_append,List.nil_append];refine S.lF (.there .here) (fun _ x=>x.shape) fun ⟨a,c,hv⟩=>?_;subst hv;refine S.lF (.there .here) (fun _ x=>x.vp ah) fun ⟨⟨b',hb⟩,_,hc1,sZ⟩=>?_;subst hb;refine S.eC (A:=obj b 142 [.pointer p,.slice (some ⟨b',0,none⟩) xs.length c]) ai fun g hs hm ⟨_,x',s'⟩=>?_;have ho:=(fun s x=>(fK x).mono s) s' x';clear x' s';replace hg:=Fr.aI hg hs;replace hR:=bt hR hm;clear hs hm;refine S.seq<|S.region rfl<|O.q 1 rfl<|O.nil<|S.seq<|S.bB (L:=[0,1,2,3,5,6,7,8,9,4,10,11]) bx aa<|af.q 1 rfl<|.quiet (.p rfl) rfl (fun _=>.nilCheck rfl)<|.quiet (.p rfl) rfl (fun _=>.fieldAddr yX rfl)<|.quiet (.p rfl) rfl (fun _=>.loadAt bg rfl (ho.drop 1) rfl) ?_;refine af.q 1 rfl<|.quiet (.p rfl) rfl (fun _=>.nilCheck rfl)<|.quiet (.p rfl) rfl (fun _=>.fieldAddr yX rfl)<|.quiet (.p rfl) rfl (fun _=>.loadAt bg rfl (ho.drop 1) rfl) ?_;refine .quiet (.p rfl) rfl (fun _=>.len rfl underlying24 rfl)<|.quiet (.p rfl) rfl (fun _=>.UC rfl ah)<|af.AI (xs:=xs) (.p rfl) aa underlying239 aa rfl ⟨b',_,_,rfl,rfl⟩ rfl ai rfl ah ?_;refine af.q 1 rfl<|aK.nil ?_
 exact S.rt results104 rfl hR ⟨rfl,rfl⟩
theorem om {r:Fr} {s:List UInt8} (hH:At r ⟨0,0,none⟩ (bQ ed)) (hK:At r ⟨1,0,none⟩ (bQ fZ)) (hs:s.length≤10000000000) :
  ay prog 37 #[.string (str s)] r [] (aM fun v U=>v=.string (str (bT s))∧U=[]):=by
 have ig:=DS s;refine ay.of (n:=15) _ rfl func37 rfl rfl rfl fun g hg R hR=>?_;have hH:=hH.mono hg;have hK:=hK.mono hg;refine S.seq<|S.region rfl<|O.q 1 rfl<|O.nil<|S.seq<|S.region rfl<|O.aO (.p rfl) (.alloc (cs:=[.pointer none,.slice none 0 0]) zeroValue142 rfl) ?_;rintro _ _ ⟨b3,rfl,rfl⟩;refine O.nil<|S.seq<|S.seq<|S.region rfl<|O.q 1 rfl<|O.aC (.p rfl) rfl aa rfl rfl ((Km hH hK ah)) ?_;rintro _ _ ⟨gh,rfl,rfl⟩
 try simp only [an,aq,au]
 refine O.op (.p rfl) (.nilCheck rfl)<|O.op (.p rfl) (.fieldAddr Cb rfl)<|O.aC (.p rfl) rfl aa rfl rfl ((LK)) ?_;rintro _ _ ⟨q_,aS,rfl,rfl⟩
 try simp only [an,aq,au]
 refine O.nil<|S.gd (T:=ag.u8) (e:=5) ?_;refine S.cg (A:=js 142 5 b3 []) (bs:=[obj b3 142 [.pointer none,.slice none 0 0],av ag.u8 5 (.slice none 0 0) []]) aV (fun m h=>js.fold (.inl rfl) h) ?_;refine S.eC (A:=obj gh 151 ((k4 s).map bH)) ai fun g hs hm ⟨_,x',s'⟩=>?_;have hd:=(fun s x=>(fK x).mono s) s' x';clear x' s';replace hg:=Fr.aI hg hs;replace hR:=bt hR hm
 try replace hH:=hH.mono hs
 try replace hK:=hK.mono hs
 clear hs hm;refine S.eC (A:=obj q_ 3 [.int .i64 2]) ai fun g hs hm ⟨_,x',s'⟩=>?_;have hf:=(fun s x=>(fK x).mono s) s' x';clear x' s';replace hg:=Fr.aI hg hs;replace hR:=bt hR hm
 try replace hH:=hH.mono hs
 try replace hK:=hK.mono hs
 try replace hd:=hd.mono hs
 clear hs hm;refine S.eC (A:=obj aS 234 [.pointer (some ⟨gh,0,none⟩)]) ai fun g hs hm ⟨_,x',s'⟩=>?_;have hp:=(fun s x=>(fK x).mono s) s' x';clear x' s';replace hg:=Fr.aI hg hs;replace hR:=bt hR hm
 try replace hH:=hH.mono hs
 try replace hK:=hK.mono hs
 try replace hd:=hd.mono hs
 try replace hf:=hf.mono hs
 clear hs hm;refine S.block<|S.Ti (vj:=[10]) (β:=UInt8) (AT:=Unit) (dx:=Unit) (vs:=fun y _=>[bH y]) (own:=fun _ _=>[]) (aN:=[]) (uc :=[]) (fun bc=>∃ k,k<510∧bc=ox (k4 s) (k+1)) (fun ys=>ys=ox (k4 s) 510) (fun bc _=>[js 142 5 b3 (bc.map (48+·))]) () rfl aa rfl (fun _ _=>rfl) aa (fun l J hy=>ay.mono (LH hf hp hd ig (fun bc y hok=>hy bc y () hok)) (aM.imp fun _ _ h=>⟨_,rfl,h⟩)) aV (fun l iT oF tm done y e t hpre g qu R hR=>?_) (fun iT t ys mu=>?_)
 ·simp only [under,List.cons_append,List.nil_append]
  replace hg:=Fr.aI hg qu
  try replace hH:=hH.mono qu
  try replace hK:=hK.mono qu
  try replace hd:=hd.mono qu
  try replace hf:=hf.mono qu
  try replace hp:=hp.mono qu
  try replace hd:=hd.mono qu
  try replace hf:=hf.mono qu
  try replace hp:=hp.mono qu
  obtain ⟨kk,hkk,hdn⟩:=hpre;have mv:(done++[y]).length=kk+1:=by rw [hdn];simp [ox]
  rw [List.length_append,List.length_singleton] at mv;refine S.region rfl<|O.q 1 rfl<|O.nil<|S.beginRound ai rfl<|S.block<|S.region rfl<|O.q 1 rfl<|O.aO (.p rfl) (.cn (T:=ag.u8) (ys:=[y]) underlying24 eM zE rfl rfl ⟨rfl,trivial⟩ zE) ?_;rintro _ _ ⟨a12,jy,rfl,rfl⟩;refine O.eL (.p rfl) rfl aa rfl rfl (bs:=[js 142 5 b3 (done.map (48+·)),av ag.u8 5 (.slice a12 1 jy) [y]]) aV (ay.tv (U:=[js 142 5 b3 (done.map (48+·))]) (bs:=[av ag.u8 5 (.slice a12 1 jy) [y]]) (fun m hm hd=>Ux ((Sat.arr hm).mono (Fr.dA hd)) bX)) ?_;rintro _ _ ⟨rfl,rfl⟩
  try simp only [an,aq,au]
  refine O.nil<|S.inBlock<|S.TO ai fun w hw=>hR () w ?_;rw [List.map_append];exact hw.jH jM
 ·simp only [an,aq,au]
  subst mu;rw [LJ];refine S.inBlock<|S.seq<|S.region rfl<|O.bD (.p rfl) rfl aa rfl rfl ai (Lv (by rw [lp];decide)) ?_;rintro _ _ ⟨rfl,rfl⟩
  try simp only [an,aq,au]
  refine O.q 1 rfl<|O.nil<|S.TH (.inr ⟨_,rfl⟩) (.cons ai .nil) results37 (.tmp rfl) fun w hw=>?_;exact Holds.end_ hR hw ⟨_,⟨rfl,rfl⟩,by repeat (first|exact aW|exact aY|(apply aX;focus (repeat (first|exact aU|apply zt)))|apply aZ)⟩
attribute [local irreducible] cF bA
theorem Qn {r:Fr} {va:Value} {xs:List aH} {f:FuncId} {first cap:Array Value} (ha:aj cq r va xs) (hc:dr prog f=true) (q:aH→Bool)
  (con:∀ cs x,x∈xs→cq.rel r cs x→ay prog f (first++#[.agg cs.toArray]++cap) r [] (aM fun v U=>v=.bool (q x)∧U=[])) :
  ay prog 285 #[va,.func (.func f) first cap] r [] (aM fun v U=>∃ k:Int,v=.int .i64 k∧(0≤k↔xs.any q=true)∧U=[]):=by
 have har:=ha;refine ay.of (n:=19) [va,.func (.func f) first cap] rfl func285 rfl rfl rfl fun g hg R hR=>?_;have ha:=ha.mono hg;have hbd:=ha.bound;obtain ⟨a1,c1,rfl⟩:=ha.shape;refine S.seq<|S.region rfl<|O.q 1 rfl<|O.nil<|S.seq<|S.seq<|S.region rfl<|O.q 1 rfl<|O.op (.p rfl) (.len rfl underlying25 rfl)<|O.q 1 rfl<|O.nil<|S.block<|S.fT (ι:=Nat) (fun i=>i≤xs.length∧(xs.take i).any q=false) (fun i=>[(8,.int .i64 (i:Int))]) [(0,_),(1,_),(7,_)] (fun i=>[]) (fun i=>xs.length - i) (0) (by exact ⟨by simp,by simp⟩) (.cons rfl (.nil)) (.cons rfl (.cons rfl (.cons rfl (.nil)))) rfl fun i hx ih=>?_;have bl:=cW (g:=g);obtain ⟨hx1,hx2⟩:=hx;refine S.seq<|S.region rfl<|O.op (.p rfl) (.lss rfl rfl)<|O.nil (S.seq ?_)
 first|refine S.ct rfl (fun h9=>?_) (fun h9=>?_)|refine S.cm rfl (fun h9=>?_) (fun h9=>?_)
 ·have hi:i<xs.length:=by omega
  cases e:q xs[i] with
  |true =>
   have hy:xs.any q=true:=List.any_eq_true.2 ⟨xs[i],List.getElem_mem hi,e⟩;clear ih;refine S.skip<|S.seq<|S.block<|S.seq<|S.region rfl<|O.q 2 rfl<|O.nil<|S.seq<|S.region rfl<|O.q 3 rfl<|O.ib (.p rfl) underlying25 dz rfl rfl rfl har hg (h:=fun vi v8 nu oV=>?_);have oR:=ag.rel.mono oV hg;obtain ⟨Rj,Rl,rfl,Oy,NC⟩:=cq.sh oR;refine O.op (.p rfl) (.bI isAgg31 aa rfl nu) ?_;refine O.aC (.p rfl) rfl hc rfl rfl (((con _ _ (List.getElem_mem hi) oV).sub hg)) ?_;rintro _ _ ⟨rfl,rfl⟩
   try simp only [an,aq,au]
   refine O.sT 16 rfl (by exact e) ?_;refine O.nil<|S.bC rfl<|S.seq<|S.region rfl<|O.q 2 rfl<|O.nil ?_;exact S.rt results285 rfl hR ⟨(i:Int),rfl,⟨fun _=>hy,fun _=>by omega⟩,rfl⟩
  |false =>
   refine S.skip<|S.seq<|S.block<|S.seq<|S.region rfl<|O.q 2 rfl<|O.nil<|S.seq<|S.region rfl<|O.q 3 rfl<|O.ib (.p rfl) underlying25 dz rfl rfl rfl har hg (h:=fun vi v8 nu oV=>?_);have oR:=ag.rel.mono oV hg;obtain ⟨Rj,Rl,rfl,Oy,NC⟩:=cq.sh oR;refine O.op (.p rfl) (.bI isAgg31 aa rfl nu) ?_;refine O.aC (.p rfl) rfl hc rfl rfl (((con _ _ (List.getElem_mem hi) oV).sub hg)) ?_;rintro _ _ ⟨rfl,rfl⟩
   try simp only [an,aq,au]
   refine O.aL 16 rfl (by exact e) ?_;refine O.nil<|S.aP rfl<|S.skip<|S.inBlock<|S.region rfl<|O.op (.p rfl) (.add rfl rfl (IntWalk.i64_in _ ah))<|O.q 1 rfl<|O.nil ?_;exact S.dH (ih (i+1) (by exact ⟨by omega,by rw [List.take_succ_eq_append_getElem hi,List.any_append,hx2];simp [e]⟩) ah)
 ·clear ih
  have hi:i=xs.length:=by omega
  subst hi;rw [List.take_length] at hx2;refine S.exit rfl<|S.seq<|S.region rfl<|O.q 1 rfl<|O.nil ?_;exact S.rt results285 rfl hR ⟨-1,rfl,⟨fun h=>absurd h zE,fun h=>by rw [hx2] at h;cases h⟩,rfl⟩
theorem BR {r:Fr} {va:Value} {xs:List aH} {f:FuncId} {first cap:Array Value} (ha:aj cq r va xs) (hc:dr prog f=true) (q:aH→Bool)
  (con:∀ cs x,x∈xs→cq.rel r cs x→ay prog f (first++#[.agg cs.toArray]++cap) r [] (aM fun v U=>v=.bool (q x)∧U=[])) (h1:(Value.func (.func f) first cap).oneCell' =true) :
  ay prog 207 #[va,.func (.func f) first cap] r [] (aM fun v U=>v=.bool (xs.any q)∧U=[]):=by
 refine ay.of (n:=9) [va,.func (.func f) first cap] rfl func207 rfl rfl rfl fun g hg R hR=>?_;refine S.seq<|S.region rfl<|O.q 1 rfl<|O.nil<|S.seq<|S.region rfl<|O.q 2 rfl<|O.aC (.p rfl) rfl aa rfl rfl (((Qn ha hc q con).sub hg)) ?_;rintro l9 _ ⟨Rc,rfl,C2,rfl⟩
 try simp only [an,aq,au]
 refine O.op (.p rfl) (.geq rfl rfl)<|O.q 1 rfl<|O.nil ?_;exact S.rt results207 rfl hR ⟨congrArg _ (by rw [Bool.eq_iff_iff,decide_eq_true_iff];exact C2),rfl⟩
def mL (s:Nat) (p key:List UInt8):Bool:=decide (o_ key=s) && p.isPrefixOf (bT key)
theorem Uc {r:Fr} {b s:Nat} {L:List aH} {key p:List UInt8} (hA:kf r b s L) (hH:At r ⟨0,0,none⟩ (bQ ed)) (hK:At r ⟨1,0,none⟩ (bQ fZ)) (hk:key.length≤10000000000) (hp:p.length≤1000000000) :
  ay prog 209 #[.agg #[.pointer (some ⟨b,0,none⟩)],.string (str key),.string (str p)] r [] (aM fun v U=>v=.bool (mL s p key)∧U=[]):=by
 refine ay.of (n:=19) _ rfl func209 rfl rfl rfl fun g hg R hR=>?_;have hA:=hA.mono hg;have hH:=hH.mono hg;have hK:=hK.mono hg
 by_cases q:o_ key=s
 ·have e0:mL s p key=p.isPrefixOf (bT key):=by unfold mL;rw [decide_eq_true q,Bool.true_and]
  refine S.seq<|S.region rfl<|O.aO (.p rfl) (.box (cs:=[_]) rfl rfl) ?_;rintro _ _ ⟨b3,rfl,rfl⟩;refine O.q 1 rfl<|O.nil<|S.seq<|S.c7 (b:=b3) (cs' :=[.pointer (some ⟨b,0,none⟩)]) ai rfl ?_;refine S.cV ai fun g hs hm h3=>?_;replace hg:=Fr.aI hg hs;replace hR:=bt hR hm
  try replace hA:=hA.mono hs
  try replace hH:=hH.mono hs
  try replace hK:=hK.mono hs
  clear hs hm;refine S.bB (L:=[0,2,3,1,4,5,6,7,9,8,10,11,12]) bx aa ?_;refine af.q 1 rfl<|.quiet (.p rfl) rfl (fun _=>.fieldAddr uI rfl)<|.quiet (.p rfl) rfl (fun _=>.loadAt nQ rfl h3 rfl) ?_;refine af.aC (.p rfl) aa rfl aa rfl rfl ((r9 hH hK hk)) ?_;rintro _ _ ⟨rfl,rfl⟩
  try simp only [an,aq,au]
  refine af.aC (.p rfl) aa rfl aa rfl rfl ((x3 hA)) ?_;rintro _ _ ⟨rfl,rfl⟩
  try simp only [an,aq,au]
  refine .quiet (.p rfl) rfl (fun _=>.eql rfl rfl)<|af.sT 12 rfl (by exact decide_eq_true ah) ?_;refine af.q 3 rfl<|af.aC (.g rfl rfl) aa rfl aa rfl rfl ((om hH hK hk)) ?_;rintro _ _ ⟨rfl,rfl⟩
  try simp only [an,aq,au]
  refine af.aC (.g rfl rfl) aa rfl aa rfl rfl ((wF bq ah)) ?_;rintro _ _ ⟨rfl,rfl⟩
  try simp only [an,aq,au]
  refine af.q 2 rfl<|aK.nil ?_;exact S.rt results209 rfl hR ⟨congrArg Value.bool e0.symm,rfl⟩
 ·have e0:mL s p key=false:=by unfold mL;rw [decide_eq_false q,Bool.false_and]
  refine S.seq<|S.region rfl<|O.aO (.p rfl) (.box (cs:=[_]) rfl rfl) ?_;rintro _ _ ⟨b3,rfl,rfl⟩;refine O.q 1 rfl<|O.nil<|S.seq<|S.c7 (b:=b3) (cs' :=[.pointer (some ⟨b,0,none⟩)]) ai rfl ?_;refine S.cV ai fun g hs hm h3=>?_;replace hg:=Fr.aI hg hs;replace hR:=bt hR hm
  try replace hA:=hA.mono hs
  try replace hH:=hH.mono hs
  try replace hK:=hK.mono hs
  clear hs hm;refine S.bB (L:=[0,2,3,1,4,5,6,7,9,8,10,11,12]) bx aa ?_;refine af.q 1 rfl<|.quiet (.p rfl) rfl (fun _=>.fieldAddr uI rfl)<|.quiet (.p rfl) rfl (fun _=>.loadAt nQ rfl h3 rfl) ?_;refine af.aC (.p rfl) aa rfl aa rfl rfl ((r9 hH hK hk)) ?_;rintro _ _ ⟨rfl,rfl⟩
  try simp only [an,aq,au]
  refine af.aC (.p rfl) aa rfl aa rfl rfl ((x3 hA)) ?_;rintro _ _ ⟨rfl,rfl⟩
  try simp only [an,aq,au]
  refine .quiet (.p rfl) rfl (fun _=>.eql rfl rfl)<|af.aL 12 rfl (by exact decide_eq_false ah) ?_;refine af.q 7 rfl<|aK.nil ?_;exact S.rt results209 rfl hR ⟨congrArg Value.bool e0.symm,rfl⟩
theorem B9 {r:Fr} {F_ bv aS bz s:Nat} {L:List aH} {p:List UInt8} {v1 v2 v3 v4:Value} {e:aH} {cs:List Value} (he:cq.rel r cs e) (h1:At r ⟨F_,0,none⟩ [.pointer (some ⟨aS,0,none⟩)]) (h2:At r ⟨bv,0,none⟩ [.string (str p)]) (hP:At r ⟨aS,0,none⟩ [.pointer (some ⟨bz,0,none⟩),v1,v2,v3,v4]) (hA:kf r bz s L)
  (hH:At r ⟨0,0,none⟩ (bQ ed)) (hK:At r ⟨1,0,none⟩ (bQ fZ)) (hk:e.1.length≤10000000000) (hp:p.length≤1000000000) :
  ay prog 208 #[.agg cs.toArray,.pointer (some ⟨F_,0,none⟩),.pointer (some ⟨bv,0,none⟩)] r [] (aM fun v U=>v=.bool (!mL s p e.1)∧U=[]):=by
 obtain ⟨l1,m1,rfl,l2,l3⟩:=cq.sh he;refine ay.of (n:=14) _ rfl func208 rfl rfl rfl fun g hg R hR=>?_;have h1:=h1.mono hg;have h2:=h2.mono hg;have hP:=hP.mono hg;have hA:=hA.mono hg;have hH:=hH.mono hg;have hK:=hK.mono hg;refine S.seq<|S.region rfl<|O.aO (.p rfl) (.box (cs:=[_,_]) rfl rfl) ?_;rintro _ _ ⟨b3,rfl,rfl⟩;refine O.q 1 rfl<|O.nil<|S.seq<|S.c7 (b:=b3) (cs' :=[.string (str e.1),.slice l1 e.2.1.length m1]) ai rfl ?_;refine S.cV ai fun g hs hm h3=>?_;replace hg:=Fr.aI hg hs;replace hR:=bt hR hm
 try replace h1:=h1.mono hs
 try replace h2:=h2.mono hs
 try replace hP:=hP.mono hs
 try replace hA:=hA.mono hs
 try replace hH:=hH.mono hs
 try replace hK:=hK.mono hs
 clear hs hm;refine S.bB (L:=[0,1,2,3,4,5,6,7,8,9]) bx aa ?_;refine .quiet (.p rfl) rfl (fun _=>.loadAt M7 rfl h1 rfl) ?_;refine .quiet (.p rfl) rfl (fun _=>.nilCheck rfl)<|.quiet (.p rfl) rfl (fun _=>.fieldAddr sP rfl)<|.quiet (.p rfl) rfl (fun _=>.bI (cs:=[_]) isAgg85 aa rfl (hP.take 1)) ?_;refine .quiet (.p rfl) rfl (fun _=>.fieldAddr eB rfl)<|.quiet (.p rfl) rfl (fun _=>.loadAt bV rfl h3 rfl) ?_;refine .quiet (.p rfl) rfl (fun _=>.loadAt bV rfl h2 rfl) ?_;refine af.aC (.p rfl) aa rfl aa rfl rfl ((Uc hA hH hK hk hp)) ?_;rintro _ _ ⟨rfl,rfl⟩
 try simp only [an,aq,au]
 refine .quiet (.p rfl) rfl (fun _=>(by first|exact .k7 rfl|exact .not rfl)) ?_;refine af.q 1 rfl<|aK.nil ?_;exact S.rt results208 rfl hR ⟨rfl,rfl⟩
def qm (s:Nat) (p xs:List UInt8) (x:dJ):Prop:=gx x∧fV x=xs∧¬ (x.1=3∧p.length=510)∧¬ (x.1=4∧p.length≠510)∧∀ e∈x.2.2.2.1,mL s p e.1=true
noncomputable instance (s:Nat) (p xs:List UInt8) (x:dJ):Decidable (qm s p xs x):=Classical.propDecidable _
theorem M4 {s:Nat} {p xs:List UInt8} {x:dJ} (h1:gx x) (h2:fV x=xs) (h3:¬ (x.1=3∧p.length=510)) (h4:¬ (x.1=4∧p.length≠510)):(x.2.2.2.1.any fun e=>!mL s p e.1)=!decide (qm s p xs x):=by
 rw [Bool.eq_iff_iff,List.any_eq_true]
 constructor
 ·rintro ⟨e,he,h⟩
  rw [Bool.not_eq_true'] at h ⊢;rw [decide_eq_false_iff_not]
  intro w
  rw [w.2.2.2.2 e he] at h
  cases h
 ·intro h
  rw [Bool.not_eq_true',decide_eq_false_iff_not] at h;refine Classical.byContradiction fun hc=>h ⟨h1,h2,h3,h4,fun e he=>?_⟩
  cases u:mL s p e.1
  ·exact (hc ⟨e,he,by rw [u];rfl⟩).elim
  ·rfl
theorem J5 {r:Fr} {aS bz s:Nat} {L:List aH} {p xs:List UInt8} {v1 v2 v3 v4 vs:Value} {cs:List Value} {x:dJ} (hP:At r ⟨aS,0,none⟩ [.pointer (some ⟨bz,0,none⟩),v1,v2,v3,v4]) (hA:kf r bz s L) (hs:aj ag.u8 r vs xs) (h:ga.rel r cs x) (hx0:x.2.1.length≤1000000000000∧x.2.2.1.length≤1000000000000) (hx2:x.2.2.2.1.length≤10000000∧∀ y∈x.2.2.2.1,y.2.1.length≤10000000) (hxs:xs.length=64)
  (hH:At r ⟨0,0,none⟩ (bQ ed)) (hK:At r ⟨1,0,none⟩ (bQ fZ)) (hp:p.length≤1000000000) :
  ay prog 124 #[.pointer (some ⟨aS,0,none⟩),.string (str p),vs,.agg cs.toArray] r [] (aM fun v U=>v=.bool (decide (qm s p xs x))∧U=[]):=by
 have h0:=h;obtain ⟨qV,qW,fE,qX,qY,fF,rfl,k1,k2,aR⟩:=ga.sh h;obtain ⟨a2,c2,rfl⟩:=hs.shape;have hps:(str p).size=p.length:=tU p;refine ay.of (n:=41) _ rfl func124 rfl rfl rfl fun g hg R hR=>?_;have hP:=hP.mono hg;have hA:=hA.mono hg;have hs:=hs.mono hg;have h0:=h0.mono hg;have k1:=k1.mono hg;have k2:=k2.mono hg;have aR:=aR.mono hg;have hH:=hH.mono hg;have hK:=hK.mono hg;refine S.seq<|S.region rfl<|O.aO (.p rfl) (.box (cs:=[_]) rfl rfl) ?_;rintro _ _ ⟨b4,rfl,rfl⟩;refine O.aO (.p rfl) (.box (cs:=[_]) rfl rfl) ?_;rintro _ _ ⟨gK,rfl,rfl⟩;refine O.aO (.p rfl) (.box (cs:=[_,_,_,_]) rfl rfl) ?_;rintro _ _ ⟨mW,rfl,rfl⟩;refine O.q 1 rfl<|O.nil<|S.seq<|S.c7 (b:=mW) (cs' :=[bH x.1,.slice qV x.2.1.length qX,.slice qW x.2.2.1.length qY,.slice fE x.2.2.2.1.length fF]) ai rfl ?_;refine S.cV ai fun g hs hm h7=>?_;replace hg:=Fr.aI hg hs;replace hR:=bt hR hm
 try replace hP:=hP.mono hs
 try replace hA:=hA.mono hs
 try replace hs:=hs.mono hs
 try replace h0:=h0.mono hs
 try replace k1:=k1.mono hs
 try replace k2:=k2.mono hs
 try replace aR:=aR.mono hs
 try replace hH:=hH.mono hs
 try replace hK:=hK.mono hs
 clear hs hm;refine S.cV ai fun g hs hm h5=>?_;replace hg:=Fr.aI hg hs;replace hR:=bt hR hm
 try replace hP:=hP.mono hs
 try replace hA:=hA.mono hs
 try replace hs:=hs.mono hs
 try replace h0:=h0.mono hs
 try replace k1:=k1.mono hs
 try replace k2:=k2.mono hs
 try replace aR:=aR.mono hs
 try replace hH:=hH.mono hs
 try replace hK:=hK.mono hs
 try replace h7:=h7.mono hs
 clear hs hm;refine S.cV ai fun g hs hm h4=>?_;replace hg:=Fr.aI hg hs;replace hR:=bt hR hm
 try replace hP:=hP.mono hs
 try replace hA:=hA.mono hs
 try replace hs:=hs.mono hs
 try replace h0:=h0.mono hs
 try replace k1:=k1.mono hs
 try replace k2:=k2.mono hs
 try replace aR:=aR.mono hs
 try replace hH:=hH.mono hs
 try replace hK:=hK.mono hs
 try replace h7:=h7.mono hs
 try replace h5:=h5.mono hs
 clear hs hm;refine S.region rfl<|O.op (.p rfl) (.bI isAgg27 aa rfl h7) ?_;refine O.aC (.p rfl) rfl aa rfl rfl ((vb h0 hx0 hx2 hH hK)) ?_;rintro _ _ ⟨kS,nL,rfl,rfl⟩
 try simp only [an,aq,au]
 refine O.q 1 rfl<|O.nil<|S.seq<|S.fB ai fun g hs hm hS=>?_;replace hg:=Fr.aI hg hs;replace hR:=bt hR hm
 try replace hP:=hP.mono hs
 try replace hA:=hA.mono hs
 try replace hs:=hs.mono hs
 try replace h0:=h0.mono hs
 try replace k1:=k1.mono hs
 try replace k2:=k2.mono hs
 try replace aR:=aR.mono hs
 try replace hH:=hH.mono hs
 try replace hK:=hK.mono hs
 try replace h7:=h7.mono hs
 try replace h5:=h5.mono hs
 try replace h4:=h4.mono hs
 clear hs hm
 by_cases g1:fV x=xs
 ·have g0:gx x:=(zR x).1 (by rw [g1];exact hxs)
  cases kS with
  |none =>
   obtain ⟨e1,_,_⟩:=aj.xF zE hS;rw [g1] at e1;rw [e1] at hxs;exact absurd hxs zE
  |some kS =>
   by_cases g3:x.1=3∧p.length=510
   ·have e:decide (qm s p xs x)=false:=decide_eq_false fun q=>q.2.2.1 g3
    refine S.block<|S.seq<|S.seq<|S.region rfl<|O.q 1 rfl<|O.op (.p rfl) (.nc underlying24 rfl rfl)<|O.aL 14 rfl aG ?_;refine O.q 1 rfl<|O.nil<|S.aP rfl<|S.region rfl<|O.q 2 rfl<|O.aC (.p rfl) rfl aa rfl rfl (nK (by first|assumption|exact aj.mono hg aB|exact aj.left aB|exact aj.left (aj.mono hg aB)) (by first|assumption|exact aj.mono hg aB|exact aj.left aB|exact aj.left (aj.mono hg aB))) ?_;rintro _ _ ⟨rfl,rfl⟩
    try simp only [an,aq,au]
    refine O.sT 17 rfl (by exact decide_eq_true g1) ?_;refine O.op (.p rfl) (.not rfl)<|O.q 1 rfl<|O.nil<|S.aP rfl<|S.seq<|S.seq<|S.region rfl<|O.op (.p rfl) (.fieldAddr eA rfl)<|O.op (.p rfl) (.loadAt ez rfl h7 rfl) ?_;refine O.op (.p rfl) (.eql rfl rfl)<|O.sT 22 rfl (by rw [g3.1];rfl) ?_;refine O.q 1 rfl<|O.op (.g rfl rfl) (.loadAt bV rfl h5 rfl) ?_;refine O.op (.g rfl rfl) (.c6 rfl underlying9 rfl)<|O.op (.g rfl rfl) (.eql rfl rfl)<|O.sT 26 rfl (by exact decide_eq_true bX) ?_;refine O.q 2 rfl<|O.nil<|S.bC rfl<|S.skip<|S.bC rfl<|S.seq<|S.region rfl<|O.q 1 rfl<|O.nil ?_;exact S.rt results124 rfl hR ⟨congrArg Value.bool e.symm,rfl⟩
   ·by_cases g4:x.1=4∧p.length≠510
    ·have e:decide (qm s p xs x)=false:=decide_eq_false fun q=>q.2.2.2.1 g4
     refine S.block<|S.seq<|S.seq<|S.region rfl<|O.q 1 rfl<|O.op (.p rfl) (.nc underlying24 rfl rfl)<|O.aL 14 rfl aG ?_;refine O.q 1 rfl<|O.nil<|S.aP rfl<|S.region rfl<|O.q 2 rfl<|O.aC (.p rfl) rfl aa rfl rfl (nK (by first|assumption|exact aj.mono hg aB|exact aj.left aB|exact aj.left (aj.mono hg aB)) (by first|assumption|exact aj.mono hg aB|exact aj.left aB|exact aj.left (aj.mono hg aB))) ?_;rintro _ _ ⟨rfl,rfl⟩
     try simp only [an,aq,au]
     refine O.sT 17 rfl (by exact decide_eq_true g1) ?_;refine O.op (.p rfl) (.not rfl)<|O.q 1 rfl<|O.nil<|S.aP rfl<|S.seq<|S.seq<|S.region rfl<|O.op (.p rfl) (.fieldAddr eA rfl)<|O.op (.p rfl) (.loadAt ez rfl h7 rfl) ?_;refine O.op (.p rfl) (.eql rfl rfl)<|O.aL 22 rfl (by rw [g4.1];rfl) ?_;refine O.q 6 rfl<|O.nil<|S.aP rfl<|S.region rfl<|O.op (.p rfl) (.fieldAddr eA rfl)<|O.op (.p rfl) (.loadAt ez rfl h7 rfl) ?_;refine O.op (.p rfl) (.eql rfl rfl)<|O.sT 30 rfl (by rw [g4.1];rfl) ?_;refine O.q 1 rfl<|O.op (.g rfl rfl) (.loadAt bV rfl h5 rfl) ?_;refine O.op (.g rfl rfl) (.c6 rfl underlying9 rfl)<|O.op (.g rfl rfl) (.neq rfl rfl)<|O.sT 34 rfl (by exact decide_eq_true bX) ?_;refine O.q 2 rfl<|O.nil<|S.bC rfl<|S.seq<|S.region rfl<|O.q 1 rfl<|O.nil ?_;exact S.rt results124 rfl hR ⟨congrArg Value.bool e.symm,rfl⟩
    ·have wE:=M4 (s:=s) g0 g1 g3 g4
     have hl:∀ y∈x.2.2.2.1,y.1.length≤64:=fun y hy=>(g0.1.1 y hy).1.2
     by_cases cH:x.1=3
     ·
      refine S.block<|S.seq<|S.seq<|S.region rfl<|O.q 1 rfl<|O.op (.p rfl) (.nc underlying24 rfl rfl)<|O.aL 14 rfl aG ?_;refine O.q 1 rfl<|O.nil<|S.aP rfl<|S.region rfl<|O.q 2 rfl<|O.aC (.p rfl) rfl aa rfl rfl (nK (by first|assumption|exact aj.mono hg aB|exact aj.left aB|exact aj.left (aj.mono hg aB)) (by first|assumption|exact aj.mono hg aB|exact aj.left aB|exact aj.left (aj.mono hg aB))) ?_;rintro _ _ ⟨rfl,rfl⟩
      try simp only [an,aq,au]
      refine O.sT 17 rfl (by exact decide_eq_true g1) ?_;refine O.op (.p rfl) (.not rfl)<|O.q 1 rfl<|O.nil<|S.aP rfl<|S.seq<|S.seq<|S.region rfl<|O.op (.p rfl) (.fieldAddr eA rfl)<|O.op (.p rfl) (.loadAt ez rfl h7 rfl) ?_;refine O.op (.p rfl) (.eql rfl rfl)<|O.sT 22 rfl (by rw [cH];rfl) ?_;refine O.q 1 rfl<|O.op (.g rfl rfl) (.loadAt bV rfl h5 rfl) ?_;refine O.op (.g rfl rfl) (.c6 rfl underlying9 rfl)<|O.op (.g rfl rfl) (.eql rfl rfl)<|O.aL 26 rfl (by exact decide_eq_false (fun q=>g3 ⟨cH,by omega⟩)) ?_;refine O.q 2 rfl<|O.nil<|S.aP rfl<|S.region rfl<|O.op (.p rfl) (.fieldAddr eA rfl)<|O.op (.p rfl) (.loadAt ez rfl h7 rfl) ?_;refine O.op (.p rfl) (.eql rfl rfl)<|O.aL 30 rfl (by rw [cH];rfl) ?_;refine O.q 6 rfl<|O.nil<|S.aP rfl<|S.skip<|S.inBlock<|S.seq<|S.region rfl<|O.op (.p rfl) (.fieldAddr mo rfl)<|O.op (.p rfl) (.loadAt dO rfl (h7.drop 3) rfl) ?_;refine O.op (.p rfl) (.iS rfl rfl)<|O.aC (.p rfl) rfl aa rfl rfl ((BR aR aa (fun e=>!mL s p e.1) (fun cs e hm he=>B9 he h4 h5 hP hA hH hK (by have:=hl e hm;omega) hp) rfl)) ?_;rintro _ _ ⟨rfl,rfl⟩
      try simp only [an,aq,au]
      rw [wE];refine O.op (.p rfl) ((by first|exact .k7 rfl|exact .not rfl)) ?_;refine O.q 1 rfl<|O.nil ?_;exact S.rt results124 rfl hR ⟨by rw [Bool.not_not],rfl⟩
     ·by_cases nC:x.1=4
      ·
       refine S.block<|S.seq<|S.seq<|S.region rfl<|O.q 1 rfl<|O.op (.p rfl) (.nc underlying24 rfl rfl)<|O.aL 14 rfl aG ?_;refine O.q 1 rfl<|O.nil<|S.aP rfl<|S.region rfl<|O.q 2 rfl<|O.aC (.p rfl) rfl aa rfl rfl (nK (by first|assumption|exact aj.mono hg aB|exact aj.left aB|exact aj.left (aj.mono hg aB)) (by first|assumption|exact aj.mono hg aB|exact aj.left aB|exact aj.left (aj.mono hg aB))) ?_;rintro _ _ ⟨rfl,rfl⟩
       try simp only [an,aq,au]
       refine O.sT 17 rfl (by exact decide_eq_true g1) ?_;refine O.op (.p rfl) (.not rfl)<|O.q 1 rfl<|O.nil<|S.aP rfl<|S.seq<|S.seq<|S.region rfl<|O.op (.p rfl) (.fieldAddr eA rfl)<|O.op (.p rfl) (.loadAt ez rfl h7 rfl) ?_;refine O.op (.p rfl) (.eql rfl rfl)<|O.aL 22 rfl (by rw [nC];rfl) ?_;refine O.q 6 rfl<|O.nil<|S.aP rfl<|S.region rfl<|O.op (.p rfl) (.fieldAddr eA rfl)<|O.op (.p rfl) (.loadAt ez rfl h7 rfl) ?_;refine O.op (.p rfl) (.eql rfl rfl)<|O.sT 30 rfl (by rw [nC];rfl) ?_;refine O.q 1 rfl<|O.op (.g rfl rfl) (.loadAt bV rfl h5 rfl) ?_;refine O.op (.g rfl rfl) (.c6 rfl underlying9 rfl)<|O.op (.g rfl rfl) (.neq rfl rfl)<|O.aL 34 rfl (by exact decide_eq_false (fun q=>g4 ⟨nC,by omega⟩)) ?_;refine O.q 2 rfl<|O.nil<|S.aP rfl<|S.skip<|S.inBlock<|S.seq<|S.region rfl<|O.op (.p rfl) (.fieldAddr mo rfl)<|O.op (.p rfl) (.loadAt dO rfl (h7.drop 3) rfl) ?_;refine O.op (.p rfl) (.iS rfl rfl)<|O.aC (.p rfl) rfl aa rfl rfl ((BR aR aa (fun e=>!mL s p e.1) (fun cs e hm he=>B9 he h4 h5 hP hA hH hK (by have:=hl e hm;omega) hp) rfl)) ?_;rintro _ _ ⟨rfl,rfl⟩
       try simp only [an,aq,au]
       rw [wE];refine O.op (.p rfl) ((by first|exact .k7 rfl|exact .not rfl)) ?_;refine O.q 1 rfl<|O.nil ?_;exact S.rt results124 rfl hR ⟨by rw [Bool.not_not],rfl⟩
      ·
       refine S.block<|S.seq<|S.seq<|S.region rfl<|O.q 1 rfl<|O.op (.p rfl) (.nc underlying24 rfl rfl)<|O.aL 14 rfl aG ?_;refine O.q 1 rfl<|O.nil<|S.aP rfl<|S.region rfl<|O.q 2 rfl<|O.aC (.p rfl) rfl aa rfl rfl (nK (by first|assumption|exact aj.mono hg aB|exact aj.left aB|exact aj.left (aj.mono hg aB)) (by first|assumption|exact aj.mono hg aB|exact aj.left aB|exact aj.left (aj.mono hg aB))) ?_;rintro _ _ ⟨rfl,rfl⟩
       try simp only [an,aq,au]
       refine O.sT 17 rfl (by exact decide_eq_true g1) ?_;refine O.op (.p rfl) (.not rfl)<|O.q 1 rfl<|O.nil<|S.aP rfl<|S.seq<|S.seq<|S.region rfl<|O.op (.p rfl) (.fieldAddr eA rfl)<|O.op (.p rfl) (.loadAt ez rfl h7 rfl) ?_;refine O.op (.p rfl) (.eql rfl rfl)<|O.aL 22 rfl (by exact decide_eq_false (fun q=>cH (oy.1 q))) ?_;refine O.q 6 rfl<|O.nil<|S.aP rfl<|S.region rfl<|O.op (.p rfl) (.fieldAddr eA rfl)<|O.op (.p rfl) (.loadAt ez rfl h7 rfl) ?_;refine O.op (.p rfl) (.eql rfl rfl)<|O.aL 30 rfl (by exact decide_eq_false (fun q=>nC (oy.1 q))) ?_;refine O.q 6 rfl<|O.nil<|S.aP rfl<|S.skip<|S.inBlock<|S.seq<|S.region rfl<|O.op (.p rfl) (.fieldAddr mo rfl)<|O.op (.p rfl) (.loadAt dO rfl (h7.drop 3) rfl) ?_;refine O.op (.p rfl) (.iS rfl rfl)<|O.aC (.p rfl) rfl aa rfl rfl ((BR aR aa (fun e=>!mL s p e.1) (fun cs e hm he=>B9 he h4 h5 hP hA hH hK (by have:=hl e hm;omega) hp) rfl)) ?_;rintro _ _ ⟨rfl,rfl⟩
       try simp only [an,aq,au]
       rw [wE];refine O.op (.p rfl) ((by first|exact .k7 rfl|exact .not rfl)) ?_;refine O.q 1 rfl<|O.nil ?_;exact S.rt results124 rfl hR ⟨by rw [Bool.not_not],rfl⟩
 ·have e:decide (qm s p xs x)=false:=decide_eq_false fun q=>g1 q.2.1
  cases kS with
  |none =>
   refine S.block<|S.seq<|S.seq<|S.region rfl<|O.q 1 rfl<|O.op (.p rfl) (.nc underlying24 rfl rfl)<|O.sT 14 rfl aG ?_;refine O.q 1 rfl<|O.nil<|S.bC rfl<|S.skip<|S.bC rfl<|S.seq<|S.region rfl<|O.q 1 rfl<|O.nil ?_;exact S.rt results124 rfl hR ⟨congrArg Value.bool e.symm,rfl⟩
  |some kS =>
   refine S.block<|S.seq<|S.seq<|S.region rfl<|O.q 1 rfl<|O.op (.p rfl) (.nc underlying24 rfl rfl)<|O.aL 14 rfl aG ?_;refine O.q 1 rfl<|O.nil<|S.aP rfl<|S.region rfl<|O.q 2 rfl<|O.aC (.p rfl) rfl aa rfl rfl (nK (by first|assumption|exact aj.mono hg aB|exact aj.left aB|exact aj.left (aj.mono hg aB)) (by first|assumption|exact aj.mono hg aB|exact aj.left aB|exact aj.left (aj.mono hg aB))) ?_;rintro _ _ ⟨rfl,rfl⟩
   try simp only [an,aq,au]
   refine O.aL 17 rfl (by exact decide_eq_false g1) ?_;refine O.op (.p rfl) (.not rfl)<|O.q 1 rfl<|O.nil<|S.bC rfl<|S.seq<|S.region rfl<|O.q 1 rfl<|O.nil ?_;exact S.rt results124 rfl hR ⟨congrArg Value.bool e.symm,rfl⟩
theorem oB {r:Fr} {va:Value} {xs:List dn} (ha:aj dm r va xs) (hl:xs.length≤100000000000) :
  ay prog 125 #[va] r [] (aM fun v U=>∃ a c,v=.slice a xs.length c∧U=[av dm 191 v xs]):=by
 refine ay.of (n:=8) _ rfl func125 rfl rfl rfl fun g hg R hR=>?_;have ha:=ha.mono hg;obtain ⟨a1,c1,rfl⟩:=ha.shape
 cases a1 with
 |none =>
  refine S.seq<|S.region rfl<|O.q 1 rfl<|O.nil<|S.seq<|S.seq<|S.region rfl<|O.q 1 rfl<|O.op (.p rfl) (.nc underlying100 rfl rfl)<|O.nil<|S.bC rfl<|S.seq<|S.region rfl<|O.q 1 rfl<|O.nil ?_;obtain ⟨rfl,_,rfl⟩:=aj.xF zE ha;refine S.gd (T:=dm) (e:=191) ?_;refine S.ret results125 rfl fun w hw=>hR _ _ w ?_ hw;exact ⟨none,0,rfl,rfl⟩
 |some a1 =>
  refine S.seq<|S.region rfl<|O.q 1 rfl<|O.nil<|S.seq<|S.seq<|S.region rfl<|O.q 1 rfl<|O.op (.p rfl) (.nc underlying100 rfl rfl)<|O.nil<|S.aP rfl<|S.skip<|S.seq<|S.region rfl<|O.aO (.p rfl) (.cn (T:=dm) (ys:=[]) underlying100 rp zE rfl rfl trivial zE) ?_;rintro _ _ ⟨a5,dM,rfl,rfl⟩;refine O.q 1 rfl<|O.aO (.p rfl) (.pH (T:=dm) SS underlying100 rp zE rfl rfl ai (by first|assumption|exact aj.mono hg aB|exact aj.left aB|exact aj.left (aj.mono hg aB)) bL bL) ?_;rintro _ _ ⟨a7,ia,rfl,rfl⟩;refine O.q 1 rfl<|O.nil<|S.ret results125 rfl fun w hw=>hR _ _ w ?_ hw;exact ⟨a7,ia,by simp,by simp⟩
theorem vk {d g k:Fr} {aS bz s:Nat} {L:List aH} {cs:List Value} {m:Fr} (hd:d.sub g) (hm:g.cI m) (h:Sat [jt k,obj aS 89 cs,bp aJ d bz s L] m):k.sub (g.add m)∧At (g.add m) ⟨aS,0,none⟩ cs∧kf (g.add m) bz s L:=by
 obtain ⟨m1,m2,_,s1,s2,o1,m3,m4,_,s3,oh,o2,h3⟩:=h;have e:m1=k:=o1;refine ⟨e ▸ Fr.aI s1 (Fr.dA hm),((fK o2).mono (Fr.aI s3 s2)).mono (Fr.dA hm),?_⟩;obtain ⟨m5,_,_,xY,_,kP,_⟩:=h3;exact bp.a (Fr.aI hd (Fr.cw _ _)) (Fr.aI (Fr.aI xY (Fr.aI oh s2)) (Fr.dA hm)) kP
theorem EP {r d:Fr} {aS s n:Nat} {L:List aH} {peer:Int} {bM:Bool} {W:List (List UInt8)} {F:List UInt8→List UInt8} {p:List UInt8} {cs:List Value} {x:dJ} (hpos:0<peer) (h:ga.rel r cs x) (hp:p ∉ W) :
  ay prog 54 #[.pointer (some ⟨aS,0,none⟩),.string (str p),.agg cs.toArray] r [bN aJ 89 d aS s L peer bM W F n] (aM fun v U=>v=.tuple #[.slice none 0 0,.slice none 0 0,.int .i64 27]∧U=[bN aJ 89 d aS s L peer bM W F n]):=by
 obtain ⟨qV,qW,fE,qX,qY,fF,rfl,k1,k2,aR⟩:=ga.sh h;refine ay.of (n:=104) _ rfl func54 rfl rfl rfl fun g hg R hR=>?_;refine S.open (bs:=fun z:iU W F=>eE aJ 89 d z.k aS z.bz z.mp s L peer bM n z.M z.c) .here (fun m h=>bN.gy h) fun z=>?_;simp only [eE,List.cons_append,List.nil_append];have e:=z.none hp;refine S.seq<|S.region rfl<|O.aO (.p rfl) (.box (cs:=[_,_,_,_]) rfl rfl) ?_;rintro _ _ ⟨gK,rfl,rfl⟩;refine O.q 3 rfl<|O.nil<|S.seq<|S.seq<|S.region rfl<|O.q 1 rfl<|O.bD (.p rfl) rfl aa rfl rfl ai (nE hpos) ?_;rintro _ _ ⟨rfl,rfl⟩
 try simp only [an,aq,au]
 refine O.sT 16 rfl aG ?_;refine O.op (.p rfl) (.not rfl)<|O.nil<|S.aP rfl<|S.skip<|S.seq<|S.region rfl<|O.q 1 rfl<|O.op (.p rfl) (.nilCheck rfl)<|O.op (.p rfl) (.aF oH rfl)<|O.op (.p rfl) (.aF sO rfl)<|O.op (.p rfl) (.lo kK) ?_;refine O.q 1 rfl<|O.op (.p rfl) (.nw underlying75 (o3 underlying9) zeroValue24 rfl rfl ai) ?_;refine O.slot 25 (v' :=.tuple #[.slice none 0 0,.bool false]) rfl (by rw [e];rfl) ?_;refine O.q 3 rfl<|O.aL 27 rfl aG ?_;refine O.q 2 rfl<|O.nil<|S.seq<|S.block<|S.seq<|S.region rfl<|O.q 1 rfl<|O.op (.p rfl) (.not rfl)<|O.q 1 rfl<|O.nil<|S.bC rfl<|S.seq<|S.region rfl<|O.q 3 rfl<|O.nil<|S.cg (A:=bN aJ 89 d aS s L peer bM W F n) (bs:=eE aJ 89 d z.k aS z.bz z.mp s L peer bM n z.M z.c) aV (fun m h=>bN.fold z h) ?_;refine S.EI results54 rfl rfl rfl fun w hw=>Holds.end_ hR hw ?_;exact pk ⟨rfl,rfl⟩
theorem T6 {r d:Fr} {aS s n:Nat} {L:List aH} {peer:Int} {bM:Bool} {W:List (List UInt8)} {F:List UInt8→List UInt8} {p:List UInt8} {cs:List Value} {x:dJ} (hT:gH r d s L) (hpos:0<peer) (h:ga.rel r cs x) (hp:p∈W) (hF:(F p).length=64) (hx0:x.2.1.length≤1000000000000∧x.2.2.1.length≤1000000000000) (hx2:x.2.2.2.1.length≤10000000∧∀ y∈x.2.2.2.1,y.2.1.length≤10000000) (mz:p.length≤1000000000) (hno:¬ qm s p (F p) x) :
  ay prog 54 #[.pointer (some ⟨aS,0,none⟩),.string (str p),.agg cs.toArray] r [bN aJ 89 d aS s L peer bM W F n] (aM fun v U=>v=.tuple #[.slice none 0 0,.slice none 0 0,.int .i64 23]∧U=[bN aJ 89 d aS s L peer bM W F n]):=by
 have h0:=h;obtain ⟨qV,qW,fE,qX,qY,fF,rfl,k1,k2,aR⟩:=ga.sh h;refine ay.of (n:=104) _ rfl func54 rfl rfl rfl fun g hg R hR=>?_;have hT:=hT.mono hg;have h0:=h0.mono hg;refine S.open (bs:=fun z:iU W F=>eE aJ 89 d z.k aS z.bz z.mp s L peer bM n z.M z.c) .here (fun m h=>bN.gy h) fun z=>?_;simp only [eE,List.cons_append,List.nil_append];obtain ⟨pv,e⟩:=z.has.1 hp;have hv:=z.ok p pv e;obtain ⟨pa,pc,rfl⟩:=hv.shape;rw [hF] at e hv;refine S.seq<|S.region rfl<|O.aO (.p rfl) (.box (cs:=[_,_,_,_]) rfl rfl) ?_;rintro _ _ ⟨gK,rfl,rfl⟩;refine O.q 3 rfl<|O.nil<|S.seq<|S.seq<|S.c7 (b:=gK) (cs' :=[bH x.1,.slice qV x.2.1.length qX,.slice qW x.2.2.1.length qY,.slice fE x.2.2.2.1.length fF]) ai rfl ?_;refine S.cV ai fun g hs hm h5=>?_;replace hg:=Fr.aI hg hs;replace hR:=bt hR hm
 try replace hT:=hT.mono hs
 try replace h0:=h0.mono hs
 clear hs hm;refine S.region rfl<|O.q 1 rfl<|O.bD (.p rfl) rfl aa rfl rfl ai (nE hpos) ?_;rintro _ _ ⟨rfl,rfl⟩
 try simp only [an,aq,au]
 refine O.sT 16 rfl aG ?_;refine O.op (.p rfl) (.not rfl)<|O.nil<|S.aP rfl<|S.skip<|S.seq<|S.region rfl<|O.q 1 rfl<|O.op (.p rfl) (.nilCheck rfl)<|O.op (.p rfl) (.aF oH rfl)<|O.op (.p rfl) (.aF sO rfl)<|O.op (.p rfl) (.lo kK) ?_;refine O.q 1 rfl<|O.op (.p rfl) (.nw underlying75 (o3 underlying9) zeroValue24 rfl rfl ai) ?_;refine O.slot 25 (v' :=.tuple #[.slice pa 64 pc,.bool true]) rfl (by rw [e];rfl) ?_;refine O.q 3 rfl<|O.sT 27 rfl aG ?_;refine O.q 2 rfl<|O.nil<|S.seq<|S.block<|S.seq<|S.region rfl<|O.q 1 rfl<|O.op (.p rfl) (.not rfl)<|O.q 1 rfl<|O.nil<|S.aP rfl<|S.seq<|S.region rfl<|O.q 3 rfl<|O.op (.p rfl) (.bI isAgg27 aa rfl h5) ?_;refine O.cU (.p rfl) rfl aa rfl rfl (bs:=[jt z.k,obj aS 89 [.pointer (some ⟨z.bz,0,none⟩),.map (some z.mp),.int .i64 (n:Int),.int .i64 peer,.bool bM],bp aJ d z.bz s L]) aV (fun m hm hd=>J5 (vk hT.hd hd hm).2.1 (vk hT.hd hd hm).2.2 (hv.mono (vk hT.hd hd hm).1) (ag.rel.mono h0 (Fr.cw _ _)) hx0 hx2 hF (hT.hH.mono (Fr.cw _ _)) (hT.hK.mono (Fr.cw _ _)) mz) ?_;rintro _ _ ⟨rfl,rfl⟩
 try simp only [an,aq,au]
 refine O.aL 36 rfl (by exact decide_eq_false hno) ?_;refine O.op (.p rfl) (.not rfl)<|O.q 1 rfl<|O.nil<|S.bC rfl<|S.seq<|S.region rfl<|O.q 3 rfl<|O.nil<|S.cg (A:=bN aJ 89 d aS s L peer bM W F n) (bs:=eE aJ 89 d z.k aS z.bz z.mp s L peer bM n z.M z.c) aV (fun m h=>bN.fold z h) ?_;refine S.EI results54 rfl rfl rfl fun w hw=>Holds.end_ hR hw ?_;exact pk ⟨rfl,rfl⟩
end Go.Proofs.YtojafegjlahajaaGreatDoor
