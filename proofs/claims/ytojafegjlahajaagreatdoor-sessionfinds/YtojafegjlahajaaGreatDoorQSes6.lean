/- Texts of this proof. -/
import Derived.Test.YtojafegjlahajaaGreatDoorQSpBuilder
import Derived.Test.YtojafegjlahajaaGreatDoorQSes4
open Go Go.Sp Go.Proofs.Tryz
set_option maxRecDepth 100000
set_option maxHeartbeats 1000000
attribute [local irreducible] obj Own av
namespace Go.Proofs.YtojafegjlahajaaGreatDoor
def Gq:List Value:=List.replicate 64 (bK 0)
theorem LW {g m:Fr} {e1 e2 ck:TypeId} {v1 v2 v3:Value} {xs ys:List UInt8} (hm:Sat [av ag.u8 e1 v1 xs,av ag.u8 e2 v2 ys,av (ag.cells 1) ck v3 [[v1],[v2]]] m) (hd:g.cU m):aj (ag.slice ag.u8) (g.add m) v3 [xs,ys]:=by
 obtain ⟨m1,m2,_,s1,s2,o1,m3,m4,_,s3,pP,o2,m5,_,_,yx,_,k6,_⟩:=hm;have t3:=Fr.aI s3 s2;have t5:=Fr.aI yx (Fr.aI pP s2);exact (aj.kL (T:=ag.slice ag.u8) (xs:=[xs,ys]) (k6.arr.mono t5) ⟨⟨_,rfl,o1.arr.mono s1⟩,⟨_,rfl,o2.arr.mono t3⟩,trivial⟩ rfl).mono (Fr.dB hd)
theorem LC {r:Fr} {s:List UInt8} (hH:At r ⟨0,0,none⟩ (bW ev)) (hK:At r ⟨1,0,none⟩ (bW gq)) (hs:s.length≤10000000000) :
  ay prog 101 #[.string (str s)] r [] (aL fun v U=>∃ b,v=.pointer (some ⟨b,0,none⟩)∧U=[obj b 151 ((lE s).map bK)]):=by
 have gl:=EZ s;have IT:lK [[6],s].flatten=lE s:=by unfold lE;simp
 refine ay.of (n:=12) _ rfl func101 rfl rfl rfl fun g hg R hR=>?_;have hH:=hH.mono hg;have hK:=hK.mono hg;refine S.seq<|S.region rfl<|O.q 1 rfl<|O.nil<|S.seq<|S.region rfl<|O.aN (.p rfl) (.alloc (cs:=[.int .u8 0,.int .u8 0,.int .u8 0,.int .u8 0,.int .u8 0,.int .u8 0,.int .u8 0,.int .u8 0,.int .u8 0,.int .u8 0,.int .u8 0,.int .u8 0,.int .u8 0,.int .u8 0,.int .u8 0,.int .u8 0,.int .u8 0,.int .u8 0,.int .u8 0,.int .u8 0,.int .u8 0,.int .u8 0,.int .u8 0,.int .u8 0,.int .u8 0,.int .u8 0,.int .u8 0,.int .u8 0,.int .u8 0,.int .u8 0,.int .u8 0,.int .u8 0,.int .u8 0,.int .u8 0,.int .u8 0,.int .u8 0,.int .u8 0,.int .u8 0,.int .u8 0,.int .u8 0,.int .u8 0,.int .u8 0,.int .u8 0,.int .u8 0,.int .u8 0,.int .u8 0,.int .u8 0,.int .u8 0,.int .u8 0,.int .u8 0,.int .u8 0,.int .u8 0,.int .u8 0,.int .u8 0,.int .u8 0,.int .u8 0,.int .u8 0,.int .u8 0,.int .u8 0,.int .u8 0,.int .u8 0,.int .u8 0,.int .u8 0,.int .u8 0]) zeroValue151 rfl) ?_;rintro _ _ ⟨b3,rfl,rfl⟩;refine O.nil<|S.seq<|S.dx (b:=b3) (cs' :=Gq) ai aK ?_;refine S.bC (L:=[0,1,3,2,4,5,6,7]) bz aa ?_;refine .quiet (.p rfl) rfl (fun _=>.aH CW rfl)<|.quiet (.p rfl) rfl (fun _=>.W0 underlying149 fO rfl aB)<|af.q 1 rfl<|af.e4 2 4 [4,5,6,7] [2,5,6,7] aa rfl rfl ?_ ?_
 ·refine bT.cA (.p rfl) aa (T:=ag.u8) (ys:=[6]) underlying24 eT aB rfl rfl ⟨rfl,trivial⟩ aB (fun a6 dH=>?_)
  refine af.pS (xs:=s) (.p rfl) aa underlying9 underlying24 underlying5 rfl ah (fun a8 ob=>?_);refine af.cA (.p rfl) aa (T:=ag.cells 1) (ys:=[[.slice a6 1 dH],[.slice a8 s.length ob]]) underlying109 iu aB rfl rfl ⟨⟨rfl,rfl,by first|(simp;done)|(intro v hv;simp [Value.cells] at hv;rcases hv with rfl|rfl<;>rfl)|(refine List.forall_mem_cons.2 ⟨rfl,?_⟩;repeat (first|exact (fun _ h=>absurd h List.not_mem_nil)|refine List.forall_mem_cons.2 ⟨rfl,?_⟩))⟩,⟨rfl,rfl,by first|(simp;done)|(intro v hv;simp [Value.cells] at hv;rcases hv with rfl|rfl<;>rfl)|(refine List.forall_mem_cons.2 ⟨rfl,?_⟩;repeat (first|exact (fun _ h=>absurd h List.not_mem_nil)|refine List.forall_mem_cons.2 ⟨rfl,?_⟩))⟩,trivial⟩ aB (fun a9 qy=>?_);refine af.c4 (.p rfl) aa rfl aa rfl rfl (bs:=[av ag.u8 5 (.slice a6 1 dH) [6],av ag.u8 5 (.slice a8 s.length ob) s,av (ag.cells 1) 24 (.slice a9 2 qy) [[.slice a6 1 dH],[.slice a8 s.length ob]]]) aW (fun m hm hd=>yz (ps:=[[6],s]) (LW hm hd) (hH.mono (Fr.dh _ _)) (hK.mono (Fr.dh _ _)) b9) ?_;rintro _ _ ⟨oO,oU,rfl,rfl⟩
  try simp only [an,aq,au]
  rw [IT];refine af.zh (m:=64) (xs:=lE s) (.p rfl) aa underlying24 fO rfl rfl ai ai ah aB aB aB ?_;refine aJ.nil<|S.seq<|S.region rfl<|O.q 1 rfl<|O.nil<|S.dx (b:=b3) (cs' :=(lE s).map bK) ai (by simp [Gq]) ?_;exact S.rt results101 rfl hR ⟨b3,rfl,rfl⟩
 ·refine bT.pS (xs:=s) (.p rfl) aa underlying9 underlying24 underlying5 rfl ah (fun a8 ob=>?_)
  refine af.cA (.p rfl) aa (T:=ag.u8) (ys:=[6]) underlying24 eT aB rfl rfl ⟨rfl,trivial⟩ aB (fun a6 dH=>?_);refine af.cA (.p rfl) aa (T:=ag.cells 1) (ys:=[[.slice a6 1 dH],[.slice a8 s.length ob]]) underlying109 iu aB rfl rfl ⟨⟨rfl,rfl,by first|(simp;done)|(intro v hv;simp [Value.cells] at hv;rcases hv with rfl|rfl<;>rfl)|(refine List.forall_mem_cons.2 ⟨rfl,?_⟩;repeat (first|exact (fun _ h=>absurd h List.not_mem_nil)|refine List.forall_mem_cons.2 ⟨rfl,?_⟩))⟩,⟨rfl,rfl,by first|(simp;done)|(intro v hv;simp [Value.cells] at hv;rcases hv with rfl|rfl<;>rfl)|(refine List.forall_mem_cons.2 ⟨rfl,?_⟩;repeat (first|exact (fun _ h=>absurd h List.not_mem_nil)|refine List.forall_mem_cons.2 ⟨rfl,?_⟩))⟩,trivial⟩ aB (fun a9 qy=>?_);refine af.c4 (.p rfl) aa rfl aa rfl rfl (bs:=[av ag.u8 5 (.slice a6 1 dH) [6],av ag.u8 5 (.slice a8 s.length ob) s,av (ag.cells 1) 24 (.slice a9 2 qy) [[.slice a6 1 dH],[.slice a8 s.length ob]]]) aW (fun m hm hd=>yz (ps:=[[6],s]) (LW hm hd) (hH.mono (Fr.dh _ _)) (hK.mono (Fr.dh _ _)) b9) ?_;rintro _ _ ⟨oO,oU,rfl,rfl⟩
  try simp only [an,aq,au]
  rw [IT];refine af.zh (m:=64) (xs:=lE s) (.p rfl) aa underlying24 fO rfl rfl ai ai ah aB aB aB ?_;refine aJ.nil<|S.seq<|S.region rfl<|O.q 1 rfl<|O.nil<|S.dx (b:=b3) (cs' :=(lE s).map bK) ai (by simp [Gq]) ?_;exact S.rt results101 rfl hR ⟨b3,rfl,rfl⟩
theorem G6 {d:List UInt8} {i:Nat} (h:i<d.length):(d.map bK)[i]?=some (bK (d.getD i 0)):=by
 rw [List.getElem?_map,List.getElem?_eq_getElem h,List.getD_eq_getElem?_getD,List.getElem?_eq_getElem h];rfl
theorem WX (x:UInt8):IntKind.i64.wrap ((x.toNat:Int).fdiv (2 ^ min (6:Int).toNat IntKind.u8.bits))=((x.toNat / 64:Nat):Int):=by
 have hx:=x.toNat_lt;have e1:(2:Int) ^ min (6:Int).toNat IntKind.u8.bits=64:=by decide
 have e2:(x.toNat:Int).fdiv 64=((x.toNat / 64:Nat):Int):=by rw [Int.fdiv_eq_ediv_of_nonneg _ ah];rfl
 rw [e1,e2,IntWalk.i64_in _ ah]
theorem sG {r:Fr} {s:List UInt8} (hH:At r ⟨0,0,none⟩ (bW ev)) (hK:At r ⟨1,0,none⟩ (bW gq)) (hs:s.length≤10000000000) :
  ay prog 65 #[.string (str s)] r [] (aL fun v U=>v=.int .i64 (pQ s:Int)∧U=[]):=by
 have gl:=EZ s;refine ay.of (n:=11) _ rfl func65 rfl rfl rfl fun g hg R hR=>?_;have hH:=hH.mono hg;have hK:=hK.mono hg;refine S.seq<|S.region rfl<|O.q 1 rfl<|O.nil<|S.seq<|S.region rfl<|O.q 1 rfl<|O.aC (.p rfl) rfl aa rfl rfl ((LC zE zE bD)) ?_;rintro _ _ ⟨b4,rfl,rfl⟩
 try simp only [an,aq,au]
 refine O.op (.p rfl) (.nilCheck rfl)<|O.op (.p rfl) (.fieldAddr CW rfl)<|O.op (.p rfl) (.p_ (j:=0) underlying149 fO rfl rfl rfl ah)<|O.op (.p rfl) (.cV lq rfl ai (G6 ah)) ?_;refine O.slot 8 (v' :=bK ((lE s).getD 0 0)) rfl aK ?_;refine O.op (.p rfl) (.shr rfl rfl ah)<|O.op (.p rfl) (.lU underlying5 underlying3 rfl)<|O.slot 10 (v' :=.int .i64 (pQ s:Int)) rfl (by exact congrArg (Value.int .i64) (WX _)) ?_;refine O.q 1 rfl<|O.nil ?_;exact S.rt results65 rfl hR ⟨rfl,rfl⟩
theorem NF {r:Fr} {b:Nat} {p:Option Addr} {v:Value} (hp:p=none∨p=some (⟨b,0,none⟩:Addr)) :
  ay prog 250 #[.pointer (some ⟨b,0,none⟩)] r [obj b 142 [.pointer p,v]] (aL fun u U=>u=.tuple #[]∧U=[obj b 142 [.pointer (some ⟨b,0,none⟩),v]]):=by
 refine ay.of (n:=20) _ rfl func250 rfl rfl rfl fun g hg R hR=>?_
 rcases hp with rfl|rfl
 ·
  refine S.seq<|S.region rfl<|O.q 1 rfl<|O.op (.p rfl) (.nilCheck rfl)<|O.op (.p rfl) (.aH zB rfl)<|O.op (.p rfl) (.lo zy) ?_;refine O.op (.p rfl) (.rM underlying140 rfl rfl)<|O.sT 6 rfl aK ?_;refine O.nil<|S.bx rfl<|S.region rfl<|O.q 2 rfl<|O.op (.p rfl) (.toUnsafe (k:=1) underlying140 underlying402 aa rfl ai bL) ?_;refine O.op (.p rfl) (.TY func316 aa rfl aa aa rfl rfl)<|O.op (.p rfl) (.OD underlying402 underlying140 aa rfl ai aa) ?_;refine O.op (.p rfl) (.nilCheck rfl)<|O.op (.p rfl) (.aH zB rfl)<|O.bB rfl (.bp zy rfl rfl bt ai aX) ?_;refine O.nil<|S.ez results250 fun w hw=>Holds.end_ hR hw ?_;exact pk ⟨rfl,rfl⟩
 ·
  refine S.seq<|S.region rfl<|O.q 1 rfl<|O.op (.p rfl) (.nilCheck rfl)<|O.op (.p rfl) (.aH zB rfl)<|O.op (.p rfl) (.lo zy) ?_;refine O.op (.p rfl) (.rM underlying140 rfl rfl)<|O.aM 6 rfl aK ?_;refine O.nil<|S.aQ rfl<|S.seq<|S.region rfl<|O.q 1 rfl<|O.op (.p rfl) (.nilCheck rfl)<|O.op (.p rfl) (.aH zB rfl)<|O.op (.p rfl) (.lo zy) ?_;refine O.q 1 rfl<|O.op (.p rfl) (.TU underlying140 aa aa rfl rfl)<|O.aM 19 rfl aK ?_;refine O.nil<|S.aQ rfl<|S.skip<|S.ez results250 fun w hw=>Holds.end_ hR hw ?_;exact pk ⟨rfl,rfl⟩
theorem Yl {r:Fr} {b:Nat} {xs:List UInt8} {c:UInt8} (hl:xs.length≤1000000000) :
  ay prog 166 #[.pointer (some ⟨b,0,none⟩),bK c] r [jD 142 5 b xs] (aL fun u U=>u=.nilIface∧U=[jD 142 5 b (xs++[c])]):=by
 refine ay.of (n:=17) _ rfl func166 rfl rfl rfl fun g hg R hR=>?_;refine S.open (bs:=fun x:BK b=>[obj b 142 [.pointer x.p,x.v],av ag.u8 5 x.v xs]) .here (fun m h=>jD.jc h) fun x=>?_;simp only [List.cons_append,List.nil_append];have Rx:=x.hp;refine S.seq<|S.region rfl<|O.q 1 rfl<|O.nil<|S.seq<|S.region rfl<|O.q 1 rfl<|O.bM (.p rfl) rfl aa rfl rfl ai (NF Rx) ?_;rintro _ _ ⟨rfl,rfl⟩
 try simp only [an,aq,au]
 refine O.nil<|S.seq<|S.region rfl<|O.q 2 rfl<|O.op (.p rfl) (.nilCheck rfl)<|O.op (.p rfl) (.aH zC rfl)<|O.op (.p rfl) (.lo bl) ?_;refine O.q 1 rfl<|O.aN (.p rfl) (.cA (T:=ag.u8) (ys:=[c]) underlying24 eT aB rfl rfl ⟨rfl,trivial⟩ aB) ?_;rintro _ _ ⟨iM,iQ,rfl,rfl⟩;refine O.aN (.p rfl) (.gN (T:=ag.u8) underlying24 eT aB rfl rfl ai ai b9 b9) ?_;rintro _ _ ⟨nY,oa,rfl,rfl⟩;refine O.op (.p rfl) (.nilCheck rfl)<|O.op (.p rfl) (.aH zC rfl)<|O.bB rfl (.bp bl rfl rfl bt ai aX) ?_;refine O.nil<|S.seq<|S.region rfl<|O.q 1 rfl<|O.nil ?_;rw [show xs.length+[c].length=(xs++[c]).length from by simp];refine S.ct (A:=jD 142 5 b (xs++[c])) (bs:=[obj b 142 [.pointer (some ⟨b,0,none⟩),.slice nY (xs++[c]).length oa],av ag.u8 5 (.slice nY (xs++[c]).length oa) (xs++[c])]) aW (fun m h=>jD.fold (.inr rfl) h) ?_;exact S.rt results166 rfl hR ⟨rfl,rfl⟩
theorem Mw (c x:UInt8):Value.int .u8 (IntKind.u8.wrap ((c.toNat:Int)+(x.toNat:Int)))=bK (c+x):=by
 rw [L7]
 congr 1
 apply UInt8.toNat_inj.1
 rw [UInt8.toNat_add];simp only [Sp.byteOf];have:=(((c.toNat:Int)+(x.toNat:Int)) % 256).toNat
 simp
 omega
theorem WY {r:Fr} {b:Nat} {va:Value} {xs ys:List UInt8} (ha:aj ag.u8 r va xs) (hl:xs.length+ys.length≤1000000000) :
  ay prog 103 #[.pointer (some ⟨b,0,none⟩),va] r [jD 142 5 b ys] (aL fun u U=>u=.tuple #[]∧U=[jD 142 5 b (ys++xs.map (48+·))]):=by
 obtain ⟨a1,c1,rfl⟩:=ha.shape;refine ay.of (n:=17) _ rfl func103 rfl rfl rfl fun g hg R hR=>?_;have ha:=ha.mono hg;refine S.seq<|S.region rfl<|O.q 1 rfl<|O.op (.p rfl) (.len rfl underlying24 rfl)<|O.q 1 rfl<|O.nil<|S.block<|S.imp (ax :=[jD 142 5 b (ys++(xs.take 0).map (48+·))]) (fun m h=>by simpa using h) ?_;refine S.eM (ι:=Nat) (fun i=>i≤xs.length) (fun i=>[(8,.int .i64 (i:Int))]) [(0,_),(6,_),(7,_)] (fun i=>[jD 142 5 b (ys++(xs.take i).map (48+·))]) (fun i=>xs.length - i) (0) bL (.cons rfl (.nil)) (.cons rfl (.cons rfl (.cons rfl (.nil)))) rfl fun i hx ih=>?_;have bh:=cH (g:=g);refine S.seq<|S.region rfl<|O.op (.p rfl) (.lss rfl rfl)<|O.nil (S.seq ?_)
 first|refine S.cm rfl (fun h9=>?_) (fun h9=>?_)|refine S.b_ rfl (fun h9=>?_) (fun h9=>?_)
 ·have hi:i<xs.length:=by omega
  have e:ys++(xs.take i).map (48+·)++[48+xs[i]]=ys++(xs.take (i+1)).map (48+·):=by rw [List.append_assoc,List.take_succ_eq_append_getElem hi,List.map_append];rfl
  have jx:(xs.take i).length≤xs.length:=by simp;omega
  refine S.skip<|S.seq<|S.block<|S.seq<|S.region rfl<|O.bR (.p rfl) underlying24 fO rfl rfl (show _=(((i):Nat):Int) by omega) (by first|assumption|exact aj.mono hg zE|exact aj.left zE|exact aj.left (aj.mono hg zE)) (h:=fun AN zi l7 l_=>?_)
  cases l_
  refine O.op (.p rfl) (.loadAt lq rfl l7 rfl) ?_;refine O.q 1 rfl<|O.nil<|S.region rfl<|O.q 2 rfl<|O.op (.p rfl) (.nr rfl rfl)<|O.slot 14 (v' :=bK (48+xs[i])) rfl (by exact Mw 48 xs[i]) ?_;refine O.bM (.p rfl) rfl aa rfl rfl ai (Yl b9) ?_;rintro _ _ ⟨rfl,rfl⟩
  try simp only [an,aq,au]
  refine O.nil<|S.inBlock<|S.region rfl<|O.op (.p rfl) (.add rfl rfl (IntWalk.i64_in _ ah))<|O.q 1 rfl<|O.nil ?_;rw [e];exact S.dD (ih (i+1) ah ah)
 ·clear ih
  have hi:i=xs.length:=by omega
  subst hi;rw [List.take_length];refine S.exit rfl<|S.ez results103 fun w hw=>Holds.end_ hR hw ?_;exact pk ⟨rfl,rfl⟩
def oS (d:List UInt8) (k:Nat):List UInt8:=(List.range k).map fun i=>s4 d (i+2)
theorem MY (d:List UInt8) (k:Nat):oS d (k+1)=oS d k++[s4 d (k+2)]:=by unfold oS;rw [List.range_succ,List.map_append];rfl
theorem MZ (s:List UInt8):(oS (lE s) 510).map (48+·)=bq s:=(Yh s).symm
theorem MU:∀ (k:Fin 8) (n:Fin 256),bitsOf BinOp.and IntKind.u8 (((n.val:Nat):Int).fdiv (2 ^ min (((k.val:Nat):Int)).toNat IntKind.u8.bits)) 1=((n.val >>>k.val &&& 1:Nat):Int):=by decide
theorem MT (d:List UInt8) (i:Nat):Value.int .u8 (bitsOf BinOp.and IntKind.u8 (((d.getD (i / 8) 0).toNat:Int).fdiv (2 ^ min (((7 - i % 8:Nat):Int)).toNat IntKind.u8.bits)) 1)=bK (s4 d i):=by
 have hk:7 - i % 8<8:=by omega
 have h:=MU ⟨7 - i % 8,hk⟩ ⟨_,(d.getD (i / 8) 0).toNat_lt⟩;simp only at h;rw [h];unfold s4 bK;rw [UInt8.toNat_and,UInt8.toNat_shiftRight,UInt8.toNat_ofNat'];rw [Nat.mod_eq_of_lt (show 7 - i % 8<2 ^ 8 by omega),Nat.mod_eq_of_lt hk]
 rfl
theorem MX {r:Fr} {l b rH aZ:Nat} {d:List UInt8} {J:List UInt8→az} (hf:At r ⟨rH,0,none⟩ [.int .i64 2]) (hp:At r ⟨aZ,0,none⟩ [.pointer (some ⟨b,0,none⟩)]) (hd:At r ⟨b,0,none⟩ (d.map bK)) (gl:d.length=64)
  (hy:∀ done y,(∃ k,k<510∧done++[y]=oS d (k+1))→gF prog l #[bK y] r [J done] (aL fun u U=>u=.bool true∧U=[J (done++[y])])) :
  ay prog 165 #[pX l,.pointer (some ⟨rH,0,none⟩),.pointer (some ⟨aZ,0,none⟩)] r [J []] (aL fun _ U=>U=[J (oS d 510)]):=by
 refine ay.of (n:=24) _ rfl func165 rfl rfl rfl fun g hg R hR=>?_;replace hf:At g.h ⟨rH,0,none⟩ [.int .i64 2]:=At.mono hg hf;replace hp:At g.h ⟨aZ,0,none⟩ [.pointer (some ⟨b,0,none⟩)]:=At.mono hg hp;replace hd:At g.h ⟨b,0,none⟩ (d.map bK):=At.mono hg hd;refine S.seq<|S.region rfl<|O.op (.p rfl) (.loadAt cz rfl hf rfl) ?_;refine O.q 1 rfl<|O.nil<|S.block<|S.eM (ι:=Nat) (fun i=>i≤510) (fun i=>[(4,.int .i64 ((i+2:Nat):Int))]) [(0,_),(2,_)] (fun i=>[J (oS d i)]) (fun i=>510 - i) (0) bL (.cons rfl (.nil)) (.cons rfl (.cons rfl (.nil))) rfl fun i hx ih=>?_;have bh:=cH (g:=g);refine S.seq<|S.seq<|S.region rfl<|O.q 1 rfl<|O.op (.p rfl) (.lss rfl rfl)<|O.nil ?_
 first|refine S.cm rfl (fun h7=>?_) (fun h7=>?_)|refine S.b_ rfl (fun h7=>?_) (fun h7=>?_)
 ·have hi:i<510:=by omega
  have eW:=MY d i;have hdl:(d.map bK).length=64:=by rw [List.length_map,gl]
  refine S.skip<|S.seq<|S.block<|S.seq<|S.region rfl<|O.q 1 rfl<|O.op (.p rfl) (.loadAt Ow rfl hp rfl) ?_;refine O.q 1 rfl<|O.op (.p rfl) (.quo rfl rfl ah)<|O.slot 13 (v' :=.int .i64 (((i+2) / 8:Nat):Int)) rfl (by exact congrArg (Value.int .i64) (by rw [Int.tdiv_eq_ediv_of_nonneg ah,IntWalk.i64_in _ ah];rfl)) ?_;refine O.op (.p rfl) (.nilCheck rfl)<|O.op (.p rfl) (.kK (j:=(i+2) / 8) underlying149 fO rfl rfl rfl ah)<|O.op (.p rfl) (.load lq rfl (hd.at (G6 ah))) ?_;refine O.slot 16 (v' :=bK (d.getD ((i+2) / 8) 0)) rfl aK ?_;refine O.q 1 rfl<|O.op (.p rfl) (.rem rfl rfl ah)<|O.slot 18 (v' :=.int .i64 (((i+2) % 8:Nat):Int)) rfl (by exact congrArg (Value.int .i64) (by rw [Int.tmod_eq_emod_of_nonneg ah];omega)) ?_;refine O.op (.p rfl) (.sub rfl rfl (IntWalk.i64_in _ ah))<|O.slot 19 (v' :=.int .i64 ((7 - (i+2) % 8:Nat):Int)) rfl (by exact congrArg (Value.int .i64) ah) ?_;refine O.op (.p rfl) (.shr rfl rfl ah)<|O.op (.p rfl) (.and rfl rfl)<|O.slot 21 (v' :=bK (s4 d (i+2))) rfl (by exact MT d (i+2)) ?_;refine O.Ys (.p rfl) rfl rfl rfl aW ((hy (oS d i) (s4 d (i+2)) ⟨i,hi,eW.symm⟩).sub hg) ?_;rintro _ _ ⟨rfl,rfl⟩;refine O.op (.p rfl) (.not rfl)<|O.nil<|S.aQ rfl<|S.skip<|S.inBlock<|S.region rfl<|O.q 1 rfl<|O.op (.p rfl) (.add rfl rfl (IntWalk.i64_in _ ah))<|O.q 1 rfl<|O.nil ?_;simp only [List.cons_append,List.nil_append];rw [← eW]
  exact S.pw (ih (i+1) ah ah)
 ·clear ih
  have hi:i=510:=by omega
  subst hi;refine S.exit rfl<|S.ez results165 fun w hw=>Holds.end_ hR hw ?_;exact pk rfl
theorem M0 {r:Fr} {b:Nat}:ay prog 102 #[.pointer (some ⟨b,0,none⟩),.int .i64 2] r [] (aL fun v U=>∃ rH aZ,v=.func (.func 165) #[] #[.pointer (some ⟨rH,0,none⟩),.pointer (some ⟨aZ,0,none⟩)]∧U=[obj rH 3 [.int .i64 2],obj aZ 234 [.pointer (some ⟨b,0,none⟩)]]):=by
 refine ay.of (n:=6) _ rfl func102 rfl rfl rfl fun g hg R hR=>?_;refine S.seq<|S.region rfl<|O.aN (.p rfl) (.box (cs:=[_]) rfl rfl) ?_;rintro _ _ ⟨b2,rfl,rfl⟩;refine O.aN (.p rfl) (.box (cs:=[_]) rfl rfl) ?_;rintro _ _ ⟨b3,rfl,rfl⟩;refine O.q 1 rfl<|O.nil<|S.seq<|S.region rfl<|O.op (.p rfl) (.jb rfl rfl)<|O.q 1 rfl<|O.nil ?_;exact S.rt results102 rfl hR ⟨_,_,rfl,rfl⟩
theorem MN {r:Fr} {b:Nat} {xs:List UInt8} (h0:0<xs.length):ay prog 104 #[.pointer (some ⟨b,0,none⟩)] r [jD 142 5 b xs] (aL fun v U=>v=.string (str xs)∧U=[]):=by
 refine ay.of (n:=14) _ rfl func104 rfl rfl rfl fun g hg R hR=>?_;refine S.open (bs:=fun x:BK b=>[obj b 142 [.pointer x.p,x.v],av ag.u8 5 x.v xs]) .here (fun m h=>jD.jc h) fun ⟨p,v,_⟩=>?_;simp only [List.cons_append,List.nil_append];refine S.lV (.there .here) (fun _ x=>x.shape) fun ⟨a,c,hv⟩=>?_;subst hv;refine S.lV (.there .here) (fun _ x=>x.vZ ah) fun ⟨⟨b',hb⟩,_,hc1,qP⟩=>?_;subst hb;refine S.ep (A:=obj b 142 [.pointer p,.slice (some ⟨b',0,none⟩) xs.length c]) ai fun g hs hm ⟨_,x',s'⟩=>?_;have ho:=(fun s x=>(ga x).mono s) s' x';clear x' s';replace hg:=Fr.aI hg hs;replace hR:=bu hR hm;clear hs hm;refine S.seq<|S.region rfl<|O.q 1 rfl<|O.nil<|S.seq<|S.bC (L:=[0,1,2,3,5,6,7,8,9,4,10,11]) bz aa<|af.q 1 rfl<|.quiet (.p rfl) rfl (fun _=>.nilCheck rfl)<|.quiet (.p rfl) rfl (fun _=>.fieldAddr zC rfl)<|.quiet (.p rfl) rfl (fun _=>.loadAt bl rfl (ho.drop 1) rfl) ?_;refine af.q 1 rfl<|.quiet (.p rfl) rfl (fun _=>.nilCheck rfl)<|.quiet (.p rfl) rfl (fun _=>.fieldAddr zC rfl)<|.quiet (.p rfl) rfl (fun _=>.loadAt bl rfl (ho.drop 1) rfl) ?_;refine .quiet (.p rfl) rfl (fun _=>.len rfl underlying24 rfl)<|.quiet (.p rfl) rfl (fun _=>.W3 rfl ah)<|af.Bp (xs:=xs) (.p rfl) aa underlying239 aa rfl ⟨b',_,_,rfl,rfl⟩ rfl ai rfl ah ?_;refine af.q 1 rfl<|aJ.nil ?_
 exact S.rt results104 rfl hR ⟨rfl,rfl⟩
theorem nU {r:Fr} {s:List UInt8} (hH:At r ⟨0,0,none⟩ (bW ev)) (hK:At r ⟨1,0,none⟩ (bW gq)) (hs:s.length≤10000000000) :
  ay prog 37 #[.string (str s)] r [] (aL fun v U=>v=.string (str (bq s))∧U=[]):=by
 have gl:=EZ s;refine ay.of (n:=15) _ rfl func37 rfl rfl rfl fun g hg R hR=>?_;have hH:=hH.mono hg;have hK:=hK.mono hg;refine S.seq<|S.region rfl<|O.q 1 rfl<|O.nil<|S.seq<|S.region rfl<|O.aN (.p rfl) (.alloc (cs:=[.pointer none,.slice none 0 0]) zeroValue142 rfl) ?_;rintro _ _ ⟨b3,rfl,rfl⟩;refine O.nil<|S.seq<|S.seq<|S.region rfl<|O.q 1 rfl<|O.aC (.p rfl) rfl aa rfl rfl ((LC hH hK ah)) ?_;rintro _ _ ⟨fU,rfl,rfl⟩
 try simp only [an,aq,au]
 refine O.op (.p rfl) (.nilCheck rfl)<|O.op (.p rfl) (.fieldAddr CW rfl)<|O.aC (.p rfl) rfl aa rfl rfl ((M0)) ?_;rintro _ _ ⟨rH,aZ,rfl,rfl⟩
 try simp only [an,aq,au]
 refine O.nil<|S.gd (T:=ag.u8) (e:=5) ?_;refine S.ct (A:=jD 142 5 b3 []) (bs:=[obj b3 142 [.pointer none,.slice none 0 0],av ag.u8 5 (.slice none 0 0) []]) aW (fun m h=>jD.fold (.inl rfl) h) ?_;refine S.ep (A:=obj fU 151 ((lE s).map bK)) ai fun g hs hm ⟨_,x',s'⟩=>?_;have hd:=(fun s x=>(ga x).mono s) s' x';clear x' s';replace hg:=Fr.aI hg hs;replace hR:=bu hR hm
 try replace hH:=hH.mono hs
 try replace hK:=hK.mono hs
 clear hs hm;refine S.ep (A:=obj rH 3 [.int .i64 2]) ai fun g hs hm ⟨_,x',s'⟩=>?_;have hf:=(fun s x=>(ga x).mono s) s' x';clear x' s';replace hg:=Fr.aI hg hs;replace hR:=bu hR hm
 try replace hH:=hH.mono hs
 try replace hK:=hK.mono hs
 try replace hd:=hd.mono hs
 clear hs hm;refine S.ep (A:=obj aZ 234 [.pointer (some ⟨fU,0,none⟩)]) ai fun g hs hm ⟨_,x',s'⟩=>?_;have hp:=(fun s x=>(ga x).mono s) s' x';clear x' s';replace hg:=Fr.aI hg hs;replace hR:=bu hR hm
 try replace hH:=hH.mono hs
 try replace hK:=hK.mono hs
 try replace hd:=hd.mono hs
 try replace hf:=hf.mono hs
 clear hs hm;refine S.block<|S.Vu (vU:=[10]) (β:=UInt8) (BE:=Unit) (dF:=Unit) (vs:=fun y _=>[bK y]) (own:=fun _ _=>[]) (aO:=[]) (uO :=[]) (fun bf=>∃ k,k<510∧bf=oS (lE s) (k+1)) (fun ys=>ys=oS (lE s) 510) (fun bf _=>[jD 142 5 b3 (bf.map (48+·))]) () rfl aa rfl (fun _ _=>rfl) aa (fun l J hy=>ay.mono (MX hf hp hd gl (fun bf y hok=>hy bf y () hok)) (aL.imp fun _ _ h=>⟨_,rfl,h⟩)) aW (fun l jg o5 tm done y e t hpre g qQ R hR=>?_) (fun jg t ys lB=>?_)
 ·simp only [under,List.cons_append,List.nil_append]
  replace hg:=Fr.aI hg qQ
  try replace hH:=hH.mono qQ
  try replace hK:=hK.mono qQ
  try replace hd:=hd.mono qQ
  try replace hf:=hf.mono qQ
  try replace hp:=hp.mono qQ
  try replace hd:=hd.mono qQ
  try replace hf:=hf.mono qQ
  try replace hp:=hp.mono qQ
  obtain ⟨kk,hkk,hdn⟩:=hpre;have mM:(done++[y]).length=kk+1:=by rw [hdn];simp [oS]
  rw [List.length_append,List.length_singleton] at mM;refine S.region rfl<|O.q 1 rfl<|O.nil<|S.beginRound ai rfl<|S.block<|S.region rfl<|O.q 1 rfl<|O.aN (.p rfl) (.cA (T:=ag.u8) (ys:=[y]) underlying24 eT aB rfl rfl ⟨rfl,trivial⟩ aB) ?_;rintro _ _ ⟨a12,jI,rfl,rfl⟩;refine O.eO (.p rfl) rfl aa rfl rfl (bs:=[jD 142 5 b3 (done.map (48+·)),av ag.u8 5 (.slice a12 1 jI) [y]]) aW (ay.x2 (U:=[jD 142 5 b3 (done.map (48+·))]) (bs:=[av ag.u8 5 (.slice a12 1 jI) [y]]) (fun m hm hd=>WY ((Sat.arr hm).mono (Fr.dB hd)) b9)) ?_;rintro _ _ ⟨rfl,rfl⟩
  try simp only [an,aq,au]
  refine O.nil<|S.inBlock<|S.Wa ai fun w hw=>hR () w ?_;rw [List.map_append];exact hw.jP jf
 ·simp only [an,aq,au]
  subst lB;rw [MZ];refine S.inBlock<|S.seq<|S.region rfl<|O.bM (.p rfl) rfl aa rfl rfl ai (MN (by rw [kO];decide)) ?_;rintro _ _ ⟨rfl,rfl⟩
  try simp only [an,aq,au]
  refine O.q 1 rfl<|O.nil<|S.V4 (.inr ⟨_,rfl⟩) (.cons ai .nil) results37 (.tmp rfl) fun w hw=>?_;exact Holds.end_ hR hw ⟨_,⟨rfl,rfl⟩,by repeat (first|exact aS|exact aU|(apply aT;focus (repeat (first|exact aR|apply zt)))|apply aV)⟩
attribute [local irreducible] bN bw
theorem Sh {r:Fr} {va:Value} {xs:List aD} {f:FuncId} {first cap:Array Value} (ha:aj bP r va xs) (hc:dG prog f=true) (q:aD→Bool)
  (con:∀ cs x,x∈xs→bP.rel r cs x→ay prog f (first++#[.agg cs.toArray]++cap) r [] (aL fun v U=>v=.bool (q x)∧U=[])) :
  ay prog 285 #[va,.func (.func f) first cap] r [] (aL fun v U=>∃ k:Int,v=.int .i64 k∧(0≤k↔xs.any q=true)∧U=[]):=by
 have har:=ha;refine ay.of (n:=19) [va,.func (.func f) first cap] rfl func285 rfl rfl rfl fun g hg R hR=>?_;have ha:=ha.mono hg;have hbd:=ha.bound;obtain ⟨a1,c1,rfl⟩:=ha.shape;refine S.seq<|S.region rfl<|O.q 1 rfl<|O.nil<|S.seq<|S.seq<|S.region rfl<|O.q 1 rfl<|O.op (.p rfl) (.len rfl underlying25 rfl)<|O.q 1 rfl<|O.nil<|S.block<|S.eM (ι:=Nat) (fun i=>i≤xs.length∧(xs.take i).any q=false) (fun i=>[(8,.int .i64 (i:Int))]) [(0,_),(1,_),(7,_)] (fun i=>[]) (fun i=>xs.length - i) (0) (by exact ⟨by simp,by simp⟩) (.cons rfl (.nil)) (.cons rfl (.cons rfl (.cons rfl (.nil)))) rfl fun i hx ih=>?_;have bh:=cH (g:=g);obtain ⟨hx1,hx2⟩:=hx;refine S.seq<|S.region rfl<|O.op (.p rfl) (.lss rfl rfl)<|O.nil (S.seq ?_)
 first|refine S.cm rfl (fun h9=>?_) (fun h9=>?_)|refine S.b_ rfl (fun h9=>?_) (fun h9=>?_)
 ·have hi:i<xs.length:=by omega
  cases e:q xs[i] with
  |true =>
   have hy:xs.any q=true:=List.any_eq_true.2 ⟨xs[i],List.getElem_mem hi,e⟩;clear ih;refine S.skip<|S.seq<|S.block<|S.seq<|S.region rfl<|O.q 2 rfl<|O.nil<|S.seq<|S.region rfl<|O.q 3 rfl<|O.ib (.p rfl) underlying25 cQ rfl rfl rfl har hg (h:=fun sw s9 kX mc=>?_);have kY:=ag.rel.mono mc hg;obtain ⟨Tf,Tj,rfl,D2,O4⟩:=bP.sh kY;refine O.op (.p rfl) (.bE isAgg31 aa rfl kX) ?_;refine O.aC (.p rfl) rfl hc rfl rfl (((con _ _ (List.getElem_mem hi) mc).sub hg)) ?_;rintro _ _ ⟨rfl,rfl⟩
   try simp only [an,aq,au]
   refine O.sT 16 rfl (by exact e) ?_;refine O.nil<|S.bx rfl<|S.seq<|S.region rfl<|O.q 2 rfl<|O.nil ?_;exact S.rt results285 rfl hR ⟨(i:Int),rfl,⟨fun _=>hy,fun _=>by omega⟩,rfl⟩
  |false =>
   refine S.skip<|S.seq<|S.block<|S.seq<|S.region rfl<|O.q 2 rfl<|O.nil<|S.seq<|S.region rfl<|O.q 3 rfl<|O.ib (.p rfl) underlying25 cQ rfl rfl rfl har hg (h:=fun sw s9 kX mc=>?_);have kY:=ag.rel.mono mc hg;obtain ⟨Tf,Tj,rfl,D2,O4⟩:=bP.sh kY;refine O.op (.p rfl) (.bE isAgg31 aa rfl kX) ?_;refine O.aC (.p rfl) rfl hc rfl rfl (((con _ _ (List.getElem_mem hi) mc).sub hg)) ?_;rintro _ _ ⟨rfl,rfl⟩
   try simp only [an,aq,au]
   refine O.aM 16 rfl (by exact e) ?_;refine O.nil<|S.aQ rfl<|S.skip<|S.inBlock<|S.region rfl<|O.op (.p rfl) (.add rfl rfl (IntWalk.i64_in _ ah))<|O.q 1 rfl<|O.nil ?_;exact S.dD (ih (i+1) (by exact ⟨by omega,by rw [List.take_succ_eq_append_getElem hi,List.any_append,hx2];simp [e]⟩) ah)
 ·clear ih
  have hi:i=xs.length:=by omega
  subst hi;rw [List.take_length] at hx2;refine S.exit rfl<|S.seq<|S.region rfl<|O.q 1 rfl<|O.nil ?_;exact S.rt results285 rfl hR ⟨-1,rfl,⟨fun h=>absurd h aB,fun h=>by rw [hx2] at h;cases h⟩,rfl⟩
theorem CA {r:Fr} {va:Value} {xs:List aD} {f:FuncId} {first cap:Array Value} (ha:aj bP r va xs) (hc:dG prog f=true) (q:aD→Bool)
  (con:∀ cs x,x∈xs→bP.rel r cs x→ay prog f (first++#[.agg cs.toArray]++cap) r [] (aL fun v U=>v=.bool (q x)∧U=[])) (h1:(Value.func (.func f) first cap).oneCell' =true) :
  ay prog 207 #[va,.func (.func f) first cap] r [] (aL fun v U=>v=.bool (xs.any q)∧U=[]):=by
 refine ay.of (n:=9) [va,.func (.func f) first cap] rfl func207 rfl rfl rfl fun g hg R hR=>?_;refine S.seq<|S.region rfl<|O.q 1 rfl<|O.nil<|S.seq<|S.region rfl<|O.q 2 rfl<|O.aC (.p rfl) rfl aa rfl rfl (((Sh ha hc q con).sub hg)) ?_;rintro mB _ ⟨S9,rfl,DS,rfl⟩
 try simp only [an,aq,au]
 refine O.op (.p rfl) (.geq rfl rfl)<|O.q 1 rfl<|O.nil ?_;exact S.rt results207 rfl hR ⟨congrArg _ (by rw [Bool.eq_iff_iff,decide_eq_true_iff];exact DS),rfl⟩
def mZ (s:Nat) (p key:List UInt8):Bool:=decide (pQ key=s) && p.isPrefixOf (bq key)
theorem WB {r:Fr} {b s:Nat} {L:List aD} {key p:List UInt8} (hA:kr r b s L) (hH:At r ⟨0,0,none⟩ (bW ev)) (hK:At r ⟨1,0,none⟩ (bW gq)) (hk:key.length≤10000000000) (hp:p.length≤1000000000) :
  ay prog 209 #[.agg #[.pointer (some ⟨b,0,none⟩)],.string (str key),.string (str p)] r [] (aL fun v U=>v=.bool (mZ s p key)∧U=[]):=by
 refine ay.of (n:=19) _ rfl func209 rfl rfl rfl fun g hg R hR=>?_;have hA:=hA.mono hg;have hH:=hH.mono hg;have hK:=hK.mono hg
 by_cases q:pQ key=s
 ·have e0:mZ s p key=p.isPrefixOf (bq key):=by unfold mZ;rw [decide_eq_true q,Bool.true_and]
  refine S.seq<|S.region rfl<|O.aN (.p rfl) (.box (cs:=[_]) rfl rfl) ?_;rintro _ _ ⟨b3,rfl,rfl⟩;refine O.q 1 rfl<|O.nil<|S.seq<|S.dx (b:=b3) (cs' :=[.pointer (some ⟨b,0,none⟩)]) ai rfl ?_;refine S.de ai fun g hs hm h3=>?_;replace hg:=Fr.aI hg hs;replace hR:=bu hR hm
  try replace hA:=hA.mono hs
  try replace hH:=hH.mono hs
  try replace hK:=hK.mono hs
  clear hs hm;refine S.bC (L:=[0,2,3,1,4,5,6,7,9,8,10,11,12]) bz aa ?_;refine af.q 1 rfl<|.quiet (.p rfl) rfl (fun _=>.fieldAddr wZ rfl)<|.quiet (.p rfl) rfl (fun _=>.loadAt o6 rfl h3 rfl) ?_;refine af.aC (.p rfl) aa rfl aa rfl rfl ((sG hH hK hk)) ?_;rintro _ _ ⟨rfl,rfl⟩
  try simp only [an,aq,au]
  refine af.aC (.p rfl) aa rfl aa rfl rfl ((yB hA)) ?_;rintro _ _ ⟨rfl,rfl⟩
  try simp only [an,aq,au]
  refine .quiet (.p rfl) rfl (fun _=>.eql rfl rfl)<|af.sT 12 rfl (by exact decide_eq_true ah) ?_;refine af.q 3 rfl<|af.aC (.g rfl rfl) aa rfl aa rfl rfl ((nU hH hK hk)) ?_;rintro _ _ ⟨rfl,rfl⟩
  try simp only [an,aq,au]
  refine af.aC (.g rfl rfl) aa rfl aa rfl rfl ((xe bL ah)) ?_;rintro _ _ ⟨rfl,rfl⟩
  try simp only [an,aq,au]
  refine af.q 2 rfl<|aJ.nil ?_;exact S.rt results209 rfl hR ⟨congrArg Value.bool e0.symm,rfl⟩
 ·have e0:mZ s p key=false:=by unfold mZ;rw [decide_eq_false q,Bool.false_and]
  refine S.seq<|S.region rfl<|O.aN (.p rfl) (.box (cs:=[_]) rfl rfl) ?_;rintro _ _ ⟨b3,rfl,rfl⟩;refine O.q 1 rfl<|O.nil<|S.seq<|S.dx (b:=b3) (cs' :=[.pointer (some ⟨b,0,none⟩)]) ai rfl ?_;refine S.de ai fun g hs hm h3=>?_;replace hg:=Fr.aI hg hs;replace hR:=bu hR hm
  try replace hA:=hA.mono hs
  try replace hH:=hH.mono hs
  try replace hK:=hK.mono hs
  clear hs hm;refine S.bC (L:=[0,2,3,1,4,5,6,7,9,8,10,11,12]) bz aa ?_;refine af.q 1 rfl<|.quiet (.p rfl) rfl (fun _=>.fieldAddr wZ rfl)<|.quiet (.p rfl) rfl (fun _=>.loadAt o6 rfl h3 rfl) ?_;refine af.aC (.p rfl) aa rfl aa rfl rfl ((sG hH hK hk)) ?_;rintro _ _ ⟨rfl,rfl⟩
  try simp only [an,aq,au]
  refine af.aC (.p rfl) aa rfl aa rfl rfl ((yB hA)) ?_;rintro _ _ ⟨rfl,rfl⟩
  try simp only [an,aq,au]
  refine .quiet (.p rfl) rfl (fun _=>.eql rfl rfl)<|af.aM 12 rfl (by exact decide_eq_false ah) ?_;refine af.q 7 rfl<|aJ.nil ?_;exact S.rt results209 rfl hR ⟨congrArg Value.bool e0.symm,rfl⟩
theorem CS {r:Fr} {Hi bv aZ bI s:Nat} {L:List aD} {p:List UInt8} {v1 v2 v3 v4:Value} {e:aD} {cs:List Value} (he:bP.rel r cs e) (h1:At r ⟨Hi,0,none⟩ [.pointer (some ⟨aZ,0,none⟩)]) (h2:At r ⟨bv,0,none⟩ [.string (str p)]) (hP:At r ⟨aZ,0,none⟩ [.pointer (some ⟨bI,0,none⟩),v1,v2,v3,v4]) (hA:kr r bI s L)
  (hH:At r ⟨0,0,none⟩ (bW ev)) (hK:At r ⟨1,0,none⟩ (bW gq)) (hk:e.1.length≤10000000000) (hp:p.length≤1000000000) :
  ay prog 208 #[.agg cs.toArray,.pointer (some ⟨Hi,0,none⟩),.pointer (some ⟨bv,0,none⟩)] r [] (aL fun v U=>v=.bool (!mZ s p e.1)∧U=[]):=by
 obtain ⟨l1,m1,rfl,l2,l3⟩:=bP.sh he;refine ay.of (n:=14) _ rfl func208 rfl rfl rfl fun g hg R hR=>?_;have h1:=h1.mono hg;have h2:=h2.mono hg;have hP:=hP.mono hg;have hA:=hA.mono hg;have hH:=hH.mono hg;have hK:=hK.mono hg;refine S.seq<|S.region rfl<|O.aN (.p rfl) (.box (cs:=[_,_]) rfl rfl) ?_;rintro _ _ ⟨b3,rfl,rfl⟩;refine O.q 1 rfl<|O.nil<|S.seq<|S.dx (b:=b3) (cs' :=[.string (str e.1),.slice l1 e.2.1.length m1]) ai rfl ?_;refine S.de ai fun g hs hm h3=>?_;replace hg:=Fr.aI hg hs;replace hR:=bu hR hm
 try replace h1:=h1.mono hs
 try replace h2:=h2.mono hs
 try replace hP:=hP.mono hs
 try replace hA:=hA.mono hs
 try replace hH:=hH.mono hs
 try replace hK:=hK.mono hs
 clear hs hm;refine S.bC (L:=[0,1,2,3,4,5,6,7,8,9]) bz aa ?_;refine .quiet (.p rfl) rfl (fun _=>.loadAt Ox rfl h1 rfl) ?_;refine .quiet (.p rfl) rfl (fun _=>.nilCheck rfl)<|.quiet (.p rfl) rfl (fun _=>.fieldAddr vl rfl)<|.quiet (.p rfl) rfl (fun _=>.bE (cs:=[_]) isAgg85 aa rfl (hP.take 1)) ?_;refine .quiet (.p rfl) rfl (fun _=>.fieldAddr ef rfl)<|.quiet (.p rfl) rfl (fun _=>.loadAt bQ rfl h3 rfl) ?_;refine .quiet (.p rfl) rfl (fun _=>.loadAt bQ rfl h2 rfl) ?_;refine af.aC (.p rfl) aa rfl aa rfl rfl ((WB hA hH hK hk hp)) ?_;rintro _ _ ⟨rfl,rfl⟩
 try simp only [an,aq,au]
 refine .quiet (.p rfl) rfl (fun _=>(by first|exact .mg rfl|exact .not rfl)) ?_;refine af.q 1 rfl<|aJ.nil ?_;exact S.rt results208 rfl hR ⟨rfl,rfl⟩
def rN (s:Nat) (p xs:List UInt8) (x:ed):Prop:=gB x∧iB x=xs∧¬ (x.1=3∧p.length=510)∧¬ (x.1=4∧p.length≠510)∧∀ e∈x.2.2.2.1,mZ s p e.1=true
noncomputable instance (s:Nat) (p xs:List UInt8) (x:ed):Decidable (rN s p xs x):=Classical.propDecidable _
theorem Ou {s:Nat} {p xs:List UInt8} {x:ed} (h1:gB x) (h2:iB x=xs) (h3:¬ (x.1=3∧p.length=510)) (h4:¬ (x.1=4∧p.length≠510)):(x.2.2.2.1.any fun e=>!mZ s p e.1)=!decide (rN s p xs x):=by
 rw [Bool.eq_iff_iff,List.any_eq_true]
 constructor
 ·rintro ⟨e,he,h⟩
  rw [Bool.not_eq_true'] at h ⊢;rw [decide_eq_false_iff_not]
  intro w
  rw [w.2.2.2.2 e he] at h
  cases h
 ·intro h
  rw [Bool.not_eq_true',decide_eq_false_iff_not] at h;refine Classical.byContradiction fun hc=>h ⟨h1,h2,h3,h4,fun e he=>?_⟩
  cases u:mZ s p e.1
  ·exact (hc ⟨e,he,by rw [u];rfl⟩).elim
  ·rfl
theorem Ws {r:Fr} {aZ bI s:Nat} {L:List aD} {p xs:List UInt8} {v1 v2 v3 v4 vs:Value} {cs:List Value} {x:ed} (hP:At r ⟨aZ,0,none⟩ [.pointer (some ⟨bI,0,none⟩),v1,v2,v3,v4]) (hA:kr r bI s L) (hs:aj ag.u8 r vs xs) (h:jV.rel r cs x) (hx0:x.2.1.length≤1000000000000∧x.2.2.1.length≤1000000000000) (hx2:x.2.2.2.1.length≤10000000∧∀ y∈x.2.2.2.1,y.2.1.length≤10000000) (hxs:xs.length=64)
  (hH:At r ⟨0,0,none⟩ (bW ev)) (hK:At r ⟨1,0,none⟩ (bW gq)) (hp:p.length≤1000000000) :
  ay prog 124 #[.pointer (some ⟨aZ,0,none⟩),.string (str p),vs,.agg cs.toArray] r [] (aL fun v U=>v=.bool (decide (rN s p xs x))∧U=[]):=by
 have h0:=h;obtain ⟨yN,Bu,iH,yO,Bw,iI,rfl,k1,k2,bk⟩:=jV.sh h;obtain ⟨a2,c2,rfl⟩:=hs.shape;have hps:(str p).size=p.length:=sJ p;refine ay.of (n:=41) _ rfl func124 rfl rfl rfl fun g hg R hR=>?_;have hP:=hP.mono hg;have hA:=hA.mono hg;have hs:=hs.mono hg;have h0:=h0.mono hg;have k1:=k1.mono hg;have k2:=k2.mono hg;have bk:=bk.mono hg;have hH:=hH.mono hg;have hK:=hK.mono hg;refine S.seq<|S.region rfl<|O.aN (.p rfl) (.box (cs:=[_]) rfl rfl) ?_;rintro _ _ ⟨b4,rfl,rfl⟩;refine O.aN (.p rfl) (.box (cs:=[_]) rfl rfl) ?_;rintro _ _ ⟨iN,rfl,rfl⟩;refine O.aN (.p rfl) (.box (cs:=[_,_,_,_]) rfl rfl) ?_;rintro _ _ ⟨oQ,rfl,rfl⟩;refine O.q 1 rfl<|O.nil<|S.seq<|S.dx (b:=oQ) (cs' :=[bK x.1,.slice yN x.2.1.length yO,.slice Bu x.2.2.1.length Bw,.slice iH x.2.2.2.1.length iI]) ai rfl ?_;refine S.de ai fun g hs hm h7=>?_;replace hg:=Fr.aI hg hs;replace hR:=bu hR hm
 try replace hP:=hP.mono hs
 try replace hA:=hA.mono hs
 try replace hs:=hs.mono hs
 try replace h0:=h0.mono hs
 try replace k1:=k1.mono hs
 try replace k2:=k2.mono hs
 try replace bk:=bk.mono hs
 try replace hH:=hH.mono hs
 try replace hK:=hK.mono hs
 clear hs hm;refine S.de ai fun g hs hm h5=>?_;replace hg:=Fr.aI hg hs;replace hR:=bu hR hm
 try replace hP:=hP.mono hs
 try replace hA:=hA.mono hs
 try replace hs:=hs.mono hs
 try replace h0:=h0.mono hs
 try replace k1:=k1.mono hs
 try replace k2:=k2.mono hs
 try replace bk:=bk.mono hs
 try replace hH:=hH.mono hs
 try replace hK:=hK.mono hs
 try replace h7:=h7.mono hs
 clear hs hm;refine S.de ai fun g hs hm h4=>?_;replace hg:=Fr.aI hg hs;replace hR:=bu hR hm
 try replace hP:=hP.mono hs
 try replace hA:=hA.mono hs
 try replace hs:=hs.mono hs
 try replace h0:=h0.mono hs
 try replace k1:=k1.mono hs
 try replace k2:=k2.mono hs
 try replace bk:=bk.mono hs
 try replace hH:=hH.mono hs
 try replace hK:=hK.mono hs
 try replace h7:=h7.mono hs
 try replace h5:=h5.mono hs
 clear hs hm;refine S.region rfl<|O.op (.p rfl) (.bE isAgg27 aa rfl h7) ?_;refine O.aC (.p rfl) rfl aa rfl rfl ((Kl h0 hx0 hx2 hH hK)) ?_;rintro _ _ ⟨k8,n_,rfl,rfl⟩
 try simp only [an,aq,au]
 refine O.q 1 rfl<|O.nil<|S.seq<|S.fo ai fun g hs hm hS=>?_;replace hg:=Fr.aI hg hs;replace hR:=bu hR hm
 try replace hP:=hP.mono hs
 try replace hA:=hA.mono hs
 try replace hs:=hs.mono hs
 try replace h0:=h0.mono hs
 try replace k1:=k1.mono hs
 try replace k2:=k2.mono hs
 try replace bk:=bk.mono hs
 try replace hH:=hH.mono hs
 try replace hK:=hK.mono hs
 try replace h7:=h7.mono hs
 try replace h5:=h5.mono hs
 try replace h4:=h4.mono hs
 clear hs hm
 by_cases g1:iB x=xs
 ·have g0:gB x:=(AF x).1 (by rw [g1];exact hxs)
  cases k8 with
  |none =>
   obtain ⟨e1,_,_⟩:=aj.ya aB hS;rw [g1] at e1;rw [e1] at hxs;exact absurd hxs aB
  |some k8 =>
   by_cases g3:x.1=3∧p.length=510
   ·have e:decide (rN s p xs x)=false:=decide_eq_false fun q=>q.2.2.1 g3
    refine S.block<|S.seq<|S.seq<|S.region rfl<|O.q 1 rfl<|O.op (.p rfl) (.nx underlying24 rfl rfl)<|O.aM 14 rfl aK ?_;refine O.q 1 rfl<|O.nil<|S.aQ rfl<|S.region rfl<|O.q 2 rfl<|O.aC (.p rfl) rfl aa rfl rfl (oR (by first|assumption|exact aj.mono hg zE|exact aj.left zE|exact aj.left (aj.mono hg zE)) (by first|assumption|exact aj.mono hg zE|exact aj.left zE|exact aj.left (aj.mono hg zE))) ?_;rintro _ _ ⟨rfl,rfl⟩
    try simp only [an,aq,au]
    refine O.sT 17 rfl (by exact decide_eq_true g1) ?_;refine O.op (.p rfl) (.not rfl)<|O.q 1 rfl<|O.nil<|S.aQ rfl<|S.seq<|S.seq<|S.region rfl<|O.op (.p rfl) (.fieldAddr eR rfl)<|O.op (.p rfl) (.loadAt eP rfl h7 rfl) ?_;refine O.op (.p rfl) (.eql rfl rfl)<|O.sT 22 rfl (by rw [g3.1];rfl) ?_;refine O.q 1 rfl<|O.op (.g rfl rfl) (.loadAt bQ rfl h5 rfl) ?_;refine O.op (.g rfl rfl) (.c5 rfl underlying9 rfl)<|O.op (.g rfl rfl) (.eql rfl rfl)<|O.sT 26 rfl (by exact decide_eq_true b9) ?_;refine O.q 2 rfl<|O.nil<|S.bx rfl<|S.skip<|S.bx rfl<|S.seq<|S.region rfl<|O.q 1 rfl<|O.nil ?_;exact S.rt results124 rfl hR ⟨congrArg Value.bool e.symm,rfl⟩
   ·by_cases g4:x.1=4∧p.length≠510
    ·have e:decide (rN s p xs x)=false:=decide_eq_false fun q=>q.2.2.2.1 g4
     refine S.block<|S.seq<|S.seq<|S.region rfl<|O.q 1 rfl<|O.op (.p rfl) (.nx underlying24 rfl rfl)<|O.aM 14 rfl aK ?_;refine O.q 1 rfl<|O.nil<|S.aQ rfl<|S.region rfl<|O.q 2 rfl<|O.aC (.p rfl) rfl aa rfl rfl (oR (by first|assumption|exact aj.mono hg zE|exact aj.left zE|exact aj.left (aj.mono hg zE)) (by first|assumption|exact aj.mono hg zE|exact aj.left zE|exact aj.left (aj.mono hg zE))) ?_;rintro _ _ ⟨rfl,rfl⟩
     try simp only [an,aq,au]
     refine O.sT 17 rfl (by exact decide_eq_true g1) ?_;refine O.op (.p rfl) (.not rfl)<|O.q 1 rfl<|O.nil<|S.aQ rfl<|S.seq<|S.seq<|S.region rfl<|O.op (.p rfl) (.fieldAddr eR rfl)<|O.op (.p rfl) (.loadAt eP rfl h7 rfl) ?_;refine O.op (.p rfl) (.eql rfl rfl)<|O.aM 22 rfl (by rw [g4.1];rfl) ?_;refine O.q 6 rfl<|O.nil<|S.aQ rfl<|S.region rfl<|O.op (.p rfl) (.fieldAddr eR rfl)<|O.op (.p rfl) (.loadAt eP rfl h7 rfl) ?_;refine O.op (.p rfl) (.eql rfl rfl)<|O.sT 30 rfl (by rw [g4.1];rfl) ?_;refine O.q 1 rfl<|O.op (.g rfl rfl) (.loadAt bQ rfl h5 rfl) ?_;refine O.op (.g rfl rfl) (.c5 rfl underlying9 rfl)<|O.op (.g rfl rfl) (.neq rfl rfl)<|O.sT 34 rfl (by exact decide_eq_true b9) ?_;refine O.q 2 rfl<|O.nil<|S.bx rfl<|S.seq<|S.region rfl<|O.q 1 rfl<|O.nil ?_;exact S.rt results124 rfl hR ⟨congrArg Value.bool e.symm,rfl⟩
    ·have xd:=Ou (s:=s) g0 g1 g3 g4
     have hl:∀ y∈x.2.2.2.1,y.1.length≤64:=fun y hy=>(g0.1.1 y hy).1.2
     by_cases cM:x.1=3
     ·
      refine S.block<|S.seq<|S.seq<|S.region rfl<|O.q 1 rfl<|O.op (.p rfl) (.nx underlying24 rfl rfl)<|O.aM 14 rfl aK ?_;refine O.q 1 rfl<|O.nil<|S.aQ rfl<|S.region rfl<|O.q 2 rfl<|O.aC (.p rfl) rfl aa rfl rfl (oR (by first|assumption|exact aj.mono hg zE|exact aj.left zE|exact aj.left (aj.mono hg zE)) (by first|assumption|exact aj.mono hg zE|exact aj.left zE|exact aj.left (aj.mono hg zE))) ?_;rintro _ _ ⟨rfl,rfl⟩
      try simp only [an,aq,au]
      refine O.sT 17 rfl (by exact decide_eq_true g1) ?_;refine O.op (.p rfl) (.not rfl)<|O.q 1 rfl<|O.nil<|S.aQ rfl<|S.seq<|S.seq<|S.region rfl<|O.op (.p rfl) (.fieldAddr eR rfl)<|O.op (.p rfl) (.loadAt eP rfl h7 rfl) ?_;refine O.op (.p rfl) (.eql rfl rfl)<|O.sT 22 rfl (by rw [cM];rfl) ?_;refine O.q 1 rfl<|O.op (.g rfl rfl) (.loadAt bQ rfl h5 rfl) ?_;refine O.op (.g rfl rfl) (.c5 rfl underlying9 rfl)<|O.op (.g rfl rfl) (.eql rfl rfl)<|O.aM 26 rfl (by exact decide_eq_false (fun q=>g3 ⟨cM,by omega⟩)) ?_;refine O.q 2 rfl<|O.nil<|S.aQ rfl<|S.region rfl<|O.op (.p rfl) (.fieldAddr eR rfl)<|O.op (.p rfl) (.loadAt eP rfl h7 rfl) ?_;refine O.op (.p rfl) (.eql rfl rfl)<|O.aM 30 rfl (by rw [cM];rfl) ?_;refine O.q 6 rfl<|O.nil<|S.aQ rfl<|S.skip<|S.inBlock<|S.seq<|S.region rfl<|O.op (.p rfl) (.fieldAddr nE rfl)<|O.op (.p rfl) (.loadAt dV rfl (h7.drop 3) rfl) ?_;refine O.op (.p rfl) (.jb rfl rfl)<|O.aC (.p rfl) rfl aa rfl rfl ((CA bk aa (fun e=>!mZ s p e.1) (fun cs e hm he=>CS he h4 h5 hP hA hH hK (by have:=hl e hm;omega) hp) rfl)) ?_;rintro _ _ ⟨rfl,rfl⟩
      try simp only [an,aq,au]
      rw [xd];refine O.op (.p rfl) ((by first|exact .mg rfl|exact .not rfl)) ?_;refine O.q 1 rfl<|O.nil ?_;exact S.rt results124 rfl hR ⟨by rw [Bool.not_not],rfl⟩
     ·by_cases nT:x.1=4
      ·
       refine S.block<|S.seq<|S.seq<|S.region rfl<|O.q 1 rfl<|O.op (.p rfl) (.nx underlying24 rfl rfl)<|O.aM 14 rfl aK ?_;refine O.q 1 rfl<|O.nil<|S.aQ rfl<|S.region rfl<|O.q 2 rfl<|O.aC (.p rfl) rfl aa rfl rfl (oR (by first|assumption|exact aj.mono hg zE|exact aj.left zE|exact aj.left (aj.mono hg zE)) (by first|assumption|exact aj.mono hg zE|exact aj.left zE|exact aj.left (aj.mono hg zE))) ?_;rintro _ _ ⟨rfl,rfl⟩
       try simp only [an,aq,au]
       refine O.sT 17 rfl (by exact decide_eq_true g1) ?_;refine O.op (.p rfl) (.not rfl)<|O.q 1 rfl<|O.nil<|S.aQ rfl<|S.seq<|S.seq<|S.region rfl<|O.op (.p rfl) (.fieldAddr eR rfl)<|O.op (.p rfl) (.loadAt eP rfl h7 rfl) ?_;refine O.op (.p rfl) (.eql rfl rfl)<|O.aM 22 rfl (by rw [nT];rfl) ?_;refine O.q 6 rfl<|O.nil<|S.aQ rfl<|S.region rfl<|O.op (.p rfl) (.fieldAddr eR rfl)<|O.op (.p rfl) (.loadAt eP rfl h7 rfl) ?_;refine O.op (.p rfl) (.eql rfl rfl)<|O.sT 30 rfl (by rw [nT];rfl) ?_;refine O.q 1 rfl<|O.op (.g rfl rfl) (.loadAt bQ rfl h5 rfl) ?_;refine O.op (.g rfl rfl) (.c5 rfl underlying9 rfl)<|O.op (.g rfl rfl) (.neq rfl rfl)<|O.aM 34 rfl (by exact decide_eq_false (fun q=>g4 ⟨nT,by omega⟩)) ?_;refine O.q 2 rfl<|O.nil<|S.aQ rfl<|S.skip<|S.inBlock<|S.seq<|S.region rfl<|O.op (.p rfl) (.fieldAddr nE rfl)<|O.op (.p rfl) (.loadAt dV rfl (h7.drop 3) rfl) ?_;refine O.op (.p rfl) (.jb rfl rfl)<|O.aC (.p rfl) rfl aa rfl rfl ((CA bk aa (fun e=>!mZ s p e.1) (fun cs e hm he=>CS he h4 h5 hP hA hH hK (by have:=hl e hm;omega) hp) rfl)) ?_;rintro _ _ ⟨rfl,rfl⟩
       try simp only [an,aq,au]
       rw [xd];refine O.op (.p rfl) ((by first|exact .mg rfl|exact .not rfl)) ?_;refine O.q 1 rfl<|O.nil ?_;exact S.rt results124 rfl hR ⟨by rw [Bool.not_not],rfl⟩
      ·
       refine S.block<|S.seq<|S.seq<|S.region rfl<|O.q 1 rfl<|O.op (.p rfl) (.nx underlying24 rfl rfl)<|O.aM 14 rfl aK ?_;refine O.q 1 rfl<|O.nil<|S.aQ rfl<|S.region rfl<|O.q 2 rfl<|O.aC (.p rfl) rfl aa rfl rfl (oR (by first|assumption|exact aj.mono hg zE|exact aj.left zE|exact aj.left (aj.mono hg zE)) (by first|assumption|exact aj.mono hg zE|exact aj.left zE|exact aj.left (aj.mono hg zE))) ?_;rintro _ _ ⟨rfl,rfl⟩
       try simp only [an,aq,au]
       refine O.sT 17 rfl (by exact decide_eq_true g1) ?_;refine O.op (.p rfl) (.not rfl)<|O.q 1 rfl<|O.nil<|S.aQ rfl<|S.seq<|S.seq<|S.region rfl<|O.op (.p rfl) (.fieldAddr eR rfl)<|O.op (.p rfl) (.loadAt eP rfl h7 rfl) ?_;refine O.op (.p rfl) (.eql rfl rfl)<|O.aM 22 rfl (by exact decide_eq_false (fun q=>cM (oT.1 q))) ?_;refine O.q 6 rfl<|O.nil<|S.aQ rfl<|S.region rfl<|O.op (.p rfl) (.fieldAddr eR rfl)<|O.op (.p rfl) (.loadAt eP rfl h7 rfl) ?_;refine O.op (.p rfl) (.eql rfl rfl)<|O.aM 30 rfl (by exact decide_eq_false (fun q=>nT (oT.1 q))) ?_;refine O.q 6 rfl<|O.nil<|S.aQ rfl<|S.skip<|S.inBlock<|S.seq<|S.region rfl<|O.op (.p rfl) (.fieldAddr nE rfl)<|O.op (.p rfl) (.loadAt dV rfl (h7.drop 3) rfl) ?_;refine O.op (.p rfl) (.jb rfl rfl)<|O.aC (.p rfl) rfl aa rfl rfl ((CA bk aa (fun e=>!mZ s p e.1) (fun cs e hm he=>CS he h4 h5 hP hA hH hK (by have:=hl e hm;omega) hp) rfl)) ?_;rintro _ _ ⟨rfl,rfl⟩
       try simp only [an,aq,au]
       rw [xd];refine O.op (.p rfl) ((by first|exact .mg rfl|exact .not rfl)) ?_;refine O.q 1 rfl<|O.nil ?_;exact S.rt results124 rfl hR ⟨by rw [Bool.not_not],rfl⟩
 ·have e:decide (rN s p xs x)=false:=decide_eq_false fun q=>g1 q.2.1
  cases k8 with
  |none =>
   refine S.block<|S.seq<|S.seq<|S.region rfl<|O.q 1 rfl<|O.op (.p rfl) (.nx underlying24 rfl rfl)<|O.sT 14 rfl aK ?_;refine O.q 1 rfl<|O.nil<|S.bx rfl<|S.skip<|S.bx rfl<|S.seq<|S.region rfl<|O.q 1 rfl<|O.nil ?_;exact S.rt results124 rfl hR ⟨congrArg Value.bool e.symm,rfl⟩
  |some k8 =>
   refine S.block<|S.seq<|S.seq<|S.region rfl<|O.q 1 rfl<|O.op (.p rfl) (.nx underlying24 rfl rfl)<|O.aM 14 rfl aK ?_;refine O.q 1 rfl<|O.nil<|S.aQ rfl<|S.region rfl<|O.q 2 rfl<|O.aC (.p rfl) rfl aa rfl rfl (oR (by first|assumption|exact aj.mono hg zE|exact aj.left zE|exact aj.left (aj.mono hg zE)) (by first|assumption|exact aj.mono hg zE|exact aj.left zE|exact aj.left (aj.mono hg zE))) ?_;rintro _ _ ⟨rfl,rfl⟩
   try simp only [an,aq,au]
   refine O.aM 17 rfl (by exact decide_eq_false g1) ?_;refine O.op (.p rfl) (.not rfl)<|O.q 1 rfl<|O.nil<|S.bx rfl<|S.seq<|S.region rfl<|O.q 1 rfl<|O.nil ?_;exact S.rt results124 rfl hR ⟨congrArg Value.bool e.symm,rfl⟩
theorem oV {r:Fr} {va:Value} {xs:List dz} (ha:aj c_ r va xs) (hl:xs.length≤100000000000) :
  ay prog 125 #[va] r [] (aL fun v U=>∃ a c,v=.slice a xs.length c∧U=[av c_ 191 v xs]):=by
 refine ay.of (n:=8) _ rfl func125 rfl rfl rfl fun g hg R hR=>?_;have ha:=ha.mono hg;obtain ⟨a1,c1,rfl⟩:=ha.shape
 cases a1 with
 |none =>
  refine S.seq<|S.region rfl<|O.q 1 rfl<|O.nil<|S.seq<|S.seq<|S.region rfl<|O.q 1 rfl<|O.op (.p rfl) (.nx underlying100 rfl rfl)<|O.nil<|S.bx rfl<|S.seq<|S.region rfl<|O.q 1 rfl<|O.nil ?_;obtain ⟨rfl,_,rfl⟩:=aj.ya aB ha;refine S.gd (T:=c_) (e:=191) ?_;refine S.ret results125 rfl fun w hw=>hR _ _ w ?_ hw;exact ⟨none,0,rfl,rfl⟩
 |some a1 =>
  refine S.seq<|S.region rfl<|O.q 1 rfl<|O.nil<|S.seq<|S.seq<|S.region rfl<|O.q 1 rfl<|O.op (.p rfl) (.nx underlying100 rfl rfl)<|O.nil<|S.aQ rfl<|S.skip<|S.seq<|S.region rfl<|O.aN (.p rfl) (.cA (T:=c_) (ys:=[]) underlying100 rL aB rfl rfl trivial aB) ?_;rintro _ _ ⟨a5,dS,rfl,rfl⟩;refine O.q 1 rfl<|O.aN (.p rfl) (.mF (T:=c_) UY underlying100 rL aB rfl rfl ai (by first|assumption|exact aj.mono hg zE|exact aj.left zE|exact aj.left (aj.mono hg zE)) bD bD) ?_;rintro _ _ ⟨a7,ir,rfl,rfl⟩;refine O.q 1 rfl<|O.nil<|S.ret results125 rfl fun w hw=>hR _ _ w ?_ hw;exact ⟨a7,ir,by simp,by simp⟩
theorem FA {d g k:Fr} {aZ bI s:Nat} {L:List aD} {cs:List Value} {m:Fr} (hd:d.sub g) (hm:g.cU m) (h:Sat [jq k,obj aZ 89 cs,aY aF d bI s L] m):k.sub (g.add m)∧At (g.add m) ⟨aZ,0,none⟩ cs∧kr (g.add m) bI s L:=by
 obtain ⟨m1,m2,_,s1,s2,o1,m3,m4,_,s3,pP,o2,h3⟩:=h;have e:m1=k:=o1;refine ⟨e ▸ Fr.aI s1 (Fr.dB hm),((ga o2).mono (Fr.aI s3 s2)).mono (Fr.dB hm),?_⟩;obtain ⟨m5,_,_,yx,_,k6,_⟩:=h3;exact aY.a (Fr.aI hd (Fr.dh _ _)) (Fr.aI (Fr.aI yx (Fr.aI pP s2)) (Fr.dB hm)) k6
end Go.Proofs.YtojafegjlahajaaGreatDoor
