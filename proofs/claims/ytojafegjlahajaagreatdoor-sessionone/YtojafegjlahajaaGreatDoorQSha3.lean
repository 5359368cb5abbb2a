/- Texts of this proof. -/
import Derived.Test.YtojafegjlahajaaGreatDoorQEvid1
import Derived.Test.YtojafegjlahajaaGreatDoorQSpCmp
open Go Go.Sp Go.Proofs.Tryz
set_option maxRecDepth 100000
set_option maxHeartbeats 1000000
attribute [local irreducible] obj Own av
namespace Go.Proofs.YtojafegjlahajaaGreatDoor
theorem UP {r:Fr} {a b:List UInt8}:ay prog 169 #[.string (str a),.string (str b)] r [] (aM fun v U=>v=.int .i64 (Lib.compareBytes a b)∧U=[]):=by
 have h1:∀ {r:Fr},ay prog 251 #[.string (str a),.string (str b)] r [] (aM fun v U=>v=.int .i64 (Lib.compareBytes a b)∧U=[]):=by
  intro r
  refine ay.of (n:=8) _ rfl func251 rfl rfl rfl fun g hg R hR=>?_;refine S.seq<|S.region rfl<|O.q 1 rfl<|O.nil<|S.seq<|S.region rfl<|O.q 2 rfl<|O.op (.p rfl) (.Mc func317 aa rfl aa aa rfl rfl rfl)<|O.q 1 rfl<|O.nil ?_;exact S.rt results251 rfl hR ⟨rfl,rfl⟩
 refine ay.of (n:=8) _ rfl func169 rfl rfl rfl fun g hg R hR=>?_;refine S.seq<|S.region rfl<|O.q 1 rfl<|O.nil<|S.seq<|S.region rfl<|O.q 2 rfl<|O.aC (.p rfl) rfl aa rfl rfl (h1) ?_;rintro _ _ ⟨rfl,rfl⟩
 try simp only [an,aq,au]
 refine O.q 1 rfl<|O.nil ?_;exact S.rt results169 rfl hR ⟨rfl,rfl⟩
theorem GR {r:Fr} {k s:List UInt8} {a:Option Addr} {n c:Nat}:ay prog 168 #[.agg #[.string (str k),.slice a n c],.string (str s)] r [] (aM fun v U=>v=.int .i64 (Lib.compareBytes k s)∧U=[]):=by
 refine ay.of (n:=9) _ rfl func168 rfl rfl rfl fun g hg R hR=>?_;refine S.seq<|S.region rfl<|O.aO (.p rfl) (.box (cs:=[_,_]) rfl rfl) ?_;rintro _ _ ⟨b2,rfl,rfl⟩;refine O.q 1 rfl<|O.nil<|S.seq<|S.region rfl<|O.op (.p rfl) (.aF eB rfl)<|O.op (.p rfl) (.lo bV) ?_;refine O.q 1 rfl<|O.aC (.p rfl) rfl aa rfl rfl ((UP)) ?_;rintro _ _ ⟨rfl,rfl⟩
 try simp only [an,aq,au]
 refine O.q 1 rfl<|O.nil ?_;exact S.rt results168 rfl hR ⟨rfl,rfl⟩
theorem LL {r:Fr} {va:Value} {L:List aH} {s:List UInt8} (ha:aj cq r va L) (hr:eT L) (hl:L.length≤1000000000000) :
  ay prog 167 #[va,.string (str s),.func (.func 168) #[] #[]] r [] (aM fun v U=>v=.tuple #[.int .i64 (a_ L s:Int),.bool (decide (mA L s))]∧U=[]):=by
 obtain ⟨a1,c1,rfl⟩:=ha.shape;refine ay.of (n:=49) _ rfl func167 rfl rfl rfl fun g hg R hR=>?_;have ha:=ha.mono hg;have hle:=IS L s;refine S.seq<|S.region rfl<|O.q 2 rfl<|O.nil<|S.seq<|S.region rfl<|O.q 1 rfl<|O.op (.p rfl) (.len rfl underlying25 rfl)<|O.q 1 rfl<|O.nil<|S.seq<|S.region rfl<|O.q 3 rfl<|O.nil<|S.seq<|S.block<|S.jG (ι:=Nat) (dB:=Nat) (fun i j=>i≤a_ L s∧a_ L s≤j∧j≤L.length) (fun i j=>[(9,.int .i64 (i:Int)),(10,.int .i64 (j:Int))]) [(0,_),(1,_),(2,_),(8,_)] (fun i j=>[]) (fun i j=>j - i) (0) (L.length) (by exact ⟨Nat.zero_le _,hle,Nat.le_refl _⟩) (.cons rfl (.cons rfl (.nil))) (.cons rfl (.cons rfl (.cons rfl (.cons rfl (.nil))))) rfl fun i j hx ih=>?_;have bl:=cW (g:=g);obtain ⟨h1,h2,h3⟩:=hx;refine S.seq<|S.seq<|S.region rfl<|O.q 2 rfl<|O.op (.p rfl) (.lss rfl rfl)<|O.nil ?_
 first|refine S.ct rfl (fun jW=>?_) (fun jW=>?_)|refine S.cm rfl (fun jW=>?_) (fun jW=>?_)
 ·have hm:(i+j) / 2<L.length:=by omega
  have hlt:=DY (s:=s) hr hm;refine S.skip<|S.block<|S.seq<|S.region rfl<|O.q 2 rfl<|O.op (.p rfl) (.add rfl rfl (IntWalk.i64_in _ ah))<|O.op (.p rfl) (.lD underlying3 underlying197 rfl)<|O.op (.p rfl) (.shr rfl rfl ah)<|O.op (.p rfl) (.lD underlying197 underlying3 rfl)<|O.slot 23 (v' :=.int .i64 (((i+j) / 2:Nat):Int)) rfl (by exact congrArg _ (Hv (s:=i+j) ah)) ?_;refine O.q 1 rfl<|O.nil<|S.seq<|S.region rfl<|O.q 3 rfl<|O.b_ (.p rfl) underlying25 dz rfl rfl (show _=((((i+j) / 2):Nat):Int) by omega) (by first|assumption|exact aj.mono hg aB|exact aj.left aB|exact aj.left (aj.mono hg aB)) (h:=fun SD My Df Dv=>?_);obtain ⟨XW,X3,rfl,Xq,WT⟩:=cq.sh Dv;refine O.op (.p rfl) (.bI isAgg31 aa rfl Df) ?_;refine O.q 1 rfl<|O.aC (.p rfl) rfl aa rfl rfl (GR) ?_;rintro _ _ ⟨rfl,rfl⟩
  try simp only [an,aq,au]
  refine O.op (.p rfl) (.lss rfl rfl)<|O.nil ?_
  first|refine S.ct rfl (fun ji=>?_) (fun ji=>?_)|refine S.cm rfl (fun ji=>?_) (fun ji=>?_)
  ·have hc:=hlt.1 (GC.1 ji)
   refine S.region rfl<|O.q 1 rfl<|O.op (.p rfl) (.add rfl rfl (IntWalk.i64_in _ ah))<|O.q 1 rfl<|O.nil (S.inBlock ?_);exact S.dH (ih ((i+j) / 2+1) (j) (by (exact ⟨by omega,by omega,by omega⟩)) ah)
  ·have hc:=mt (fun q=>GC.2 (hlt.2 q)) ji
   refine S.region rfl<|O.q 2 rfl<|O.nil (S.inBlock ?_);exact S.dH (ih (i) ((i+j) / 2) (by (exact ⟨by omega,by omega,by omega⟩)) ah)
 ·clear ih
  have e:i=a_ L s:=by omega
  subst e
  by_cases hi:a_ L s<L.length
  ·have sH:decide (Lib.compareBytes L[a_ L s].1 s=0)=decide (mA L s):=decide_eq_decide.2 (Mi.trans ⟨fun q=>⟨hi,q⟩,fun q=>q.2⟩)
   refine S.exit rfl<|S.seq<|S.region rfl<|O.q 3 rfl<|O.op (.p rfl) (.lss rfl rfl)<|O.sT 38 rfl bX ?_;refine O.q 4 rfl<|O.b_ (.g rfl rfl) underlying25 dz rfl rfl (show _=(((a_ L s):Nat):Int) by omega) (by first|assumption|exact aj.mono hg aB|exact aj.left aB|exact aj.left (aj.mono hg aB)) (h:=fun Eo BU td th=>?_);obtain ⟨XY,X5,rfl,Xs,WV⟩:=cq.sh th;refine O.op (.g rfl rfl) (.bI isAgg31 aa rfl td) ?_;refine O.q 1 rfl<|O.aC (.g rfl rfl) rfl aa rfl rfl (GR) ?_;rintro _ _ ⟨rfl,rfl⟩
   try simp only [an,aq,au]
   refine O.op (.g rfl rfl) (.eql rfl rfl)<|O.q 3 rfl<|O.nil<|S.lg results167 rfl rfl fun w hw=>Holds.end_ hR hw ?_;exact pk ⟨by rw [← sH],rfl⟩
  ·have sH:decide (mA L s)=false:=decide_eq_false fun q=>hi q.1
   refine S.exit rfl<|S.seq<|S.region rfl<|O.q 3 rfl<|O.op (.p rfl) (.lss rfl rfl)<|O.aL 38 rfl bX ?_;refine O.q 12 rfl<|O.nil<|S.lg results167 rfl rfl fun w hw=>Holds.end_ hR hw ?_;exact pk ⟨by rw [sH],rfl⟩
theorem M1 {r:Fr} {b q:Nat} {L:List aH} {s:List UInt8} (h:kf r b q L) (hr:eT L) (hl:L.length≤1000000000000):ay prog 105 #[.pointer (some ⟨b,0,none⟩),.string (str s)] r [] (aM fun v U=>v=.tuple #[.int .i64 (a_ L s:Int),.bool (decide (mA L s))]∧U=[]):=by
 obtain ⟨cO,cQ,cB,cC,mid,h,hL,_⟩:=h;refine ay.of (n:=14) _ rfl func105 rfl rfl rfl fun g hg R hR=>?_;have h:=h.mono hg;have hL:=hL.mono hg;refine S.seq<|S.region rfl<|O.q 2 rfl<|O.nil<|S.seq<|S.region rfl<|O.q 1 rfl<|O.op (.p rfl) (.nilCheck rfl)<|O.op (.p rfl) (.fieldAddr gN rfl)<|O.op (.p rfl) (.loadAt dO rfl h rfl) ?_;refine O.q 1 rfl<|O.aC (.p rfl) rfl aa rfl rfl ((LL (by first|assumption|exact aj.mono hg aB|exact aj.left aB|exact aj.left (aj.mono hg aB)) aB bL)) ?_;rintro _ _ ⟨rfl,rfl⟩
 try simp only [an,aq,au]
 refine O.q 4 rfl<|O.nil<|S.lg results105 rfl rfl fun w hw=>Holds.end_ hR hw ?_;exact pk ⟨rfl,rfl⟩
theorem BX {r:Fr} {a:Option Addr} {c i:Nat} {ak:List (List Value)} (hi:i<ak.length) :
  ay prog 156 #[.slice a ak.length c,.int .i64 (i:Int),.int .i64 ((i:Int)+1)] r [av (ag.cells 2) 31 (.slice a ak.length c) ak]
   (aM fun u U=>u=.slice a (ak.length - 1) c∧U=[av (ag.cells 2) 31 (.slice a (ak.length - 1) c) (ak.eraseIdx i)]):=by
 refine ay.of (n:=33) _ rfl func156 rfl rfl rfl fun g hg R hR=>?_;refine S.lF .here (fun _ x=>x.vp ah) fun ⟨⟨b,hb⟩,_,hc1,sZ⟩=>?_;subst hb;have hel:(ak.eraseIdx i).length=ak.length - 1:=List.length_eraseIdx_of_lt hi;refine S.slot 2 (v' :=.int .i64 ((i+1:Nat):Int)) rfl (by rw [Int.natCast_add];rfl) ?_;refine S.seq<|S.region rfl<|O.q 1 rfl<|O.nil<|S.seq<|S.region rfl<|O.q 4 rfl<|O.op (.p rfl) (.len rfl underlying25 rfl)<|O.op (.p rfl) (.Kj (r:=ak.length) underlying25 dz rfl rfl rfl rfl ah ah ah)<|O.nil<|S.seq<|S.seq<|S.region rfl<|O.q 2 rfl<|O.op (.p rfl) (.eql rfl rfl)<|O.aL 16 rfl (by exact decide_eq_false ah) ?_;refine O.nil<|S.aP rfl<|S.skip<|S.seq<|S.region rfl<|O.q 1 rfl<|O.op (.p rfl) (.len rfl underlying25 rfl)<|O.q 1 rfl<|O.nil<|S.seq<|S.bB (L:=[0,1,2,3,4,5,6,7]) bx aa<|af.q 2 rfl<|.quiet (.p rfl) rfl (fun _=>.tT (p:=i) underlying25 dz rfl rfl ah)<|af.q 2 rfl<|.quiet (.p rfl) rfl (fun _=>.iv (p:=i+1) underlying25 dz rfl rfl ah)<|af.ym (.p rfl) aa underlying25 kV hi rfl rfl ai ?_;rw [← hel]
 refine af.q 1 rfl<|aK.nil<|S.seq<|S.region rfl<|O.q 2 rfl<|O.op (.p rfl) (.len rfl underlying25 rfl)<|O.q 1 rfl<|O.op (.p rfl) (.Kk (p:=(ak.eraseIdx i).length) (q:=ak.length) underlying25 dz rfl rfl rfl ah ah)<|O.BH rfl underlying25 kV p8 zE ah ah rfl ai ?_;refine O.nil<|S.seq<|S.region rfl<|O.q 2 rfl<|O.nil ?_;rw [hel];exact S.rt results156 rfl hR ⟨rfl,rfl⟩
theorem BY {r:Fr} {a:Option Addr} {c i:Nat} {ak:List (List Value)} (hi:i<ak.length) :
  ay prog 157 #[.slice a ak.length c,.int .i64 (i:Int),.int .i64 ((i:Int)+1)] r [av (ag.cells 1) 9 (.slice a ak.length c) ak]
   (aM fun u U=>u=.slice a (ak.length - 1) c∧U=[av (ag.cells 1) 9 (.slice a (ak.length - 1) c) (ak.eraseIdx i)]):=by
 refine ay.of (n:=33) _ rfl func157 rfl rfl rfl fun g hg R hR=>?_;refine S.lF .here (fun _ x=>x.vp ah) fun ⟨⟨b,hb⟩,_,hc1,sZ⟩=>?_;subst hb;have hel:(ak.eraseIdx i).length=ak.length - 1:=List.length_eraseIdx_of_lt hi;refine S.slot 2 (v' :=.int .i64 ((i+1:Nat):Int)) rfl (by rw [Int.natCast_add];rfl) ?_;refine S.seq<|S.region rfl<|O.q 1 rfl<|O.nil<|S.seq<|S.region rfl<|O.q 4 rfl<|O.op (.p rfl) (.len rfl underlying53 rfl)<|O.op (.p rfl) (.Kj (r:=ak.length) underlying53 gG rfl rfl rfl rfl ah ah ah)<|O.nil<|S.seq<|S.seq<|S.region rfl<|O.q 2 rfl<|O.op (.p rfl) (.eql rfl rfl)<|O.aL 16 rfl (by exact decide_eq_false ah) ?_;refine O.nil<|S.aP rfl<|S.skip<|S.seq<|S.region rfl<|O.q 1 rfl<|O.op (.p rfl) (.len rfl underlying53 rfl)<|O.q 1 rfl<|O.nil<|S.seq<|S.bB (L:=[0,1,2,3,4,5,6,7]) bx aa<|af.q 2 rfl<|.quiet (.p rfl) rfl (fun _=>.tT (p:=i) underlying53 gG rfl rfl ah)<|af.q 2 rfl<|.quiet (.p rfl) rfl (fun _=>.iv (p:=i+1) underlying53 gG rfl rfl ah)<|af.ym (.p rfl) aa underlying53 iG hi rfl rfl ai ?_;rw [← hel]
 refine af.q 1 rfl<|aK.nil<|S.seq<|S.region rfl<|O.q 2 rfl<|O.op (.p rfl) (.len rfl underlying53 rfl)<|O.q 1 rfl<|O.op (.p rfl) (.Kk (p:=(ak.eraseIdx i).length) (q:=ak.length) underlying53 gG rfl rfl rfl ah ah)<|O.BH rfl underlying53 iG mO zE ah ah rfl ai ?_;refine O.nil<|S.seq<|S.region rfl<|O.q 2 rfl<|O.nil ?_;rw [hel];exact S.rt results157 rfl hR ⟨rfl,rfl⟩
theorem xW {r:Fr} (x:bZ) {a:Nat} {z:Int} (hz:z=0 - (a:Int)) (h0:0<a) (h:a<64) :
  ay prog 327 #[.int .u64 (x.toNat:Int),.int .i64 z] r [] (aM fun v U=>v=.int .u64 ((o8 x a).toNat:Int)∧U=[]):=by
 refine ay.of (n:=17) _ rfl func327 rfl rfl rfl fun g hg R hR=>?_;refine S.seq<|S.region rfl<|O.q 1 rfl<|O.nil<|S.seq<|S.region rfl<|O.q 1 rfl<|O.op (.p rfl) (.lD underlying3 underlying197 rfl)<|O.op (.p rfl) (.and rfl rfl)<|O.slot 8 (v' :=.int .u64 ((64 - a:Nat):Int)) rfl (by exact congrArg (Value.int .u64) (RR hz h0 h)) ?_;refine O.q 1 rfl<|O.nil<|S.seq<|S.region rfl<|O.q 2 rfl<|O.op (.p rfl) (.shl rfl rfl ah)<|O.slot 11 (v' :=.int .u64 ((x <<<UInt64.ofNat (64 - a)).toNat:Int)) rfl (by exact congrArg (Value.int .u64) (KS x ah)) ?_;refine O.q 2 rfl<|O.op (.p rfl) (.UU rfl rfl)<|O.slot 14 (v' :=.int .u64 (a:Int)) rfl (by (rw [show ((64:Int) - ((64 - a:Nat):Int))=((a:Nat):Int) from by omega,qU ah])) ?_;refine O.op (.p rfl) (.shr rfl rfl ah)<|O.slot 15 (v' :=.int .u64 ((x >>>UInt64.ofNat a).toNat:Int)) rfl (by exact congrArg (Value.int .u64) (KT x h)) ?_;refine O.op (.p rfl) (.or rfl rfl)<|O.slot 16 (v' :=.int .u64 ((o8 x a).toNat:Int)) rfl (by exact congrArg (Value.int .u64) ((KR _ _).trans (by rw [UInt64.or_comm];rfl))) ?_;refine O.q 1 rfl<|O.nil ?_;exact S.rt results327 rfl hR ⟨rfl,rfl⟩
theorem I1 {r:Fr} (x:bZ) {a b c:Nat} (h0:0<a) (h:a<64) (k0:0<b) (k:b<64) (Qr:0<c) (j:c<64) :
  ay prog 287 #[.int .u64 (x.toNat:Int),.int .i64 (a:Int),.int .i64 (b:Int),.int .i64 (c:Int)] r [] (aM fun v U=>v=.int .u64 ((ob x a b c).toNat:Int)∧U=[]):=by
 refine ay.of (n:=23) _ rfl func287 rfl rfl rfl fun g hg R hR=>?_;have w:∀ n:Nat,n<64→IntKind.i64.wrap (0 - (n:Int))=0 - (n:Int):=fun n hn=>IntWalk.i64_in _ ah;refine S.seq<|S.region rfl<|O.q 1 rfl<|O.nil<|S.seq<|S.region rfl<|O.q 2 rfl<|O.op (.p rfl) (.neg rfl)<|O.slot 11 (v' :=.int .i64 (0 - (a:Int))) rfl (by rw [w a h]) ?_;refine O.aC (.p rfl) rfl aa rfl rfl ((xW x rfl h0 h)) ?_;rintro _ _ ⟨rfl,rfl⟩
 try simp only [an,aq,au]
 refine O.q 2 rfl<|O.op (.p rfl) (.neg rfl)<|O.slot 15 (v' :=.int .i64 (0 - (b:Int))) rfl (by rw [w b k]) ?_;refine O.aC (.p rfl) rfl aa rfl rfl ((xW x rfl k0 k)) ?_;rintro _ _ ⟨rfl,rfl⟩
 try simp only [an,aq,au]
 refine O.op (.p rfl) (.xor rfl rfl)<|O.slot 17 (v' :=.int .u64 ((o8 x a ^^^ o8 x b).toNat:Int)) rfl (by exact congrArg (Value.int .u64) (sn _ _)) ?_;refine O.q 2 rfl<|O.op (.p rfl) (.neg rfl)<|O.slot 20 (v' :=.int .i64 (0 - (c:Int))) rfl (by rw [w c j]) ?_;refine O.aC (.p rfl) rfl aa rfl rfl ((xW x rfl Qr j)) ?_;rintro _ _ ⟨rfl,rfl⟩
 try simp only [an,aq,au]
 refine O.op (.p rfl) (.xor rfl rfl)<|O.slot 22 (v' :=.int .u64 ((ob x a b c).toNat:Int)) rfl (by exact congrArg (Value.int .u64) (sn _ _)) ?_;refine O.q 1 rfl<|O.nil ?_;exact S.rt results287 rfl hR ⟨rfl,rfl⟩
theorem Kl {r:Fr} (x:bZ) {a b c:Nat} (h0:0<a) (h:a<64) (k0:0<b) (k:b<64) (j:c<64) :
  ay prog 286 #[.int .u64 (x.toNat:Int),.int .i64 (a:Int),.int .i64 (b:Int),.int .i64 (c:Int)] r [] (aM fun v U=>v=.int .u64 ((qQ x a b c).toNat:Int)∧U=[]):=by
 refine ay.of (n:=22) _ rfl func286 rfl rfl rfl fun g hg R hR=>?_;have w:∀ n:Nat,n<64→IntKind.i64.wrap (0 - (n:Int))=0 - (n:Int):=fun n hn=>IntWalk.i64_in _ ah;refine S.seq<|S.region rfl<|O.q 1 rfl<|O.nil<|S.seq<|S.bB (L:=[0,1,2,4,5,6,9,10,11,3,7,8,12,13]) bx aa<|af.q 2 rfl<|.quiet (.p rfl) rfl (fun _=>.neg rfl)<|af.slot 11 (v' :=.int .i64 (0 - (a:Int))) rfl (by rw [w a h]) ?_;refine af.q 2 rfl<|.quiet (.p rfl) rfl (fun _=>.neg rfl)<|af.slot 15 (v' :=.int .i64 (0 - (b:Int))) rfl (by rw [w b k]) ?_;refine af.q 2 rfl<|.quiet (.p rfl) rfl (fun _=>.shr rfl rfl ah)<|af.slot 20 (v' :=.int .u64 ((x >>>UInt64.ofNat c).toNat:Int)) rfl (by exact congrArg (Value.int .u64) (KT x j)) ?_;refine af.aC (.p rfl) aa rfl aa rfl rfl ((xW x rfl h0 h)) ?_;rintro _ _ ⟨rfl,rfl⟩
 try simp only [an,aq,au]
 refine af.aC (.p rfl) aa rfl aa rfl rfl ((xW x rfl k0 k)) ?_;rintro _ _ ⟨rfl,rfl⟩
 try simp only [an,aq,au]
 refine .quiet (.p rfl) rfl (fun _=>.xor rfl rfl)<|af.slot 17 (v' :=.int .u64 ((o8 x a ^^^ o8 x b).toNat:Int)) rfl (by exact congrArg (Value.int .u64) (sn _ _)) ?_;refine .quiet (.p rfl) rfl (fun _=>.xor rfl rfl)<|af.slot 21 (v' :=.int .u64 ((qQ x a b c).toNat:Int)) rfl (by exact congrArg (Value.int .u64) (sn _ _)) ?_;refine af.q 1 rfl<|aK.nil ?_;exact S.rt results286 rfl hR ⟨rfl,rfl⟩
theorem K4 {r:Fr} {a:Addr} {t:Nat} (h:At r a (bQ fZ)) (ht:t<80):r.cell (a.add t)=some (pZ (fZ.getD t 0)):=h.at (p0 (by show t<80;exact ht))
theorem F9 {r:Fr} {hU:Nat} {T:TypeId} {kQ:Value} {b:List UInt8} {v:List bZ} {rest:List Value} (hv:v.length=8) (hb:aj ag.u8 r kQ b) (hl:b.length=128) (hK:At r ⟨1,0,none⟩ (bQ fZ)) :
  ay prog 211 #[.pointer (some ⟨hU,0,none⟩),kQ] r [obj hU T (bQ v++rest)] (aM fun u U=>u=.tuple #[]∧U=[obj hU T (bQ (qP v b)++rest)]):=by
 refine ay.of (n:=147) _ rfl func211 rfl rfl rfl fun g hg R hR=>?_;have hb:=hb.mono hg;have hK:=hK.mono hg;obtain ⟨a1,c1,rfl⟩:=hb.shape;refine S.seq<|S.region rfl<|O.aO (.p rfl) (.alloc (cs:=[.int .u64 0,.int .u64 0,.int .u64 0,.int .u64 0,.int .u64 0,.int .u64 0,.int .u64 0,.int .u64 0,.int .u64 0,.int .u64 0,.int .u64 0,.int .u64 0,.int .u64 0,.int .u64 0,.int .u64 0,.int .u64 0,.int .u64 0,.int .u64 0,.int .u64 0,.int .u64 0,.int .u64 0,.int .u64 0,.int .u64 0,.int .u64 0,.int .u64 0,.int .u64 0,.int .u64 0,.int .u64 0,.int .u64 0,.int .u64 0,.int .u64 0,.int .u64 0,.int .u64 0,.int .u64 0,.int .u64 0,.int .u64 0,.int .u64 0,.int .u64 0,.int .u64 0,.int .u64 0,.int .u64 0,.int .u64 0,.int .u64 0,.int .u64 0,.int .u64 0,.int .u64 0,.int .u64 0,.int .u64 0,.int .u64 0,.int .u64 0,.int .u64 0,.int .u64 0,.int .u64 0,.int .u64 0,.int .u64 0,.int .u64 0,.int .u64 0,.int .u64 0,.int .u64 0,.int .u64 0,.int .u64 0,.int .u64 0,.int .u64 0,.int .u64 0,.int .u64 0,.int .u64 0,.int .u64 0,.int .u64 0,.int .u64 0,.int .u64 0,.int .u64 0,.int .u64 0,.int .u64 0,.int .u64 0,.int .u64 0,.int .u64 0,.int .u64 0,.int .u64 0,.int .u64 0,.int .u64 0]) zeroValue382 rfl) ?_;rintro _ _ ⟨b4,rfl,rfl⟩;refine O.nil<|S.seq<|S.seq<|S.region rfl<|O.q 1 rfl<|O.nil<|S.block<|S.c7 (b:=b4) (cs' :=bQ (jc b 0)) ai rfl ?_
 refine S.fT (ι:=Nat) (fun t=>t≤80) (fun t=>[(16,.int .i64 (t:Int))]) [(0,_),(1,_),(4,_)] (fun t=>[obj b4 382 (bQ (jc b t)),obj hU T (bQ v++rest)]) (fun t=>80 - t) (0) ah (.cons rfl (.nil)) (.cons rfl (.cons rfl (.cons rfl (.nil)))) rfl fun t hx ih=>?_;have bl:=cW (g:=g);refine S.seq<|S.region rfl<|O.op (.p rfl) (.lss rfl rfl)<|O.nil (S.seq ?_)
 first|refine S.ct rfl (fun jW=>?_) (fun jW=>?_)|refine S.cm rfl (fun jW=>?_) (fun jW=>?_)
 ·have ht:t<80:=by omega
  have hml:=Ui (b:=b) (Nat.le_of_lt ht);refine S.skip<|S.seq<|S.block<|S.seq<|S.region rfl<|O.q 2 rfl<|O.nil<|S.seq<|S.seq<|S.region rfl<|O.q 1 rfl<|O.op (.p rfl) (.lss rfl rfl)<|O.nil ?_
  first|refine S.ct rfl (fun nS=>?_) (fun nS=>?_)|refine S.cm rfl (fun nS=>?_) (fun nS=>?_)
  ·have e7:t<16:=by omega
   have Pk:(b.take (8*t+8)).drop (8*t)=(b.drop (8*t)).take 8:=by rw [List.drop_take];congr 1;omega
   have hsa:mg ((b.take (8*t+8)).drop (8*t))=qO b (sched b t) t:=by rw [Pk,qO,if_pos e7]
   have fD:((b.take (8*t+8)).drop (8*t)).length=8:=by simp;omega
   refine S.seq<|S.seq<|S.region rfl<|O.q 2 rfl<|O.op (.p rfl) (.mul rfl rfl (IntWalk.i64_in _ ah))<|O.q 1 rfl<|O.op (.p rfl) (.mul rfl rfl (IntWalk.i64_in _ ah))<|O.op (.p rfl) (.add rfl rfl (IntWalk.i64_in _ ah))<|O.UD (a:=8*t) (b:=8*t+8) (.p rfl) underlying24 fL rfl rfl rfl aB bL bL bL bL (fun YM uN=>?_);obtain ⟨a27,sE,rfl⟩:=uN.shape;refine O.op (.p rfl) (.len rfl underlying24 rfl)<|O.q 1 rfl<|O.nil (S.block ?_);generalize (b.take (8*t+8)).drop (8*t)=pV at *;rw [fD] at uN ⊢;refine S.c7 (b:=b4) (cs' :=bQ ((jc b t).set t (mg (pV.take 0)))) ai (by rw [show mg (pV.take 0)=0 from rfl,Uj ht]) ?_;refine S.fT (ι:=Nat) (fun j=>j≤8) (fun j=>[(29,.int .i64 (j:Int))]) [(0,_),(1,_),(4,_),(5,_),(16,_),(27,_),(28,_)] (fun j=>[obj b4 382 (bQ ((jc b t).set t (mg (pV.take j)))),obj hU T (bQ v++rest)]) (fun j=>8 - j) (0) ah (.cons rfl (.nil)) (.cons rfl (.cons rfl (.cons rfl (.cons rfl (.cons rfl (.cons rfl (.cons rfl (.nil)))))))) rfl fun j hx ih=>?_;have hm2:=cW (g:=g);refine S.seq<|S.region rfl<|O.op (.p rfl) (.lss rfl rfl)<|O.nil (S.seq ?_)
   first|refine S.ct rfl (fun Cm=>?_) (fun Cm=>?_)|refine S.cm rfl (fun Cm=>?_) (fun Cm=>?_)
   ·have hj:j<8:=by omega
    refine S.skip<|S.seq<|S.block<|S.seq<|S.region rfl<|O.b_ (.p rfl) underlying24 fL rfl rfl rfl (by first|assumption|exact aj.mono hg aB|exact aj.left aB|exact aj.left (aj.mono hg aB)) (h:=fun Yl Wo OP O_=>?_)
    cases O_
    refine O.op (.p rfl) (.loadAt kX rfl OP rfl) ?_;refine O.q 1 rfl<|O.nil<|S.region rfl<|O.q 2 rfl<|O.op (.p rfl) (.pO (j:=t) underlying382 gp rfl rfl (show _=(((t):Nat):Int) by omega) ah)<|O.op (.p rfl) (.cK gj rfl ai (p0 (by rw [List.length_set];omega))) ?_;refine O.slot 36 (v' :=.int .u64 ((mg (pV.take j)).toNat:Int)) rfl (by rw [Nat.zero_add,Nk ah]) ?_;refine O.op (.p rfl) (.shl rfl rfl ah)<|O.slot 37 (v' :=.int .u64 ((mg (pV.take j) <<<8).toNat:Int)) rfl (by exact congrArg (Value.int .u64) (KS _ (n:=8) zE)) ?_;refine O.q 1 rfl<|O.op (.p rfl) (.lD underlying5 underlying274 rfl)<|O.slot 39 (v' :=.int .u64 ((UInt64.ofNat pV[j].toNat).toNat:Int)) rfl (by exact congrArg (Value.int .u64) (VN _)) ?_;refine O.op (.p rfl) (.or rfl rfl)<|O.slot 40 (v' :=.int .u64 ((mg (pV.take (j+1))).toNat:Int)) rfl (by exact congrArg (Value.int .u64) ((KR _ _).trans (by rw [LB ah]))) ?_;refine O.op (.p rfl) (.pO (j:=t) underlying382 gp rfl rfl (show _=(((t):Nat):Int) by omega) ah)<|O.bw rfl (.bk gj rfl rfl rfl ai (by rw [mM,List.length_set,hml];omega)) ?_;refine O.nil<|S.inBlock<|S.c7 (b:=b4) (cs' :=bQ ((jc b t).set t (mg (pV.take (j+1))))) ai (by rw [show Value.int .u64 ((mg (pV.take (j+1))).toNat:Int)=pZ (mg (pV.take (j+1))) from rfl,Fa,Nat.zero_add,List.set_set]) ?_
    refine S.region rfl<|O.op (.p rfl) (.add rfl rfl (IntWalk.i64_in _ ah))<|O.q 1 rfl<|O.nil ?_;exact S.dH (ih (j+1) ah ah)
   ·clear ih
    have hj:j=8:=by omega
    subst hj;refine S.c7 (b:=b4) (cs' :=bQ (jc b (t+1))) ai (by rw [List.take_of_length_le ah,hsa,J' ht]) ?_;refine S.exit rfl<|S.exit rfl<|S.region rfl<|O.op (.p rfl) (.add rfl rfl (IntWalk.i64_in _ ah))<|O.q 1 rfl<|O.nil ?_;exact S.dH (ih (t+1) ah ah)
  ·have e7:16≤t:=by omega
   have hsa:qQ ((sched b t).getD (t - 2) 0) 19 61 6+(sched b t).getD (t - 7) 0+qQ ((sched b t).getD (t - 15) 0) 1 8 7+(sched b t).getD (t - 16) 0=qO b (sched b t) t:=by rw [qO,if_neg ah]
   refine S.skip ?_;have fS:=hg;have fR:=hR
   try have N1:=hb
   try have CD:=hK
   refine S.iH (B:=obj b4 382 (bQ (jc b t))) ai fun go cR ⟨qI,hmo,jZ⟩ fC=>?_;replace hg:=Fr.aI hg cR;replace hR:=iB hR fC
   try replace hb:=hb.mono cR
   try replace hK:=hK.mono cR
   have dg:=(fK hmo).mono jZ;refine S.bB (L:=[0,1,2,3,4,6,7,8,9,11,12,13,14,17,18,19,20,5,10,15,16,21,22,23]) bx aa ?_;refine af.q 2 rfl<|.quiet (.p rfl) rfl (fun _=>.sub rfl rfl (IntWalk.i64_in _ ah))<|.quiet (.p rfl) rfl (fun _=>.kz (j:=t - 2) underlying382 gp rfl rfl (show _=((t - 2:Nat):Int) by omega) ah)<|.quiet (.p rfl) rfl (fun _=>.load gj rfl (dg.at (p0 ah))) ?_;refine af.slot 47 (v' :=.int .u64 (((sched b t).getD (t - 2) 0).toNat:Int)) rfl (by rw [Ax ah]) ?_;refine af.q 1 rfl<|.quiet (.p rfl) rfl (fun _=>.sub rfl rfl (IntWalk.i64_in _ ah))<|.quiet (.p rfl) rfl (fun _=>.kz (j:=t - 7) underlying382 gp rfl rfl (show _=((t - 7:Nat):Int) by omega) ah)<|.quiet (.p rfl) rfl (fun _=>.load gj rfl (dg.at (p0 ah))) ?_;refine af.slot 52 (v' :=.int .u64 (((sched b t).getD (t - 7) 0).toNat:Int)) rfl (by rw [Ax ah]) ?_;refine af.q 1 rfl<|.quiet (.p rfl) rfl (fun _=>.sub rfl rfl (IntWalk.i64_in _ ah))<|.quiet (.p rfl) rfl (fun _=>.kz (j:=t - 15) underlying382 gp rfl rfl (show _=((t - 15:Nat):Int) by omega) ah)<|.quiet (.p rfl) rfl (fun _=>.load gj rfl (dg.at (p0 ah))) ?_;refine af.slot 57 (v' :=.int .u64 (((sched b t).getD (t - 15) 0).toNat:Int)) rfl (by rw [Ax ah]) ?_
   refine af.q 1 rfl<|.quiet (.p rfl) rfl (fun _=>.sub rfl rfl (IntWalk.i64_in _ ah))<|.quiet (.p rfl) rfl (fun _=>.kz (j:=t - 16) underlying382 gp rfl rfl (show _=((t - 16:Nat):Int) by omega) ah)<|.quiet (.p rfl) rfl (fun _=>.load gj rfl (dg.at (p0 ah))) ?_;refine af.slot 63 (v' :=.int .u64 (((sched b t).getD (t - 16) 0).toNat:Int)) rfl (by rw [Ax ah]) ?_;refine af.aC (.p rfl) aa rfl aa rfl rfl ((Kl (a:=19) (b:=61) (c:=6) _ zE zE zE zE zE)) ?_;rintro _ _ ⟨rfl,rfl⟩
   try simp only [an,aq,au]
   refine .quiet (.p rfl) rfl (fun _=>.mU rfl rfl)<|af.slot 53 (v' :=.int .u64 ((qQ ((sched b t).getD (t - 2) 0) 19 61 6+(sched b t).getD (t - 7) 0).toNat:Int)) rfl (by exact congrArg (Value.int .u64) (ph _ _)) ?_;refine af.aC (.p rfl) aa rfl aa rfl rfl ((Kl (a:=1) (b:=8) (c:=7) _ zE zE zE zE zE)) ?_;rintro _ _ ⟨rfl,rfl⟩
   try simp only [an,aq,au]
   refine .quiet (.p rfl) rfl (fun _=>.mU rfl rfl)<|af.slot 59 (v' :=.int .u64 ((qQ ((sched b t).getD (t - 2) 0) 19 61 6+(sched b t).getD (t - 7) 0+qQ ((sched b t).getD (t - 15) 0) 1 8 7).toNat:Int)) rfl (by exact congrArg (Value.int .u64) (ph _ _)) ?_;refine .quiet (.p rfl) rfl (fun _=>.mU rfl rfl)<|af.slot 64 (v' :=.int .u64 ((qO b (sched b t) t).toNat:Int)) rfl (by exact congrArg (Value.int .u64) ((ph _ _).trans (by rw [hsa]))) ?_;refine .quiet (.p rfl) rfl (fun _=>.pO (j:=t) underlying382 gp rfl rfl rfl ah)<|af.xu rfl aa (fun _ hw=>fC hw) gj rfl rfl bn ai yb ?_;replace hg:=fS;replace hR:=fR
   try replace hb:=N1
   try replace hK:=CD
   clear fS fR;refine S.inBlock<|S.c7 (b:=b4) (cs' :=bQ (jc b (t+1))) ai (by rw [show Value.int .u64 ((qO b (sched b t) t).toNat:Int)=pZ (qO b (sched b t) t) from rfl,Fa,Nat.zero_add,J' ht]) ?_;refine S.region rfl<|O.op (.p rfl) (.add rfl rfl (IntWalk.i64_in _ ah))<|O.q 1 rfl<|O.nil ?_;exact S.dH (ih (t+1) ah ah)
 ·clear ih
  have ht:t=80:=by omega
  subst ht;rw [Uh];have hS:=xZ b 80;have hblk:qP v b=List.zipWith (·+·) v (qN v (sched b 80) 80):=rfl;generalize sched b 80=mb at *;refine S.exit rfl<|S.seq<|S.region rfl<|O.q 1 rfl<|O.op (.p rfl) (.nilCheck rfl)<|O.op (.p rfl) (.rU (news:=bQ v) isAgg276 (by rw [mM,hv];kernel_rfl) rfl ai (by rw [List.drop_zero,List.take_left' rfl])) ?_;refine O.aO (.p rfl) (.alloc (cs:=[.int .u64 0,.int .u64 0,.int .u64 0,.int .u64 0,.int .u64 0,.int .u64 0,.int .u64 0,.int .u64 0]) zeroValue276 rfl) ?_;rintro _ _ ⟨jT,rfl,rfl⟩;refine O.bw rfl (.cZ (news:=bQ v) (by rw [mM,hv];kernel_rfl) rfl rfl sv (VJ v) ai (by rw [mM,hv];decide)) ?_;refine O.nil<|S.seq<|S.seq<|S.c7 (b:=jT) (cs' :=bQ v) ai (by rw [List.take_zero,List.nil_append,List.drop_eq_nil_of_le (by rw [mM,hv];decide),List.append_nil]) ?_;refine S.region rfl<|O.op (.p rfl) (.rU (news:=bQ mb) isAgg382 (by rw [mM,hS];kernel_rfl) rfl ai (by rw [List.drop_zero,List.take_length])) ?_;refine O.q 1 rfl<|O.nil<|S.block<|S.fT (ι:=Nat) (fun t=>t≤80) (fun t=>[(71,.int .i64 (t:Int))]) [(0,_),(8,_),(70,_)] (fun t=>[obj jT 276 (bQ (qN v mb t)),obj b4 382 (bQ mb),obj hU T (bQ v++rest)]) (fun t=>80 - t) (0) ah (.cons rfl (.nil)) (.cons rfl (.cons rfl (.cons rfl (.nil)))) rfl fun t hx ih=>?_;have hm2:=cW (g:=g)
  refine S.seq<|S.region rfl<|O.op (.p rfl) (.lss rfl rfl)<|O.nil (S.seq ?_)
  first|refine S.ct rfl (fun Cx=>?_) (fun Cx=>?_)|refine S.cm rfl (fun Cx=>?_) (fun Cx=>?_)
  ·have ht:t<80:=by omega
   obtain ⟨x0,x1,cD,eF,cT,eR,eS,gA,hxs⟩:=IV (EK v mb hv t);have hst:qN v mb (t+1)=JT [x0,x1,cD,eF,cT,eR,eS,gA] (fZ.getD t 0) (mb.getD t 0):=by rw [qN,hxs]
   rw [hxs];refine S.c7 (b:=jT) (cs' :=[.int .u64 (x0.toNat:Int),.int .u64 (x1.toNat:Int),.int .u64 (cD.toNat:Int),.int .u64 (eF.toNat:Int),.int .u64 (cT.toNat:Int),.int .u64 (eR.toNat:Int),.int .u64 (eS.toNat:Int),.int .u64 (gA.toNat:Int)]) ai rfl ?_;have wM:=hg;have wz:=hR
   try have CU:=hb
   try have CE:=hK
   refine S.iH (B:=obj jT 276 [.int .u64 (x0.toNat:Int),.int .u64 (x1.toNat:Int),.int .u64 (cD.toNat:Int),.int .u64 (eF.toNat:Int),.int .u64 (cT.toNat:Int),.int .u64 (eR.toNat:Int),.int .u64 (eS.toNat:Int),.int .u64 (gA.toNat:Int)]) ai fun No hsp ⟨mp,hmp,DF⟩ wH=>?_;replace hg:=Fr.aI hg hsp;replace hR:=iB hR wH
   try replace hb:=hb.mono hsp
   try replace hK:=hK.mono hsp
   have dg:=(fK hmp).mono DF;refine S.skip<|S.seq<|S.block<|S.seq<|S.region rfl<|O.q 1 rfl<|O.op (.p rfl) (.Iv (j:=t) underlying382 gp gj rfl rfl rfl ah (by rw [List.getElem?_toArray];exact p0 ah)) ?_;refine O.slot 74 (v' :=.int .u64 ((mb.getD t 0).toNat:Int)) rfl aG ?_;refine O.q 2 rfl<|O.nil<|S.seq<|S.bB (L:=[0,1,2,3,4,5]) bx aa<|.quiet (.p rfl) rfl (fun _=>.kz (j:=0) underlying276 gp rfl rfl rfl ah)<|.quiet (.p rfl) rfl (fun _=>.loadAt gj rfl dg rfl) ?_;refine .quiet (.p rfl) rfl (fun _=>.kz (j:=4) underlying276 gp rfl rfl rfl ah)<|.quiet (.p rfl) rfl (fun _=>.loadAt gj rfl (dg.drop 4) rfl) ?_;refine af.q 2 rfl<|aK.nil<|S.seq<|S.bB (L:=[0,1,2,5,6,7,8,9,10,11,12,13,14,16,17,18,20,3,4,15,19,21,22]) bx aa<|.quiet (.p rfl) rfl (fun _=>.kz (j:=7) underlying276 gp rfl rfl rfl ah)<|.quiet (.p rfl) rfl (fun _=>.loadAt gj rfl (dg.drop 7) rfl) ?_;refine af.q 2 rfl<|.quiet (.p rfl) rfl (fun _=>.kz (j:=5) underlying276 gp rfl rfl rfl ah)<|.quiet (.p rfl) rfl (fun _=>.loadAt gj rfl (dg.drop 5) rfl) ?_;refine .quiet (.p rfl) rfl (fun _=>.and rfl rfl)<|af.slot 87 (v' :=.int .u64 ((cT &&& eR).toNat:Int)) rfl (by exact congrArg (Value.int .u64) (vt _ _)) ?_
   refine af.q 1 rfl <| .quiet (.p rfl) rfl (fun _ => .Mj rfl) <| af.slot 89 (v' := .int .u64 ((~~~cT).toNat : Int)) rfl (by exact congrArg (Value.int .u64) (VM _)) ?_;refine .quiet (.p rfl) rfl (fun _ => .kz (j := 6) underlying276 gp rfl rfl rfl ah) <| .quiet (.p rfl) rfl (fun _ => .loadAt gj rfl (dg.drop 6) rfl) ?_;refine .quiet (.p rfl) rfl (fun _ => .and rfl rfl) <| af.slot 92 (v' := .int .u64 ((~~~cT &&& eS).toNat : Int)) rfl (by exact congrArg (Value.int .u64) (vt _ _)) ?_;refine .quiet (.p rfl) rfl (fun _ => .xor rfl rfl) <| af.slot 93 (v' := .int .u64 ((cT &&& eR ^^^ ~~~cT &&& eS).toNat : Int)) rfl (by exact congrArg (Value.int .u64) (sn _ _)) ?_;refine af.q 1 rfl <| .quiet (.p rfl) rfl (fun _ => .kz (j := t) underlying382 gp rfl rfl rfl ah) <| .quiet (.p rfl) rfl (fun _ => .load gj rfl (K4 hK ht)) ?_;refine af.slot 97 (v' := .int .u64 ((fZ.getD t 0).toNat : Int)) rfl aG ?_;refine af.q 1 rfl <| af.aC (.p rfl) aa rfl aa rfl rfl ((I1 (a := 14) (b := 18) (c := 41) cT zE zE zE zE zE zE)) ?_;rintro _ _ ⟨rfl, rfl⟩
   try simp only [an,aq,au]
   refine .quiet (.p rfl) rfl (fun _ => .mU rfl rfl) <| af.slot 83 (v' := .int .u64 ((gA + ob cT 14 18 41).toNat : Int)) rfl (by exact congrArg (Value.int .u64) (ph _ _)) ?_;refine .quiet (.p rfl) rfl (fun _ => .mU rfl rfl) <| af.slot 94 (v' := .int .u64 ((gA + ob cT 14 18 41 + (cT &&& eR ^^^ ~~~cT &&& eS)).toNat : Int)) rfl (by exact congrArg (Value.int .u64) (ph _ _)) ?_;refine .quiet (.p rfl) rfl (fun _ => .mU rfl rfl) <| af.slot 98 (v' := .int .u64 ((gA + ob cT 14 18 41 + (cT &&& eR ^^^ ~~~cT &&& eS) + fZ.getD t 0).toNat : Int)) rfl (by exact congrArg (Value.int .u64) (ph _ _)) ?_;refine .quiet (.p rfl) rfl (fun _ => .mU rfl rfl) <| af.slot 100 (v' := .int .u64 ((gA + ob cT 14 18 41 + (cT &&& eR ^^^ ~~~cT &&& eS) + fZ.getD t 0 + mb.getD t 0).toNat : Int)) rfl (by exact congrArg (Value.int .u64) (ph _ _)) ?_;refine af.q 1 rfl <| aK.nil <| S.seq <| S.bB (L := [0, 2, 3, 4, 5, 6, 7, 8, 9, 10, 11, 12, 13, 14, 15, 16, 1, 17, 18]) bx aa <| af.q 2 rfl <| .quiet (.p rfl) rfl (fun _ => .kz (j := 1) underlying276 gp rfl rfl rfl ah) <| .quiet (.p rfl) rfl (fun _ => .loadAt gj rfl (dg.drop 1) rfl) ?_;refine .quiet (.p rfl) rfl (fun _ => .and rfl rfl) <| af.slot 106 (v' := .int .u64 ((x0 &&& x1).toNat : Int)) rfl (by exact congrArg (Value.int .u64) (vt _ _)) ?_
   refine af.q 1 rfl<|.quiet (.p rfl) rfl (fun _=>.kz (j:=2) underlying276 gp rfl rfl rfl ah)<|.quiet (.p rfl) rfl (fun _=>.loadAt gj rfl (dg.drop 2) rfl) ?_;refine .quiet (.p rfl) rfl (fun _=>.and rfl rfl)<|af.slot 110 (v' :=.int .u64 ((x0 &&& cD).toNat:Int)) rfl (by exact congrArg (Value.int .u64) (vt _ _)) ?_;refine .quiet (.p rfl) rfl (fun _=>.xor rfl rfl)<|af.slot 111 (v' :=.int .u64 ((x0 &&& x1 ^^^ x0 &&& cD).toNat:Int)) rfl (by exact congrArg (Value.int .u64) (sn _ _)) ?_;refine .quiet (.p rfl) rfl (fun _=>.kz (j:=1) underlying276 gp rfl rfl rfl ah)<|.quiet (.p rfl) rfl (fun _=>.loadAt gj rfl (dg.drop 1) rfl) ?_;refine .quiet (.p rfl) rfl (fun _=>.kz (j:=2) underlying276 gp rfl rfl rfl ah)<|.quiet (.p rfl) rfl (fun _=>.loadAt gj rfl (dg.drop 2) rfl) ?_;refine .quiet (.p rfl) rfl (fun _=>.and rfl rfl)<|af.slot 116 (v' :=.int .u64 ((x1 &&& cD).toNat:Int)) rfl (by exact congrArg (Value.int .u64) (vt _ _)) ?_;refine .quiet (.p rfl) rfl (fun _=>.xor rfl rfl)<|af.slot 117 (v' :=.int .u64 ((x0 &&& x1 ^^^ x0 &&& cD ^^^ x1 &&& cD).toNat:Int)) rfl (by exact congrArg (Value.int .u64) (sn _ _)) ?_;refine af.aC (.p rfl) aa rfl aa rfl rfl ((I1 (a:=28) (b:=34) (c:=39) x0 zE zE zE zE zE zE)) ?_;rintro _ _ ⟨rfl,rfl⟩
   try simp only [an,aq,au]
   refine .quiet (.p rfl) rfl (fun _=>.mU rfl rfl)<|af.slot 118 (v' :=.int .u64 ((ob x0 28 34 39+(x0 &&& x1 ^^^ x0 &&& cD ^^^ x1 &&& cD)).toNat:Int)) rfl (by exact congrArg (Value.int .u64) (ph _ _)) ?_;refine af.q 1 rfl<|aK.nil<|S.seq<|S.back wH ?_;replace hg:=wM;replace hR:=wz
   try replace hb:=CU
   try replace hK:=CE
   clear wM wz;refine S.bB (L := [0, 1, 2]) bx aa ?_;refine .quiet (.p rfl) rfl (fun _ => .UA (a := 1) underlying276 gp rfl rfl rfl zE zE) <| .quiet (.p rfl) rfl (fun _ => .UB (a := 7) underlying276 gp rfl rfl rfl zE zE) <| af.BS (m := 7) (.p rfl) aa underlying207 gp rfl rfl ai rfl bq bq (by first | (simp; done) | (intro v hv; simp [Value.cells] at hv; rcases hv with rfl | rfl <;> rfl) | (refine List.forall_mem_cons.2 ⟨rfl, ?_⟩; repeat (first | exact (fun _ h => absurd h List.not_mem_nil) | refine List.forall_mem_cons.2 ⟨rfl, ?_⟩))) ?_;refine aK.nil <| S.c7 (b := jT) (cs' := [.int .u64 (x0.toNat : Int), .int .u64 (x0.toNat : Int), .int .u64 (x1.toNat : Int), .int .u64 (cD.toNat : Int), .int .u64 (eF.toNat : Int), .int .u64 (cT.toNat : Int), .int .u64 (eR.toNat : Int), .int .u64 (eS.toNat : Int)]) ai rfl ?_;refine S.region rfl <| O.q 2 rfl <| O.op (.p rfl) (.mU rfl rfl) <| O.slot 124 (v' := .int .u64 ((gA + ob cT 14 18 41 + (cT &&& eR ^^^ ~~~cT &&& eS) + fZ.getD t 0 + mb.getD t 0 + (ob x0 28 34 39 + (x0 &&& x1 ^^^ x0 &&& cD ^^^ x1 &&& cD))).toNat : Int)) rfl (by exact congrArg (Value.int .u64) (ph _ _)) ?_;refine O.op (.p rfl) (.pO (j := 4) underlying276 gp rfl rfl rfl ah) <| O.op (.p rfl) (.lo gj) ?_
   refine O.q 1 rfl <| O.op (.p rfl) (.mU rfl rfl) <| O.slot 128 (v' := .int .u64 ((eF + (gA + ob cT 14 18 41 + (cT &&& eR ^^^ ~~~cT &&& eS) + fZ.getD t 0 + mb.getD t 0)).toNat : Int)) rfl (by exact congrArg (Value.int .u64) (ph _ _)) ?_;refine O.op (.p rfl) (.pO (j := 0) underlying276 gp rfl rfl rfl ah) <| O.bw rfl (.bk gj rfl rfl bn ai aT) ?_;refine O.op (.p rfl) (.pO (j := 4) underlying276 gp rfl rfl rfl ah) <| O.bw rfl (.bk gj rfl rfl bn ai aT) ?_;refine O.nil <| S.inBlock <| S.c7 (b := jT) (cs' := bQ (qN v mb (t + 1))) ai (by rw [hst]; rfl) ?_;refine S.region rfl <| O.op (.p rfl) (.add rfl rfl (IntWalk.i64_in _ ah)) <| O.q 1 rfl <| O.nil ?_;exact S.dH (ih (t + 1) ah ah)
  ·clear ih
   have ht:t=80:=by omega
   subst ht;have hu:=EK v mb hv 80;generalize qN v mb 80=u at *;refine S.exit rfl<|S.seq<|S.region rfl<|O.q 1 rfl<|O.nil<|S.block<|S.c7 (b:=hU) (cs' :=bQ (mc v u 0)++rest) ai rfl ?_;refine S.fT (ι:=Nat) (fun i=>i≤8) (fun i=>[(132,.int .i64 (i:Int))]) [(0,_),(8,_)] (fun i=>[obj hU T (bQ (mc v u i)++rest),obj jT 276 (bQ u),obj b4 382 (bQ mb)]) (fun i=>8 - i) (0) ah (.cons rfl (.nil)) (.cons rfl (.cons rfl (.nil))) rfl fun i hx ih=>?_;have HR:=cW (g:=g);refine S.seq<|S.region rfl<|O.op (.p rfl) (.lss rfl rfl)<|O.nil (S.seq ?_)
   first|refine S.ct rfl (fun Ci=>?_) (fun Ci=>?_)|refine S.cm rfl (fun Ci=>?_) (fun Ci=>?_)
   ·have hi:i<8:=by omega
    have hal:=Lf hv hu (Nat.le_of_lt hi);have wM:=hg;have wz:=hR
    try have CU:=hb
    try have CE:=hK
    refine S.iH (B:=obj jT 276 (bQ u)) ai fun No hsp ⟨mp,hmp,DF⟩ wH=>?_;replace hg:=Fr.aI hg hsp;replace hR:=iB hR wH
    try replace hb:=hb.mono hsp
    try replace hK:=hK.mono hsp
    have dg:=(fK hmp).mono DF;have gw:=hg;have gu:=hR
    try have N2:=hb
    try have Nu:=hK
    try have NY:=dg
    refine S.iH (B:=obj hU T (bQ (mc v u i)++rest)) ai fun oJ dL ⟨qJ,jC,jD⟩ gm=>?_;replace hg:=Fr.aI hg dL;replace hR:=iB hR gm
    try replace hb:=hb.mono dL
    try replace hK:=hK.mono dL
    try replace dg:=dg.mono dL
    have NZ:=(fK jC).mono jD;refine S.skip<|S.seq<|S.block<|S.seq<|S.region rfl<|O.q 2 rfl<|O.nil<|S.bB (L:=[0,1,2,3,4,5,6,7,8,9,10,11]) bx aa<|af.q 2 rfl<|.quiet (.p rfl) rfl (fun _=>.nilCheck rfl)<|.quiet (.p rfl) rfl (fun _=>.kz (j:=i) underlying276 gp rfl rfl rfl ah)<|.quiet (.p rfl) rfl (fun _=>.load gj rfl (NZ.at (by rw [List.getElem?_append_left (by rw [mM];omega)];exact p0 ah))) ?_;refine af.slot 139 (v' :=.int .u64 ((v.getD i 0).toNat:Int)) rfl (by rw [Le hv hu hi]) ?_;refine af.q 1 rfl<|.quiet (.p rfl) rfl (fun _=>.kz (j:=i) underlying276 gp rfl rfl rfl ah)<|.quiet (.p rfl) rfl (fun _=>.load gj rfl (dg.at (p0 ah))) ?_;refine af.slot 142 (v' :=.int .u64 ((u.getD i 0).toNat:Int)) rfl aG ?_;refine .quiet (.p rfl) rfl (fun _=>.mU rfl rfl)<|af.slot 143 (v' :=.int .u64 ((v.getD i 0+u.getD i 0).toNat:Int)) rfl (by exact congrArg (Value.int .u64) (ph _ _)) ?_;refine .quiet (.p rfl) rfl (fun _=>.nilCheck rfl)<|.quiet (.p rfl) rfl (fun _=>.pO (j:=i) underlying276 gp rfl rfl rfl ah)<|af.xu rfl aa (fun _ hw=>gm hw) gj rfl rfl bn ai yb ?_;replace hg:=gw;replace hR:=gu
    try replace hb:=N2
    try replace hK:=Nu
    try replace dg:=NY
    clear gw gu;refine S.inBlock<|S.back wH ?_;replace hg:=wM;replace hR:=wz
    try replace hb:=CU
    try replace hK:=CE
    clear wM wz;refine S.c7 (b:=hU) (cs' :=bQ (mc v u (i+1))++rest) ai (by rw [Nat.zero_add,List.set_append_left _ _ (by rw [mM];omega),show Value.int .u64 ((v.getD i 0+u.getD i 0).toNat:Int)=pZ (v.getD i 0+u.getD i 0) from rfl,Fa,Lg hv hu hi]) ?_;refine S.region rfl<|O.op (.p rfl) (.add rfl rfl (IntWalk.i64_in _ ah))<|O.q 1 rfl<|O.nil ?_;exact S.dH (ih (i+1) ah ah)
   ·clear ih
    have hi:i=8:=by omega
    subst hi;rw [Ld hv hu,← hblk];refine S.exit rfl<|S.ej results211 fun w hw=>Holds.end_ hR hw ?_;exact pk ⟨rfl,rfl⟩
def jj (M:List UInt8) (a:Option Addr) (c:Nat):List Value:=bQ (feed ed M)++[.slice a (bS M).length c,.int .u64 (M.length:Int),.bool true]
theorem uS (M:List UInt8) (a:Option Addr) (c:Nat):∃ x0 x1 cD eF cT eR eS gA,feed ed M=[x0,x1,cD,eF,cT,eR,eS,gA]∧jj M a c=[.int .u64 (x0.toNat:Int),.int .u64 (x1.toNat:Int),.int .u64 (cD.toNat:Int),.int .u64 (eF.toNat:Int),.int .u64 (cT.toNat:Int),.int .u64 (eR.toNat:Int),.int .u64 (eS.toNat:Int),.int .u64 (gA.toNat:Int),.slice a (bS M).length c,.int .u64 (M.length:Int),.bool true]:=by
 obtain ⟨x0,x1,cD,eF,cT,eR,eS,gA,h⟩:=IV (wk ed M rfl);exact ⟨x0,x1,cD,eF,cT,eR,eS,gA,h,by rw [jj,h];rfl⟩
theorem Hx {v:List bZ} {y:Value} {rest:List Value} (hv:v.length=8):(bQ v++y::rest)[8]?=some y:=by
 rw [List.getElem?_append_right (by rw [mM];omega),mM,hv];rfl
theorem Hz {v:List bZ} {y z:Value} {rest:List Value} (hv:v.length=8):(bQ v++y::rest).set 8 z=bQ v++z::rest:=by
 rw [List.set_append_right _ _ (by rw [mM];omega),mM,hv];rfl
theorem Hy {v:List bZ} {y z w:Value} (hv:v.length=8):8<(bQ v++[y,z,w]).length:=by
 rw [List.length_append,mM,hv];exact (show 8<8+3 by decide)
theorem KA {r:Fr} {b:Nat} {M:List UInt8} {a:Option Addr} {c:Nat} (h:At r ⟨b,0,none⟩ (jj M a c)):ay prog 210 #[.pointer (some ⟨b,0,none⟩)] r [] (aM fun v U=>v=.bool true∧U=[]):=by
 obtain ⟨x0,x1,cD,eF,cT,eR,eS,gA,hx,hc⟩:=uS M a c;rw [hc] at h;refine ay.of (n:=11) _ rfl func210 rfl rfl rfl fun g hg R hR=>?_;have h:=h.mono hg;refine S.seq<|S.region rfl<|O.q 1 rfl<|O.nil<|S.seq<|S.region rfl<|O.q 1 rfl<|O.op (.p rfl) (.xE underlying192 rfl rfl)<|O.sT 4 rfl aG ?_;refine O.q 2 rfl<|O.op (.g rfl rfl) (.nilCheck rfl)<|O.op (.g rfl rfl) (.fieldAddr M_ rfl)<|O.op (.g rfl rfl) (.loadAt ic rfl (h.drop 10) rfl) ?_;refine O.sT 9 rfl aG ?_;refine O.q 2 rfl<|O.nil ?_;exact S.rt results210 rfl hR ⟨rfl,rfl⟩
theorem KW {r:Fr} {hU:Nat} {va:Value} {M:List UInt8} {a:Option Addr} {c:Nat} {ps:List (List UInt8)} (hp:aj (ag.slice ag.u8) r va ps) (hK:At r ⟨1,0,none⟩ (bQ fZ)) (hl:M.length+ps.flatten.length≤1000000000000) :
  ay prog 127 #[.pointer (some ⟨hU,0,none⟩),va] r [obj hU 278 (jj M a c),av ag.u8 5 (.slice a (bS M).length c) (bS M)]
   (aM fun v U=>∃ a' c',v=.int .i64 0∧U=[obj hU 278 (jj (M++ps.flatten) a' c'),av ag.u8 5 (.slice a' (bS (M++ps.flatten)).length c') (bS (M++ps.flatten))]):=by
 have Dn:=hp;obtain ⟨a1,c1,rfl⟩:=hp.shape;have hpb:=hp.bound;refine ay.of (n:=99) _ rfl func127 rfl rfl rfl fun g hg R hR=>?_;have hp:=hp.mono hg;have hK:=hK.mono hg;have fS:=hg;have fR:=hR
 try have Dm:=hp
 try have CD:=hK
 refine S.iH (B:=obj hU 278 (jj M a c)) ai fun go cR ⟨qI,hmo,jZ⟩ fC=>?_;replace hg:=Fr.aI hg cR;replace hR:=iB hR fC
 try replace hp:=hp.mono cR
 try replace hK:=hK.mono cR
 have dg:=(fK hmo).mono jZ;refine S.seq<|S.region rfl<|O.q 1 rfl<|O.nil<|S.seq<|S.seq<|S.region rfl<|O.q 1 rfl<|O.aC (.p rfl) rfl aa rfl rfl ((KA dg)) ?_;rintro _ _ ⟨rfl,rfl⟩
 try simp only [an,aq,au]
 refine O.sT 9 rfl aG ?_;refine O.op (.p rfl) (.not rfl)<|O.nil<|S.aP rfl<|S.skip<|S.seq<|S.seq<|S.back fC ?_;replace hg:=fS;replace hR:=fR
 try replace hp:=Dm
 try replace hK:=CD
 clear fS fR;refine S.region rfl<|O.q 1 rfl<|O.op (.p rfl) (.len rfl underlying109 rfl)<|O.q 1 rfl<|O.nil<|S.block<|S.zL (ι:=Nat) (dB:=Option Addr × Nat) (jO:=List UInt8) (fun i s Q=>i≤ps.length∧Q=M++(ps.take i).flatten) (fun i s Q=>[(13,.int .i64 (i:Int))]) [(0,_),(11,_),(12,_)] (fun i s Q=>[obj hU 278 (jj Q s.1 s.2),av ag.u8 5 (.slice s.1 (bS Q).length s.2) (bS Q)]) (fun i s Q=>ps.length - i) (0) ((a,c)) (M) (by exact ⟨by simp,by simp⟩) (.cons rfl (.nil)) (.cons rfl (.cons rfl (.cons rfl (.nil)))) rfl fun i s Q hx ih=>?_;have bl:=cW (g:=g);obtain ⟨hx1,hQ⟩:=hx;refine S.seq<|S.region rfl<|O.op (.p rfl) (.lss rfl rfl)<|O.nil (S.seq ?_)
 first|refine S.ct rfl (fun jh=>?_) (fun jh=>?_)|refine S.cm rfl (fun jh=>?_) (fun jh=>?_)
 ·have hi:i<ps.length:=by omega
  have hst:Q++ps[i]=M++(ps.take (i+1)).flatten:=by rw [hQ,List.append_assoc,List.take_succ_eq_append_getElem hi,List.flatten_append];simp
  have Ds:Q.length+ps[i].length≤1000000000000:=by
   have h1:=congrArg List.length hst;have h2:=congrArg (fun l=>(List.flatten l).length) (List.take_append_drop (i+1) ps);simp only [List.flatten_append,List.length_append] at h1 h2
   omega
  have hrl:(bS Q).length<128:=by rw [Ao];omega
  obtain ⟨x0,x1,cD,eF,cT,eR,eS,gA,hx,hc⟩:=uS Q s.1 s.2;refine S.skip<|S.seq<|S.block<|S.seq<|S.region rfl<|O.ib (.p rfl) underlying109 tP rfl rfl rfl Dn hg (h:=fun xN v_ gR Ph=>?_);have kN:=ag.rel.mono Ph hg;obtain ⟨YU,rfl,uX⟩:=kN;obtain ⟨vO,vU,rfl⟩:=uX.shape;refine O.op (.p rfl) (.loadAt bg rfl gR rfl) ?_;refine O.q 1 rfl<|O.nil (S.seq ?_);generalize ps[i]=p at *;refine S.c7 (b:=hU) (cs' :=[.int .u64 (x0.toNat:Int),.int .u64 (x1.toNat:Int),.int .u64 (cD.toNat:Int),.int .u64 (eF.toNat:Int),.int .u64 (cT.toNat:Int),.int .u64 (eR.toNat:Int),.int .u64 (eS.toNat:Int),.int .u64 (gA.toNat:Int),.slice s.1 (bS Q).length s.2,.int .u64 (Q.length:Int),.bool true]) ai hc ?_;refine S.region rfl<|O.q 1 rfl<|O.op (.p rfl) (.nilCheck rfl)<|O.op (.p rfl) (.aF Cd rfl)<|O.op (.p rfl) (.lo gj) ?_;refine O.q 1 rfl<|O.op (.p rfl) (.len rfl underlying24 rfl)<|O.op (.p rfl) (.lD underlying3 underlying274 rfl)<|O.slot 23 (v' :=.int .u64 (p.length:Int)) rfl (by rw [qU ah]) ?_;refine O.op (.p rfl) (.mU rfl rfl)<|O.slot 24 (v' :=.int .u64 ((Q.length+p.length:Nat):Int)) rfl (by rw [← Int.natCast_add,qU ah]) ?_;refine O.op (.p rfl) (.nilCheck rfl)<|O.op (.p rfl) (.aF Cd rfl)<|O.bw rfl (.bk gj rfl rfl bn ai aT) ?_
  refine O.nil<|S.seq<|S.seq<|S.region rfl<|O.q 1 rfl<|O.op (.p rfl) (.nilCheck rfl)<|O.op (.p rfl) (.aF ni rfl)<|O.op (.p rfl) (.lo bg) ?_;refine O.op (.p rfl) (.len rfl underlying24 rfl)<|O.op (.p rfl) (.sub rfl rfl (IntWalk.i64_in _ ah))<|O.q 1 rfl<|O.op (.p rfl) (.len rfl underlying24 rfl)<|O.op (.p rfl) (.min2 rfl rfl)<|O.slot 35 (v' :=.int .i64 ((min (128 - (bS Q).length) p.length:Nat):Int)) rfl (by exact congrArg (Value.int .i64) (by split<;>omega)) ?_;refine O.q 1 rfl<|O.nil (S.seq ?_);have uV:min (128 - (bS Q).length) p.length≤p.length:=by omega
  have hn2:(bS Q).length+min (128 - (bS Q).length) p.length≤128:=by omega
  have C8:(bS Q).length+min (128 - (bS Q).length) p.length<128→min (128 - (bS Q).length) p.length=p.length:=by omega
  generalize min (128 - (bS Q).length) p.length=n at *;refine S.c7 (b:=hU) (cs' :=[.int .u64 (x0.toNat:Int),.int .u64 (x1.toNat:Int),.int .u64 (cD.toNat:Int),.int .u64 (eF.toNat:Int),.int .u64 (cT.toNat:Int),.int .u64 (eR.toNat:Int),.int .u64 (eS.toNat:Int),.int .u64 (gA.toNat:Int),.slice s.1 (bS Q).length s.2,.int .u64 ((Q.length+p.length:Nat):Int),.bool true]) ai rfl ?_;refine S.yH (fun (x:(List UInt8 × List UInt8) × (Option Addr × Nat) × (Option Addr × Nat))=>bS x.1.1=[]∧x.1.1++x.1.2=Q++p∧aj ag.u8 g.h (.slice x.2.2.1 x.1.2.length x.2.2.2) x.1.2) (fun (x:(List UInt8 × List UInt8) × (Option Addr × Nat) × (Option Addr × Nat))=>[(6,.slice x.2.2.1 x.1.2.length x.2.2.2)]) [(0,_),(11,_),(12,_),(13,_)] (fun (x:(List UInt8 × List UInt8) × (Option Addr × Nat) × (Option Addr × Nat))=>[obj hU 278 (bQ (feed ed x.1.1)++[.slice x.2.1.1 0 x.2.1.2,.int .u64 ((Q.length+p.length:Nat):Int),.bool true]),av ag.u8 5 (.slice x.2.1.1 0 x.2.1.2) []]) (.cons rfl (.cons rfl (.cons rfl (.cons rfl (.nil))))) (fun key=>?_) (fun x hx=>?_)
  ·have hm2:=cW (g:=g)
   refine S.region rfl<|O.q 1 rfl<|O.op (.p rfl) (.nilCheck rfl)<|O.op (.p rfl) (.aF ni rfl)<|O.op (.p rfl) (.lo bg) ?_;refine O.op (.p rfl) (.len rfl underlying24 rfl)<|O.op (.p rfl) (.gtr rfl rfl)<|O.nil ?_
   first|refine S.ct rfl (fun Cr=>?_) (fun Cr=>?_)|refine S.cm rfl (fun Cr=>?_) (fun Cr=>?_)
   ·refine S.seq<|S.bB (L:=[0,1,2,3,5,6,7,9,10,11,4,8,12,13,14,15]) bx aa ?_
    refine af.q 2 rfl<|.quiet (.p rfl) rfl (fun _=>.nilCheck rfl)<|.quiet (.p rfl) rfl (fun _=>.aF ni rfl)<|af.q 2 rfl<|af.sliceTo (b:=n) (.p rfl) underlying24 fL rfl rfl aB bL bL (fun YO wC=>?_);obtain ⟨a49,uz,rfl⟩:=wC.shape;refine af.q 2 rfl<|af.sliceFrom (a:=n) (.p rfl) underlying24 fL rfl rfl aB bL bL (fun YQ uO=>?_);obtain ⟨a53,uA,rfl⟩:=uO.shape;refine af.cr (.p rfl) aa (fun _=>.cK bg rfl ai aG) ?_;refine af.pH (.p rfl) aa (T:=ag.u8) Ae underlying24 eM zE rfl rfl ai (by first|assumption|exact aj.mono hg aB|exact aj.left aB|exact aj.left (aj.mono hg aB)) bL bL (fun a50 mY=>?_);refine .quiet (.p rfl) rfl (fun _=>.nilCheck rfl)<|.quiet (.p rfl) rfl (fun _=>.aF ni rfl)<|af.bk rfl aa bg rfl rfl bn ai aT ?_;refine af.q 1 rfl<|aK.nil (S.seq (S.seq ?_));have jl:(p.take n).length=n:=by rw [List.length_take];omega
    have hal:(bS Q++p.take n).length=(bS Q).length+n:=by rw [List.length_append,jl]
    refine S.region rfl<|O.q 1 rfl<|O.op (.p rfl) (.nilCheck rfl)<|O.op (.p rfl) (.aF ni rfl)<|O.op (.p rfl) (.lo bg) ?_;refine O.op (.p rfl) (.len rfl underlying24 rfl)<|O.op (.p rfl) (.lss rfl rfl)<|O.nil ?_
    first|refine S.ct rfl (fun nT=>?_) (fun nT=>?_)|refine S.cm rfl (fun nT=>?_) (fun nT=>?_)
    ·have hlt:(bS Q).length+n<128:=by omega
     have hnp:=C8 hlt;have xe:p.take n=p:=List.take_of_length_le ah;obtain ⟨e1,e2⟩:=MZ ed (b:=Q) (c:=p) (by rw [← xe,hal];exact hlt);have hml:(Q++p).length=Q.length+p.length:=List.length_append;have hE:(bS Q).length+(p.take n).length=(bS (Q++p)).length:=by rw [e2,List.length_append,xe]
     refine S.c7 (b:=hU) (cs' :=jj (Q++p) a50 mY) ai (by rw [hE,jj,e1,hx,hml];rfl) ?_;refine S.jm (T:=ag.u8) (e:=5) (v' :=.slice a50 (bS (Q++p)).length mY) (xs' :=bS (Q++p)) ai (by rw [hE]) (by rw [e2,xe]) ?_;refine S.exit rfl<|S.region rfl<|O.op (.p rfl) (.add rfl rfl (IntWalk.i64_in _ ah))<|O.q 1 rfl<|O.nil ?_;exact S.pw (ih (i+1) ((a50,mY)) (Q++p) (by exact ⟨by omega,hst⟩) ah)
    ·have heq:(bS Q++p.take n).length=128:=by rw [hal];omega
     obtain ⟨e1,e2⟩:=MY ed (b:=Q) (c:=p.take n) heq;rw [hx] at e1;have HJ:=hg;have Hi:=hR
     try have OY:=hp
     try have Nt:=hK
     try have OJ:=gR
     try have O3:=kN
     try have O1:=uX
     try have NH:=wC
     try have NJ:=uO
     refine S.iH (B:=av ag.u8 5 (.slice a50 ((bS Q).length+(p.take n).length) mY) (bS Q++p.take n)) ai fun WQ fD ⟨ml,hml,Pm⟩ kY=>?_;replace hg:=Fr.aI hg fD;replace hR:=iB hR kY
     try replace hp:=hp.mono fD
     try replace hK:=hK.mono fD
     try replace gR:=gR.mono fD
     try replace kN:=kN.mono fD
     try replace uX:=uX.mono fD
     try replace wC:=wC.mono fD
     try replace uO:=uO.mono fD
     have hla:=(av.arr hml).mono Pm;refine S.skip<|S.seq<|S.bB (L:=[0,1,2,3,4,5,6,7]) bx aa ?_;refine af.q 1 rfl<|.quiet (.p rfl) rfl (fun _=>.nilCheck rfl)<|.quiet (.p rfl) rfl (fun _=>.aF Cc rfl)<|af.q 1 rfl<|.quiet (.p rfl) rfl (fun _=>.nilCheck rfl)<|.quiet (.p rfl) rfl (fun _=>.aF ni rfl)<|af.cr (.p rfl) aa (fun _=>.cK bg rfl ai aG) ?_;refine af.bD (.p rfl) aa rfl aa rfl rfl ai (F9 (T:=278) (v:=[x0,x1,cD,eF,cT,eR,eS,gA]) (rest:=[.slice a50 ((bS Q).length+(p.take n).length) mY,.int .u64 ((Q.length+p.length:Nat):Int),.bool true]) rfl hla heq hK) ?_;rintro _ _ ⟨rfl,rfl⟩
     try simp only [an,aq,au]
     refine aK.nil<|S.back kY ?_;replace hg:=HJ;replace hR:=Hi
     try replace hp:=OY
     try replace hK:=Nt
     try replace gR:=OJ
     try replace kN:=O3
     try replace uX:=O1
     try replace wC:=NH
     try replace uO:=NJ
     clear HJ Hi;have hvl:(qP [x0,x1,cD,eF,cT,eR,eS,gA] (bS Q++p.take n)).length=8:=Ke _ _ rfl;refine S.region rfl<|O.q 2 rfl<|O.op (.p rfl) (.nilCheck rfl)<|O.op (.p rfl) (.aF ni rfl)<|O.op (.p rfl) (.cK bg rfl ai (Hx hvl)) ?_;refine O.op (.p rfl) (.UF (T:=ag.u8) (q:=0) underlying24 fL rfl rfl rfl (Nat.zero_le _))<|O.op (.p rfl) (.nilCheck rfl)<|O.op (.p rfl) (.aF ni rfl)<|O.bw rfl (.bk bg rfl rfl rfl ai (Hy hvl)) ?_;refine O.nil<|S.c7 (b:=hU) (cs' :=bQ (feed ed (Q++p.take n))++[.slice a50 0 mY,.int .u64 ((Q.length+p.length:Nat):Int),.bool true]) ai (by rw [Hz hvl,e1]) ?_;refine S.conv (B:=av ag.u8 5 (.slice a50 ((bS Q).length+(p.take n).length) mY) (bS Q++p.take n)) (C:=av ag.u8 5 (.slice a50 0 mY) []) ai (fun h x=>⟨h,Fr.bW _,av.take (ys:=bS Q++p.take n) rfl x⟩) ?_;refine S.pk ?_ (S.weaken ?_ (key (((Q++p.take n,p.drop n),(a50,mY),(a53,uA))) (by exact ⟨e2,by rw [List.append_assoc,List.take_append_drop],uO⟩)))
     ·repeat (first|exact aW|exact aY|(apply aX;focus (repeat (first|exact aU|apply zt)))|apply aZ)
     repeat (first|exact Sub.nil|refine Sub.cons rfl ?_)
   ·have h0:bS Q=[]:=List.eq_nil_of_length_eq_zero ah
    have He:(bS Q).length=0:=by rw [h0];rfl
    refine S.c7 (b:=hU) (cs' :=bQ (feed ed Q)++[.slice s.1 0 s.2,.int .u64 ((Q.length+p.length:Nat):Int),.bool true]) ai (by rw [He,hx];rfl) ?_;refine S.jm (T:=ag.u8) (e:=5) (v' :=.slice s.1 0 s.2) (xs' :=[]) ai (by rw [He]) h0 ?_;refine S.skip<|S.pk ?_ (S.weaken ?_ (key (((Q,p),s,(vO,vU))) (by exact ⟨h0,rfl,uX⟩)))
    ·repeat (first|exact aW|exact aY|(apply aX;focus (repeat (first|exact aU|apply zt)))|apply aZ)
    repeat (first|exact Sub.nil|refine Sub.cons rfl ?_)
  ·obtain ⟨⟨vF,p1⟩,⟨al,cl⟩,⟨a6,dD⟩⟩:=x
   obtain ⟨h0,h1,h2⟩:=hx;simp only at h0 h1 h2 ⊢;obtain ⟨f1,f2⟩:=M0 ed (b:=vF) (c:=p1) h0;rw [h1] at f1 f2;refine S.seq<|S.block<|S.jG (ι:=Nat) (dB:=Option Addr × Nat) (fun k u=>128*k≤p1.length∧aj ag.u8 g.h (.slice u.1 (p1.drop (128*k)).length u.2) (p1.drop (128*k))) (fun k u=>[(6,.slice u.1 (p1.drop (128*k)).length u.2)]) [(0,_),(11,_),(12,_),(13,_)] (fun k u=>[obj hU 278 (bQ (kW (feed ed vF) p1 k)++[.slice al 0 cl,.int .u64 ((Q.length+p.length:Nat):Int),.bool true]),av ag.u8 5 (.slice al 0 cl) []]) (fun k u=>p1.length - k) (0) ((a6,dD)) (by exact ⟨by omega,h2⟩) (.cons rfl (.nil)) (.cons rfl (.cons rfl (.cons rfl (.cons rfl (.nil))))) rfl fun k u hx ih=>?_;have hm2:=cW (g:=g);obtain ⟨nX,hk2⟩:=hx;have hdl:(p1.drop (128*k)).length=p1.length - 128*k:=List.length_drop;have xg:(kW (feed ed vF) p1 k).length=8:=B6 _ _ (wk _ _ rfl) k;refine S.seq<|S.seq<|S.region rfl<|O.q 1 rfl<|O.op (.p rfl) (.len rfl underlying24 rfl)<|O.op (.p rfl) (.geq rfl rfl)<|O.nil ?_
   first|refine S.ct rfl (fun Cz=>?_) (fun Cz=>?_)|refine S.cm rfl (fun Cz=>?_) (fun Cz=>?_)
   ·have Xk:128*(k+1)≤p1.length:=by omega
    have nV:(p1.drop (128*k)).drop 128=p1.drop (128*(k+1)):=by rw [List.drop_drop,Nat.mul_succ]
    refine S.skip<|S.seq<|S.block<|S.bB (L:=[0,1,2,3,4,5]) bx aa<|af.q 1 rfl<|.quiet (.p rfl) rfl (fun _=>.nilCheck rfl)<|.quiet (.p rfl) rfl (fun _=>.aF Cc rfl)<|af.q 1 rfl<|af.sliceTo (b:=128) (.p rfl) underlying24 fL rfl rfl aB bL bL (fun YS Hu=>?_);obtain ⟨a87,Wh,rfl⟩:=Hu.shape;refine af.bD (.p rfl) aa rfl aa rfl rfl ai (F9 (T:=278) (v:=kW (feed ed vF) p1 k) (rest:=[.slice al 0 cl,.int .u64 ((Q.length+p.length:Nat):Int),.bool true]) xg Hu (by rw [List.length_take];omega) hK) ?_;rintro _ _ ⟨rfl,rfl⟩
    try simp only [an,aq,au]
    refine aK.nil<|S.inBlock<|S.region rfl<|O.q 1 rfl<|O.sliceFrom (a:=128) (.p rfl) underlying24 fL rfl rfl aB bL bL (fun YR CP=>?_);obtain ⟨a82,L0,rfl⟩:=CP.shape;refine O.q 1 rfl<|O.nil ?_;rw [nV] at CP ⊢;exact S.pw (ih (k+1) ((a82,L0)) (by exact ⟨by omega,CP⟩) ah)
   ·clear ih
    have hkk:k=p1.length / 128:=by omega
    have Oe:kW (feed ed vF) p1 k=feed ed (Q++p):=by rw [hkk];exact f1.symm
    have w_:p1.drop (128*k)=bS (Q++p):=by rw [hkk];exact f2.symm
    have hml:(Q++p).length=Q.length+p.length:=List.length_append;refine S.exit rfl ?_;rw [Oe,w_];rw [w_] at hk2 hdl;have DK :(feed ed (Q++p)).length=8:=wk _ _ rfl;refine S.region rfl<|O.q 2 rfl<|O.op (.p rfl) (.nilCheck rfl)<|O.op (.p rfl) (.aF ni rfl)<|O.op (.p rfl) (.cK bg rfl ai (Hx DK)) ?_;refine O.q 1 rfl<|O.aO (.p rfl) (.pH (T:=ag.u8) Ae underlying24 eM zE rfl rfl ai (by first|assumption|exact aj.mono hg aB|exact aj.left aB|exact aj.left (aj.mono hg aB)) bL bL) ?_;rintro _ _ ⟨Bh,BC,rfl,rfl⟩;refine O.op (.p rfl) (.nilCheck rfl)<|O.op (.p rfl) (.aF ni rfl)<|O.bw rfl (.bk bg rfl rfl rfl ai (Hy DK)) ?_;refine O.nil<|S.inBlock<|S.c7 (b:=hU) (cs' :=jj (Q++p) Bh BC) ai (by rw [Hz DK,jj,hml,List.length_nil,Nat.zero_add]) ?_;refine S.jm (T:=ag.u8) (e:=5) (v' :=.slice Bh (bS (Q++p)).length BC) (xs' :=bS (Q++p)) ai (by rw [List.length_nil,Nat.zero_add]) (by rw [List.nil_append]) ?_;refine S.region rfl<|O.op (.p rfl) (.add rfl rfl (IntWalk.i64_in _ ah))<|O.q 1 rfl<|O.nil ?_;exact S.pw (ih (i+1) ((Bh,BC)) (Q++p) (by exact ⟨by omega,hst⟩) ah)
 ·clear ih
  have hi:i=ps.length:=by omega
  subst hi;rw [List.take_length] at hQ;subst hQ;refine S.exit rfl<|S.seq<|S.region rfl<|O.q 1 rfl<|O.nil ?_;exact S.rt results127 rfl hR ⟨s.1,s.2,rfl,rfl⟩
end Go.Proofs.YtojafegjlahajaaGreatDoor
