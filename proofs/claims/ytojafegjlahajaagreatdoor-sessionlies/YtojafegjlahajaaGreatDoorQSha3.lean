/- Texts of this proof. -/
import Derived.Test.YtojafegjlahajaaGreatDoorQEvid1
import Derived.Test.YtojafegjlahajaaGreatDoorQSpCmp
open Go Go.Sp Go.Proofs.Tryz
set_option maxRecDepth 100000
set_option maxHeartbeats 1000000
attribute [local irreducible] obj Own av
namespace Go.Proofs.YtojafegjlahajaaGreatDoor
theorem Wz {r:Fr} {a b:List UInt8}:ay prog 169 #[.string (str a),.string (str b)] r [] (aL fun v U=>v=.int .i64 (Lib.compareBytes a b)∧U=[]):=by
 have h1:∀ {r:Fr},ay prog 251 #[.string (str a),.string (str b)] r [] (aL fun v U=>v=.int .i64 (Lib.compareBytes a b)∧U=[]):=by
  intro r
  refine ay.of (n:=8) _ rfl func251 rfl rfl rfl fun g hg R hR=>?_;refine S.seq<|S.region rfl<|O.q 1 rfl<|O.nil<|S.seq<|S.region rfl<|O.q 2 rfl<|O.op (.p rfl) (.M6 func317 aa rfl aa aa rfl rfl rfl)<|O.q 1 rfl<|O.nil ?_;exact S.rt results251 rfl hR ⟨rfl,rfl⟩
 refine ay.of (n:=8) _ rfl func169 rfl rfl rfl fun g hg R hR=>?_;refine S.seq<|S.region rfl<|O.q 1 rfl<|O.nil<|S.seq<|S.region rfl<|O.q 2 rfl<|O.aB (.p rfl) rfl aa rfl rfl (h1) ?_;rintro _ _ ⟨rfl,rfl⟩
 try simp only [an,aq,au]
 refine O.q 1 rfl<|O.nil ?_;exact S.rt results169 rfl hR ⟨rfl,rfl⟩
theorem HA {r:Fr} {k s:List UInt8} {a:Option Addr} {n c:Nat}:ay prog 168 #[.agg #[.string (str k),.slice a n c],.string (str s)] r [] (aL fun v U=>v=.int .i64 (Lib.compareBytes k s)∧U=[]):=by
 refine ay.of (n:=9) _ rfl func168 rfl rfl rfl fun g hg R hR=>?_;refine S.seq<|S.region rfl<|O.aM (.p rfl) (.box (cs:=[_,_]) rfl rfl) ?_;rintro _ _ ⟨b2,rfl,rfl⟩;refine O.q 1 rfl<|O.nil<|S.seq<|S.region rfl<|O.op (.p rfl) (.aD eA rfl)<|O.op (.p rfl) (.lo bL) ?_;refine O.q 1 rfl<|O.aB (.p rfl) rfl aa rfl rfl ((Wz)) ?_;rintro _ _ ⟨rfl,rfl⟩
 try simp only [an,aq,au]
 refine O.q 1 rfl<|O.nil ?_;exact S.rt results168 rfl hR ⟨rfl,rfl⟩
theorem MC {r:Fr} {va:Value} {L:List aG} {s:List UInt8} (ha:aj bW r va L) (hr:eC L) (hl:L.length≤1000000000000) :
  ay prog 167 #[va,.string (str s),.func (.func 168) #[] #[]] r [] (aL fun v U=>v=.tuple #[.int .i64 (aY L s:Int),.bool (decide (k6 L s))]∧U=[]):=by
 obtain ⟨a1,c1,rfl⟩:=ha.shape;refine ay.of (n:=49) _ rfl func167 rfl rfl rfl fun g hg R hR=>?_;have ha:=ha.mono hg;have hle:=Jz L s;refine S.seq<|S.region rfl<|O.q 2 rfl<|O.nil<|S.seq<|S.region rfl<|O.q 1 rfl<|O.op (.p rfl) (.len rfl underlying25 rfl)<|O.q 1 rfl<|O.nil<|S.seq<|S.region rfl<|O.q 3 rfl<|O.nil<|S.seq<|S.block<|S.jT (ι:=Nat) (dI:=Nat) (fun i j=>i≤aY L s∧aY L s≤j∧j≤L.length) (fun i j=>[(9,.int .i64 (i:Int)),(10,.int .i64 (j:Int))]) [(0,_),(1,_),(2,_),(8,_)] (fun i j=>[]) (fun i j=>j - i) (0) (L.length) (by exact ⟨Nat.zero_le _,hle,Nat.le_refl _⟩) (.cons rfl (.cons rfl (.nil))) (.cons rfl (.cons rfl (.cons rfl (.cons rfl (.nil))))) rfl fun i j hx ih=>?_;have aX:=cL (g:=g);obtain ⟨h1,h2,h3⟩:=hx;refine S.seq<|S.seq<|S.region rfl<|O.q 2 rfl<|O.op (.p rfl) (.lss rfl rfl)<|O.nil ?_
 first|refine S.cc rfl (fun gx=>?_) (fun gx=>?_)|refine S.b7 rfl (fun gx=>?_) (fun gx=>?_)
 ·have hm:(i+j) / 2<L.length:=by omega
  have hlt:=EG (s:=s) hr hm;refine S.skip<|S.block<|S.seq<|S.region rfl<|O.q 2 rfl<|O.op (.p rfl) (.add rfl rfl (IntWalk.i64_in _ ah))<|O.op (.p rfl) (.lU underlying3 underlying197 rfl)<|O.op (.p rfl) (.shr rfl rfl ah)<|O.op (.p rfl) (.lU underlying197 underlying3 rfl)<|O.slot 23 (v' :=.int .i64 (((i+j) / 2:Nat):Int)) rfl (by exact congrArg _ (Ih (s:=i+j) ah)) ?_;refine O.q 1 rfl<|O.nil<|S.seq<|S.region rfl<|O.q 3 rfl<|O.b8 (.p rfl) underlying25 di rfl rfl (show _=((((i+j) / 2):Nat):Int) by omega) (by first|assumption|exact aj.mono hg zE|exact aj.left zE|exact aj.left (aj.mono hg zE)) (h:=fun T5 Nt DT Eb=>?_);obtain ⟨ZI,ZP,rfl,Ze,YG⟩:=bW.sh Eb;refine O.op (.p rfl) (.bz isAgg31 aa rfl DT) ?_;refine O.q 1 rfl<|O.aB (.p rfl) rfl aa rfl rfl (HA) ?_;rintro _ _ ⟨rfl,rfl⟩
  try simp only [an,aq,au]
  refine O.op (.p rfl) (.lss rfl rfl)<|O.nil ?_
  first|refine S.cc rfl (fun fM=>?_) (fun fM=>?_)|refine S.b7 rfl (fun fM=>?_) (fun fM=>?_)
  ·have hc:=hlt.1 (Hj.1 fM)
   refine S.region rfl<|O.q 1 rfl<|O.op (.p rfl) (.add rfl rfl (IntWalk.i64_in _ ah))<|O.q 1 rfl<|O.nil (S.inBlock ?_);exact S.dz (ih ((i+j) / 2+1) (j) (by (exact ⟨by omega,by omega,by omega⟩)) ah)
  ·have hc:=mt (fun q=>Hj.2 (hlt.2 q)) fM
   refine S.region rfl<|O.q 2 rfl<|O.nil (S.inBlock ?_);exact S.dz (ih (i) ((i+j) / 2) (by (exact ⟨by omega,by omega,by omega⟩)) ah)
 ·clear ih
  have e:i=aY L s:=by omega
  subst e
  by_cases hi:aY L s<L.length
  ·have s4:decide (Lib.compareBytes L[aY L s].1 s=0)=decide (k6 L s):=decide_eq_decide.2 (Nb.trans ⟨fun q=>⟨hi,q⟩,fun q=>q.2⟩)
   refine S.exit rfl<|S.seq<|S.region rfl<|O.q 3 rfl<|O.op (.p rfl) (.lss rfl rfl)<|O.sT 38 rfl b5 ?_;refine O.q 4 rfl<|O.b8 (.g rfl rfl) underlying25 di rfl rfl (show _=(((aY L s):Nat):Int) by omega) (by first|assumption|exact aj.mono hg zE|exact aj.left zE|exact aj.left (aj.mono hg zE)) (h:=fun E8 Ck tL tO=>?_);obtain ⟨ZK,ZR,rfl,Zg,YI⟩:=bW.sh tO;refine O.op (.g rfl rfl) (.bz isAgg31 aa rfl tL) ?_;refine O.q 1 rfl<|O.aB (.g rfl rfl) rfl aa rfl rfl (HA) ?_;rintro _ _ ⟨rfl,rfl⟩
   try simp only [an,aq,au]
   refine O.op (.g rfl rfl) (.eql rfl rfl)<|O.q 3 rfl<|O.nil<|S.mW results167 rfl rfl fun w hw=>Holds.end_ hR hw ?_;exact pk ⟨by rw [← s4],rfl⟩
  ·have s4:decide (k6 L s)=false:=decide_eq_false fun q=>hi q.1
   refine S.exit rfl<|S.seq<|S.region rfl<|O.q 3 rfl<|O.op (.p rfl) (.lss rfl rfl)<|O.aN 38 rfl b5 ?_;refine O.q 12 rfl<|O.nil<|S.mW results167 rfl rfl fun w hw=>Holds.end_ hR hw ?_;exact pk ⟨by rw [s4],rfl⟩
theorem HD {r:Fr} {b q:Nat} {L:List aG} {s:List UInt8} (h:kC r b q L) (hr:eC L) (hl:L.length≤1000000000000):ay prog 105 #[.pointer (some ⟨b,0,none⟩),.string (str s)] r [] (aL fun v U=>v=.tuple #[.int .i64 (aY L s:Int),.bool (decide (k6 L s))]∧U=[]):=by
 obtain ⟨cO,cQ,cz,cA,mid,h,hL,_⟩:=h;refine ay.of (n:=14) _ rfl func105 rfl rfl rfl fun g hg R hR=>?_;have h:=h.mono hg;have hL:=hL.mono hg;refine S.seq<|S.region rfl<|O.q 2 rfl<|O.nil<|S.seq<|S.region rfl<|O.q 1 rfl<|O.op (.p rfl) (.nilCheck rfl)<|O.op (.p rfl) (.fieldAddr gN rfl)<|O.op (.p rfl) (.loadAt dK rfl h rfl) ?_;refine O.q 1 rfl<|O.aB (.p rfl) rfl aa rfl rfl ((MC (by first|assumption|exact aj.mono hg zE|exact aj.left zE|exact aj.left (aj.mono hg zE)) zE bJ)) ?_;rintro _ _ ⟨rfl,rfl⟩
 try simp only [an,aq,au]
 refine O.q 4 rfl<|O.nil<|S.mW results105 rfl rfl fun w hw=>Holds.end_ hR hw ?_;exact pk ⟨rfl,rfl⟩
theorem Cn {r:Fr} {a:Option Addr} {c i:Nat} {ak:List (List Value)} (hi:i<ak.length) :
  ay prog 156 #[.slice a ak.length c,.int .i64 (i:Int),.int .i64 ((i:Int)+1)] r [av (ag.cells 2) 31 (.slice a ak.length c) ak]
   (aL fun u U=>u=.slice a (ak.length - 1) c∧U=[av (ag.cells 2) 31 (.slice a (ak.length - 1) c) (ak.eraseIdx i)]):=by
 refine ay.of (n:=33) _ rfl func156 rfl rfl rfl fun g hg R hR=>?_;refine S.lV .here (fun _ x=>x.vZ ah) fun ⟨⟨b,hb⟩,_,hc1,tw⟩=>?_;subst hb;have hel:(ak.eraseIdx i).length=ak.length - 1:=List.length_eraseIdx_of_lt hi;refine S.slot 2 (v' :=.int .i64 ((i+1:Nat):Int)) rfl (by rw [Int.natCast_add];rfl) ?_;refine S.seq<|S.region rfl<|O.q 1 rfl<|O.nil<|S.seq<|S.region rfl<|O.q 4 rfl<|O.op (.p rfl) (.len rfl underlying25 rfl)<|O.op (.p rfl) (.K2 (r:=ak.length) underlying25 di rfl rfl rfl rfl ah ah ah)<|O.nil<|S.seq<|S.seq<|S.region rfl<|O.q 2 rfl<|O.op (.p rfl) (.eql rfl rfl)<|O.aN 16 rfl (by exact decide_eq_false ah) ?_;refine O.nil<|S.aQ rfl<|S.skip<|S.seq<|S.region rfl<|O.q 1 rfl<|O.op (.p rfl) (.len rfl underlying25 rfl)<|O.q 1 rfl<|O.nil<|S.seq<|S.bB (L:=[0,1,2,3,4,5,6,7]) bA aa<|af.q 2 rfl<|.quiet (.p rfl) rfl (fun _=>.ur (p:=i) underlying25 di rfl rfl ah)<|af.q 2 rfl<|.quiet (.p rfl) rfl (fun _=>.iK (p:=i+1) underlying25 di rfl rfl ah)<|af.yT (.p rfl) aa underlying25 lp hi rfl rfl ai ?_;rw [← hel]
 refine af.q 1 rfl<|aI.nil<|S.seq<|S.region rfl<|O.q 2 rfl<|O.op (.p rfl) (.len rfl underlying25 rfl)<|O.q 1 rfl<|O.op (.p rfl) (.K3 (p:=(ak.eraseIdx i).length) (q:=ak.length) underlying25 di rfl rfl rfl ah ah)<|O.B8 rfl underlying25 lp qt aC ah ah rfl ai ?_;refine O.nil<|S.seq<|S.region rfl<|O.q 2 rfl<|O.nil ?_;rw [hel];exact S.rt results156 rfl hR ⟨rfl,rfl⟩
theorem Co {r:Fr} {a:Option Addr} {c i:Nat} {ak:List (List Value)} (hi:i<ak.length) :
  ay prog 157 #[.slice a ak.length c,.int .i64 (i:Int),.int .i64 ((i:Int)+1)] r [av (ag.cells 1) 9 (.slice a ak.length c) ak]
   (aL fun u U=>u=.slice a (ak.length - 1) c∧U=[av (ag.cells 1) 9 (.slice a (ak.length - 1) c) (ak.eraseIdx i)]):=by
 refine ay.of (n:=33) _ rfl func157 rfl rfl rfl fun g hg R hR=>?_;refine S.lV .here (fun _ x=>x.vZ ah) fun ⟨⟨b,hb⟩,_,hc1,tw⟩=>?_;subst hb;have hel:(ak.eraseIdx i).length=ak.length - 1:=List.length_eraseIdx_of_lt hi;refine S.slot 2 (v' :=.int .i64 ((i+1:Nat):Int)) rfl (by rw [Int.natCast_add];rfl) ?_;refine S.seq<|S.region rfl<|O.q 1 rfl<|O.nil<|S.seq<|S.region rfl<|O.q 4 rfl<|O.op (.p rfl) (.len rfl underlying53 rfl)<|O.op (.p rfl) (.K2 (r:=ak.length) underlying53 gG rfl rfl rfl rfl ah ah ah)<|O.nil<|S.seq<|S.seq<|S.region rfl<|O.q 2 rfl<|O.op (.p rfl) (.eql rfl rfl)<|O.aN 16 rfl (by exact decide_eq_false ah) ?_;refine O.nil<|S.aQ rfl<|S.skip<|S.seq<|S.region rfl<|O.q 1 rfl<|O.op (.p rfl) (.len rfl underlying53 rfl)<|O.q 1 rfl<|O.nil<|S.seq<|S.bB (L:=[0,1,2,3,4,5,6,7]) bA aa<|af.q 2 rfl<|.quiet (.p rfl) rfl (fun _=>.ur (p:=i) underlying53 gG rfl rfl ah)<|af.q 2 rfl<|.quiet (.p rfl) rfl (fun _=>.iK (p:=i+1) underlying53 gG rfl rfl ah)<|af.yT (.p rfl) aa underlying53 gY hi rfl rfl ai ?_;rw [← hel]
 refine af.q 1 rfl<|aI.nil<|S.seq<|S.region rfl<|O.q 2 rfl<|O.op (.p rfl) (.len rfl underlying53 rfl)<|O.q 1 rfl<|O.op (.p rfl) (.K3 (p:=(ak.eraseIdx i).length) (q:=ak.length) underlying53 gG rfl rfl rfl ah ah)<|O.B8 rfl underlying53 gY ng aC ah ah rfl ai ?_;refine O.nil<|S.seq<|S.region rfl<|O.q 2 rfl<|O.nil ?_;rw [hel];exact S.rt results157 rfl hR ⟨rfl,rfl⟩
theorem yt {r:Fr} (x:bX) {a:Nat} {z:Int} (hz:z=0 - (a:Int)) (h0:0<a) (h:a<64) :
  ay prog 327 #[.int .u64 (x.toNat:Int),.int .i64 z] r [] (aL fun v U=>v=.int .u64 ((pN x a).toNat:Int)∧U=[]):=by
 refine ay.of (n:=17) _ rfl func327 rfl rfl rfl fun g hg R hR=>?_;refine S.seq<|S.region rfl<|O.q 1 rfl<|O.nil<|S.seq<|S.region rfl<|O.q 1 rfl<|O.op (.p rfl) (.lU underlying3 underlying197 rfl)<|O.op (.p rfl) (.and rfl rfl)<|O.slot 8 (v' :=.int .u64 ((64 - a:Nat):Int)) rfl (by exact congrArg (Value.int .u64) (Tl hz h0 h)) ?_;refine O.q 1 rfl<|O.nil<|S.seq<|S.region rfl<|O.q 2 rfl<|O.op (.p rfl) (.shl rfl rfl ah)<|O.slot 11 (v' :=.int .u64 ((x <<<UInt64.ofNat (64 - a)).toNat:Int)) rfl (by exact congrArg (Value.int .u64) (LC x ah)) ?_;refine O.q 2 rfl<|O.op (.p rfl) (.WE rfl rfl)<|O.slot 14 (v' :=.int .u64 (a:Int)) rfl (by (rw [show ((64:Int) - ((64 - a:Nat):Int))=((a:Nat):Int) from by omega,rp ah])) ?_;refine O.op (.p rfl) (.shr rfl rfl ah)<|O.slot 15 (v' :=.int .u64 ((x >>>UInt64.ofNat a).toNat:Int)) rfl (by exact congrArg (Value.int .u64) (LD x h)) ?_;refine O.op (.p rfl) (.or rfl rfl)<|O.slot 16 (v' :=.int .u64 ((pN x a).toNat:Int)) rfl (by exact congrArg (Value.int .u64) ((LB _ _).trans (by rw [UInt64.or_comm];rfl))) ?_;refine O.q 1 rfl<|O.nil ?_;exact S.rt results327 rfl hR ⟨rfl,rfl⟩
theorem JI {r:Fr} (x:bX) {a b c:Nat} (h0:0<a) (h:a<64) (k0:0<b) (k:b<64) (RO:0<c) (j:c<64) :
  ay prog 287 #[.int .u64 (x.toNat:Int),.int .i64 (a:Int),.int .i64 (b:Int),.int .i64 (c:Int)] r [] (aL fun v U=>v=.int .u64 ((ox x a b c).toNat:Int)∧U=[]):=by
 refine ay.of (n:=23) _ rfl func287 rfl rfl rfl fun g hg R hR=>?_;have w:∀ n:Nat,n<64→IntKind.i64.wrap (0 - (n:Int))=0 - (n:Int):=fun n hn=>IntWalk.i64_in _ ah;refine S.seq<|S.region rfl<|O.q 1 rfl<|O.nil<|S.seq<|S.region rfl<|O.q 2 rfl<|O.op (.p rfl) (.neg rfl)<|O.slot 11 (v' :=.int .i64 (0 - (a:Int))) rfl (by rw [w a h]) ?_;refine O.aB (.p rfl) rfl aa rfl rfl ((yt x rfl h0 h)) ?_;rintro _ _ ⟨rfl,rfl⟩
 try simp only [an,aq,au]
 refine O.q 2 rfl<|O.op (.p rfl) (.neg rfl)<|O.slot 15 (v' :=.int .i64 (0 - (b:Int))) rfl (by rw [w b k]) ?_;refine O.aB (.p rfl) rfl aa rfl rfl ((yt x rfl k0 k)) ?_;rintro _ _ ⟨rfl,rfl⟩
 try simp only [an,aq,au]
 refine O.op (.p rfl) (.xor rfl rfl)<|O.slot 17 (v' :=.int .u64 ((pN x a ^^^ pN x b).toNat:Int)) rfl (by exact congrArg (Value.int .u64) (sE _ _)) ?_;refine O.q 2 rfl<|O.op (.p rfl) (.neg rfl)<|O.slot 20 (v' :=.int .i64 (0 - (c:Int))) rfl (by rw [w c j]) ?_;refine O.aB (.p rfl) rfl aa rfl rfl ((yt x rfl RO j)) ?_;rintro _ _ ⟨rfl,rfl⟩
 try simp only [an,aq,au]
 refine O.op (.p rfl) (.xor rfl rfl)<|O.slot 22 (v' :=.int .u64 ((ox x a b c).toNat:Int)) rfl (by exact congrArg (Value.int .u64) (sE _ _)) ?_;refine O.q 1 rfl<|O.nil ?_;exact S.rt results287 rfl hR ⟨rfl,rfl⟩
theorem K4 {r:Fr} (x:bX) {a b c:Nat} (h0:0<a) (h:a<64) (k0:0<b) (k:b<64) (j:c<64) :
  ay prog 286 #[.int .u64 (x.toNat:Int),.int .i64 (a:Int),.int .i64 (b:Int),.int .i64 (c:Int)] r [] (aL fun v U=>v=.int .u64 ((ri x a b c).toNat:Int)∧U=[]):=by
 refine ay.of (n:=22) _ rfl func286 rfl rfl rfl fun g hg R hR=>?_;have w:∀ n:Nat,n<64→IntKind.i64.wrap (0 - (n:Int))=0 - (n:Int):=fun n hn=>IntWalk.i64_in _ ah;refine S.seq<|S.region rfl<|O.q 1 rfl<|O.nil<|S.seq<|S.bB (L:=[0,1,2,4,5,6,9,10,11,3,7,8,12,13]) bA aa<|af.q 2 rfl<|.quiet (.p rfl) rfl (fun _=>.neg rfl)<|af.slot 11 (v' :=.int .i64 (0 - (a:Int))) rfl (by rw [w a h]) ?_;refine af.q 2 rfl<|.quiet (.p rfl) rfl (fun _=>.neg rfl)<|af.slot 15 (v' :=.int .i64 (0 - (b:Int))) rfl (by rw [w b k]) ?_;refine af.q 2 rfl<|.quiet (.p rfl) rfl (fun _=>.shr rfl rfl ah)<|af.slot 20 (v' :=.int .u64 ((x >>>UInt64.ofNat c).toNat:Int)) rfl (by exact congrArg (Value.int .u64) (LD x j)) ?_;refine af.aB (.p rfl) aa rfl aa rfl rfl ((yt x rfl h0 h)) ?_;rintro _ _ ⟨rfl,rfl⟩
 try simp only [an,aq,au]
 refine af.aB (.p rfl) aa rfl aa rfl rfl ((yt x rfl k0 k)) ?_;rintro _ _ ⟨rfl,rfl⟩
 try simp only [an,aq,au]
 refine .quiet (.p rfl) rfl (fun _=>.xor rfl rfl)<|af.slot 17 (v' :=.int .u64 ((pN x a ^^^ pN x b).toNat:Int)) rfl (by exact congrArg (Value.int .u64) (sE _ _)) ?_;refine .quiet (.p rfl) rfl (fun _=>.xor rfl rfl)<|af.slot 21 (v' :=.int .u64 ((ri x a b c).toNat:Int)) rfl (by exact congrArg (Value.int .u64) (sE _ _)) ?_;refine af.q 1 rfl<|aI.nil ?_;exact S.rt results286 rfl hR ⟨rfl,rfl⟩
theorem LW {r:Fr} {a:Addr} {t:Nat} (h:At r a (bR gr)) (ht:t<80):r.cell (a.add t)=some (qp (gr.getD t 0)):=h.at (qq (by show t<80;exact ht))
theorem GP {r:Fr} {iz:Nat} {T:TypeId} {je:Value} {b:List UInt8} {v:List bX} {rest:List Value} (hv:v.length=8) (hb:aj ag.u8 r je b) (hl:b.length=128) (hK:At r ⟨1,0,none⟩ (bR gr)) :
  ay prog 211 #[.pointer (some ⟨iz,0,none⟩),je] r [obj iz T (bR v++rest)] (aL fun u U=>u=.tuple #[]∧U=[obj iz T (bR (rf v b)++rest)]):=by
 refine ay.of (n:=147) _ rfl func211 rfl rfl rfl fun g hg R hR=>?_;have hb:=hb.mono hg;have hK:=hK.mono hg;obtain ⟨a1,c1,rfl⟩:=hb.shape;refine S.seq<|S.region rfl<|O.aM (.p rfl) (.alloc (cs:=[.int .u64 0,.int .u64 0,.int .u64 0,.int .u64 0,.int .u64 0,.int .u64 0,.int .u64 0,.int .u64 0,.int .u64 0,.int .u64 0,.int .u64 0,.int .u64 0,.int .u64 0,.int .u64 0,.int .u64 0,.int .u64 0,.int .u64 0,.int .u64 0,.int .u64 0,.int .u64 0,.int .u64 0,.int .u64 0,.int .u64 0,.int .u64 0,.int .u64 0,.int .u64 0,.int .u64 0,.int .u64 0,.int .u64 0,.int .u64 0,.int .u64 0,.int .u64 0,.int .u64 0,.int .u64 0,.int .u64 0,.int .u64 0,.int .u64 0,.int .u64 0,.int .u64 0,.int .u64 0,.int .u64 0,.int .u64 0,.int .u64 0,.int .u64 0,.int .u64 0,.int .u64 0,.int .u64 0,.int .u64 0,.int .u64 0,.int .u64 0,.int .u64 0,.int .u64 0,.int .u64 0,.int .u64 0,.int .u64 0,.int .u64 0,.int .u64 0,.int .u64 0,.int .u64 0,.int .u64 0,.int .u64 0,.int .u64 0,.int .u64 0,.int .u64 0,.int .u64 0,.int .u64 0,.int .u64 0,.int .u64 0,.int .u64 0,.int .u64 0,.int .u64 0,.int .u64 0,.int .u64 0,.int .u64 0,.int .u64 0,.int .u64 0,.int .u64 0,.int .u64 0,.int .u64 0,.int .u64 0]) zeroValue382 rfl) ?_;rintro _ _ ⟨b4,rfl,rfl⟩;refine O.nil<|S.seq<|S.seq<|S.region rfl<|O.q 1 rfl<|O.nil<|S.block<|S.c7 (b:=b4) (cs' :=bR (jw b 0)) ai rfl ?_
 refine S.e6 (ι:=Nat) (fun t=>t≤80) (fun t=>[(16,.int .i64 (t:Int))]) [(0,_),(1,_),(4,_)] (fun t=>[obj b4 382 (bR (jw b t)),obj iz T (bR v++rest)]) (fun t=>80 - t) (0) ah (.cons rfl (.nil)) (.cons rfl (.cons rfl (.cons rfl (.nil)))) rfl fun t hx ih=>?_;have aX:=cL (g:=g);refine S.seq<|S.region rfl<|O.op (.p rfl) (.lss rfl rfl)<|O.nil (S.seq ?_)
 first|refine S.cc rfl (fun gx=>?_) (fun gx=>?_)|refine S.b7 rfl (fun gx=>?_) (fun gx=>?_)
 ·have ht:t<80:=by omega
  have hml:=V4 (b:=b) (Nat.le_of_lt ht);refine S.skip<|S.seq<|S.block<|S.seq<|S.region rfl<|O.q 2 rfl<|O.nil<|S.seq<|S.seq<|S.region rfl<|O.q 1 rfl<|O.op (.p rfl) (.lss rfl rfl)<|O.nil ?_
  first|refine S.cc rfl (fun fL=>?_) (fun fL=>?_)|refine S.b7 rfl (fun fL=>?_) (fun fL=>?_)
  ·have j_:t<16:=by omega
   have QL:(b.take (8*t+8)).drop (8*t)=(b.drop (8*t)).take 8:=by rw [List.drop_take];congr 1;omega
   have hsa:mH ((b.take (8*t+8)).drop (8*t))=q_ b (sched b t) t:=by rw [QL,q_,if_pos j_]
   have fI:((b.take (8*t+8)).drop (8*t)).length=8:=by simp;omega
   refine S.seq<|S.seq<|S.region rfl<|O.q 2 rfl<|O.op (.p rfl) (.mul rfl rfl (IntWalk.i64_in _ ah))<|O.q 1 rfl<|O.op (.p rfl) (.mul rfl rfl (IntWalk.i64_in _ ah))<|O.op (.p rfl) (.add rfl rfl (IntWalk.i64_in _ ah))<|O.Wn (a:=8*t) (b:=8*t+8) (.p rfl) underlying24 fR rfl rfl rfl zE bJ bJ bJ bJ (fun aaz vo=>?_);obtain ⟨a27,sX,rfl⟩:=vo.shape;refine O.op (.p rfl) (.len rfl underlying24 rfl)<|O.q 1 rfl<|O.nil (S.block ?_);generalize (b.take (8*t+8)).drop (8*t)=qi at *;rw [fI] at vo ⊢;refine S.c7 (b:=b4) (cs' :=bR ((jw b t).set t (mH (qi.take 0)))) ai (by rw [show mH (qi.take 0)=0 from rfl,V5 ht]) ?_;refine S.e6 (ι:=Nat) (fun j=>j≤8) (fun j=>[(29,.int .i64 (j:Int))]) [(0,_),(1,_),(4,_),(5,_),(16,_),(27,_),(28,_)] (fun j=>[obj b4 382 (bR ((jw b t).set t (mH (qi.take j)))),obj iz T (bR v++rest)]) (fun j=>8 - j) (0) ah (.cons rfl (.nil)) (.cons rfl (.cons rfl (.cons rfl (.cons rfl (.cons rfl (.cons rfl (.cons rfl (.nil)))))))) rfl fun j hx ih=>?_;have hm2:=cL (g:=g);refine S.seq<|S.region rfl<|O.op (.p rfl) (.lss rfl rfl)<|O.nil (S.seq ?_)
   first|refine S.cc rfl (fun CQ=>?_) (fun CQ=>?_)|refine S.b7 rfl (fun CQ=>?_) (fun CQ=>?_)
   ·have hj:j<8:=by omega
    refine S.skip<|S.seq<|S.block<|S.seq<|S.region rfl<|O.b8 (.p rfl) underlying24 fR rfl rfl rfl (by first|assumption|exact aj.mono hg zE|exact aj.left zE|exact aj.left (aj.mono hg zE)) (h:=fun Z8 Yc Qd Qy=>?_)
    cases Qy
    refine O.op (.p rfl) (.loadAt lu rfl Qd rfl) ?_;refine O.q 1 rfl<|O.nil<|S.region rfl<|O.q 2 rfl<|O.op (.p rfl) (.p_ (j:=t) underlying382 gu rfl rfl (show _=(((t):Nat):Int) by omega) ah)<|O.op (.p rfl) (.cS gj rfl ai (qq (by rw [List.length_set];omega))) ?_;refine O.slot 36 (v' :=.int .u64 ((mH (qi.take j)).toNat:Int)) rfl (by rw [Nat.zero_add,Oe ah]) ?_;refine O.op (.p rfl) (.shl rfl rfl ah)<|O.slot 37 (v' :=.int .u64 ((mH (qi.take j) <<<8).toNat:Int)) rfl (by exact congrArg (Value.int .u64) (LC _ (n:=8) aC)) ?_;refine O.q 1 rfl<|O.op (.p rfl) (.lU underlying5 underlying274 rfl)<|O.slot 39 (v' :=.int .u64 ((UInt64.ofNat qi[j].toNat).toNat:Int)) rfl (by exact congrArg (Value.int .u64) (Xz _)) ?_;refine O.op (.p rfl) (.or rfl rfl)<|O.slot 40 (v' :=.int .u64 ((mH (qi.take (j+1))).toNat:Int)) rfl (by exact congrArg (Value.int .u64) ((LB _ _).trans (by rw [Mt ah]))) ?_;refine O.op (.p rfl) (.p_ (j:=t) underlying382 gu rfl rfl (show _=(((t):Nat):Int) by omega) ah)<|O.bu rfl (.bn gj rfl rfl rfl ai (by rw [mZ,List.length_set,hml];omega)) ?_;refine O.nil<|S.inBlock<|S.c7 (b:=b4) (cs' :=bR ((jw b t).set t (mH (qi.take (j+1))))) ai (by rw [show Value.int .u64 ((mH (qi.take (j+1))).toNat:Int)=qp (mH (qi.take (j+1))) from rfl,FZ,Nat.zero_add,List.set_set]) ?_
    refine S.region rfl<|O.op (.p rfl) (.add rfl rfl (IntWalk.i64_in _ ah))<|O.q 1 rfl<|O.nil ?_;exact S.dz (ih (j+1) ah ah)
   ·clear ih
    have hj:j=8:=by omega
    subst hj;refine S.c7 (b:=b4) (cs' :=bR (jw b (t+1))) ai (by rw [List.take_of_length_le ah,hsa,KT ht]) ?_;refine S.exit rfl<|S.exit rfl<|S.region rfl<|O.op (.p rfl) (.add rfl rfl (IntWalk.i64_in _ ah))<|O.q 1 rfl<|O.nil ?_;exact S.dz (ih (t+1) ah ah)
  ·have j_:16≤t:=by omega
   have hsa:ri ((sched b t).getD (t - 2) 0) 19 61 6+(sched b t).getD (t - 7) 0+ri ((sched b t).getD (t - 15) 0) 1 8 7+(sched b t).getD (t - 16) 0=q_ b (sched b t) t:=by rw [q_,if_neg ah]
   refine S.skip ?_;have fq:=hg;have fp:=hR
   try have Pa:=hb
   try have Db:=hK
   refine S.iD (B:=obj b4 382 (bR (jw b t))) ai fun go cI ⟨qf,hmo,jE⟩ eT=>?_;replace hg:=Fr.aH hg cI;replace hR:=iy hR eT
   try replace hb:=hb.mono cI
   try replace hK:=hK.mono cI
   have dm:=(gf hmo).mono jE;refine S.bB (L:=[0,1,2,3,4,6,7,8,9,11,12,13,14,17,18,19,20,5,10,15,16,21,22,23]) bA aa ?_;refine af.q 2 rfl<|.quiet (.p rfl) rfl (fun _=>.sub rfl rfl (IntWalk.i64_in _ ah))<|.quiet (.p rfl) rfl (fun _=>.kN (j:=t - 2) underlying382 gu rfl rfl (show _=((t - 2:Nat):Int) by omega) ah)<|.quiet (.p rfl) rfl (fun _=>.load gj rfl (dm.at (qq ah))) ?_;refine af.slot 47 (v' :=.int .u64 (((sched b t).getD (t - 2) 0).toNat:Int)) rfl (by rw [A6 ah]) ?_;refine af.q 1 rfl<|.quiet (.p rfl) rfl (fun _=>.sub rfl rfl (IntWalk.i64_in _ ah))<|.quiet (.p rfl) rfl (fun _=>.kN (j:=t - 7) underlying382 gu rfl rfl (show _=((t - 7:Nat):Int) by omega) ah)<|.quiet (.p rfl) rfl (fun _=>.load gj rfl (dm.at (qq ah))) ?_;refine af.slot 52 (v' :=.int .u64 (((sched b t).getD (t - 7) 0).toNat:Int)) rfl (by rw [A6 ah]) ?_;refine af.q 1 rfl<|.quiet (.p rfl) rfl (fun _=>.sub rfl rfl (IntWalk.i64_in _ ah))<|.quiet (.p rfl) rfl (fun _=>.kN (j:=t - 15) underlying382 gu rfl rfl (show _=((t - 15:Nat):Int) by omega) ah)<|.quiet (.p rfl) rfl (fun _=>.load gj rfl (dm.at (qq ah))) ?_;refine af.slot 57 (v' :=.int .u64 (((sched b t).getD (t - 15) 0).toNat:Int)) rfl (by rw [A6 ah]) ?_
   refine af.q 1 rfl<|.quiet (.p rfl) rfl (fun _=>.sub rfl rfl (IntWalk.i64_in _ ah))<|.quiet (.p rfl) rfl (fun _=>.kN (j:=t - 16) underlying382 gu rfl rfl (show _=((t - 16:Nat):Int) by omega) ah)<|.quiet (.p rfl) rfl (fun _=>.load gj rfl (dm.at (qq ah))) ?_;refine af.slot 63 (v' :=.int .u64 (((sched b t).getD (t - 16) 0).toNat:Int)) rfl (by rw [A6 ah]) ?_;refine af.aB (.p rfl) aa rfl aa rfl rfl ((K4 (a:=19) (b:=61) (c:=6) _ aC aC aC aC aC)) ?_;rintro _ _ ⟨rfl,rfl⟩
   try simp only [an,aq,au]
   refine .quiet (.p rfl) rfl (fun _=>.nq rfl rfl)<|af.slot 53 (v' :=.int .u64 ((ri ((sched b t).getD (t - 2) 0) 19 61 6+(sched b t).getD (t - 7) 0).toNat:Int)) rfl (by exact congrArg (Value.int .u64) (pS _ _)) ?_;refine af.aB (.p rfl) aa rfl aa rfl rfl ((K4 (a:=1) (b:=8) (c:=7) _ aC aC aC aC aC)) ?_;rintro _ _ ⟨rfl,rfl⟩
   try simp only [an,aq,au]
   refine .quiet (.p rfl) rfl (fun _=>.nq rfl rfl)<|af.slot 59 (v' :=.int .u64 ((ri ((sched b t).getD (t - 2) 0) 19 61 6+(sched b t).getD (t - 7) 0+ri ((sched b t).getD (t - 15) 0) 1 8 7).toNat:Int)) rfl (by exact congrArg (Value.int .u64) (pS _ _)) ?_;refine .quiet (.p rfl) rfl (fun _=>.nq rfl rfl)<|af.slot 64 (v' :=.int .u64 ((q_ b (sched b t) t).toNat:Int)) rfl (by exact congrArg (Value.int .u64) ((pS _ _).trans (by rw [hsa]))) ?_;refine .quiet (.p rfl) rfl (fun _=>.p_ (j:=t) underlying382 gu rfl rfl rfl ah)<|af.xX rfl aa (fun _ hw=>eT hw) gj rfl rfl bq ai yJ ?_;replace hg:=fq;replace hR:=fp
   try replace hb:=Pa
   try replace hK:=Db
   clear fq fp;refine S.inBlock<|S.c7 (b:=b4) (cs' :=bR (jw b (t+1))) ai (by rw [show Value.int .u64 ((q_ b (sched b t) t).toNat:Int)=qp (q_ b (sched b t) t) from rfl,FZ,Nat.zero_add,KT ht]) ?_;refine S.region rfl<|O.op (.p rfl) (.add rfl rfl (IntWalk.i64_in _ ah))<|O.q 1 rfl<|O.nil ?_;exact S.dz (ih (t+1) ah ah)
 ·clear ih
  have ht:t=80:=by omega
  subst ht;rw [V3];have hS:=yx b 80;have hblk:rf v b=List.zipWith (·+·) v (q9 v (sched b 80) 80):=rfl;generalize sched b 80=mE at *;refine S.exit rfl<|S.seq<|S.region rfl<|O.q 1 rfl<|O.op (.p rfl) (.nilCheck rfl)<|O.op (.p rfl) (.r_ (news:=bR v) isAgg276 (by rw [mZ,hv];kernel_rfl) rfl ai (by rw [List.drop_zero,List.take_left' rfl])) ?_;refine O.aM (.p rfl) (.alloc (cs:=[.int .u64 0,.int .u64 0,.int .u64 0,.int .u64 0,.int .u64 0,.int .u64 0,.int .u64 0,.int .u64 0]) zeroValue276 rfl) ?_;rintro _ _ ⟨j7,rfl,rfl⟩;refine O.bu rfl (.cZ (news:=bR v) (by rw [mZ,hv];kernel_rfl) rfl rfl sO (Xv v) ai (by rw [mZ,hv];decide)) ?_;refine O.nil<|S.seq<|S.seq<|S.c7 (b:=j7) (cs' :=bR v) ai (by rw [List.take_zero,List.nil_append,List.drop_eq_nil_of_le (by rw [mZ,hv];decide),List.append_nil]) ?_;refine S.region rfl<|O.op (.p rfl) (.r_ (news:=bR mE) isAgg382 (by rw [mZ,hS];kernel_rfl) rfl ai (by rw [List.drop_zero,List.take_length])) ?_;refine O.q 1 rfl<|O.nil<|S.block<|S.e6 (ι:=Nat) (fun t=>t≤80) (fun t=>[(71,.int .i64 (t:Int))]) [(0,_),(8,_),(70,_)] (fun t=>[obj j7 276 (bR (q9 v mE t)),obj b4 382 (bR mE),obj iz T (bR v++rest)]) (fun t=>80 - t) (0) ah (.cons rfl (.nil)) (.cons rfl (.cons rfl (.cons rfl (.nil)))) rfl fun t hx ih=>?_;have hm2:=cL (g:=g)
  refine S.seq<|S.region rfl<|O.op (.p rfl) (.lss rfl rfl)<|O.nil (S.seq ?_)
  first|refine S.cc rfl (fun C3=>?_) (fun C3=>?_)|refine S.b7 rfl (fun C3=>?_) (fun C3=>?_)
  ·have ht:t<80:=by omega
   obtain ⟨x0,x1,cC,eH,cU,eN,eO,gH,hxs⟩:=JC (Fx v mE hv t);have hst:q9 v mE (t+1)=Kz [x0,x1,cC,eH,cU,eN,eO,gH] (gr.getD t 0) (mE.getD t 0):=by rw [q9,hxs]
   rw [hxs];refine S.c7 (b:=j7) (cs' :=[.int .u64 (x0.toNat:Int),.int .u64 (x1.toNat:Int),.int .u64 (cC.toNat:Int),.int .u64 (eH.toNat:Int),.int .u64 (cU.toNat:Int),.int .u64 (eN.toNat:Int),.int .u64 (eO.toNat:Int),.int .u64 (gH.toNat:Int)]) ai rfl ?_;have xo:=hg;have w9:=hR
   try have Dt:=hb
   try have Dc:=hK
   refine S.iD (B:=obj j7 276 [.int .u64 (x0.toNat:Int),.int .u64 (x1.toNat:Int),.int .u64 (cC.toNat:Int),.int .u64 (eH.toNat:Int),.int .u64 (cU.toNat:Int),.int .u64 (eN.toNat:Int),.int .u64 (eO.toNat:Int),.int .u64 (gH.toNat:Int)]) ai fun Oi hsp ⟨mp,hmp,El⟩ xg=>?_;replace hg:=Fr.aH hg hsp;replace hR:=iy hR xg
   try replace hb:=hb.mono hsp
   try replace hK:=hK.mono hsp
   have dm:=(gf hmp).mono El;refine S.skip<|S.seq<|S.block<|S.seq<|S.region rfl<|O.q 1 rfl<|O.op (.p rfl) (.Jg (j:=t) underlying382 gu gj rfl rfl rfl ah (by rw [List.getElem?_toArray];exact qq ah)) ?_;refine O.slot 74 (v' :=.int .u64 ((mE.getD t 0).toNat:Int)) rfl aK ?_;refine O.q 2 rfl<|O.nil<|S.seq<|S.bB (L:=[0,1,2,3,4,5]) bA aa<|.quiet (.p rfl) rfl (fun _=>.kN (j:=0) underlying276 gu rfl rfl rfl ah)<|.quiet (.p rfl) rfl (fun _=>.loadAt gj rfl dm rfl) ?_;refine .quiet (.p rfl) rfl (fun _=>.kN (j:=4) underlying276 gu rfl rfl rfl ah)<|.quiet (.p rfl) rfl (fun _=>.loadAt gj rfl (dm.drop 4) rfl) ?_;refine af.q 2 rfl<|aI.nil<|S.seq<|S.bB (L:=[0,1,2,5,6,7,8,9,10,11,12,13,14,16,17,18,20,3,4,15,19,21,22]) bA aa<|.quiet (.p rfl) rfl (fun _=>.kN (j:=7) underlying276 gu rfl rfl rfl ah)<|.quiet (.p rfl) rfl (fun _=>.loadAt gj rfl (dm.drop 7) rfl) ?_;refine af.q 2 rfl<|.quiet (.p rfl) rfl (fun _=>.kN (j:=5) underlying276 gu rfl rfl rfl ah)<|.quiet (.p rfl) rfl (fun _=>.loadAt gj rfl (dm.drop 5) rfl) ?_;refine .quiet (.p rfl) rfl (fun _=>.and rfl rfl)<|af.slot 87 (v' :=.int .u64 ((cU &&& eN).toNat:Int)) rfl (by exact congrArg (Value.int .u64) (we _ _)) ?_
   refine af.q 1 rfl <| .quiet (.p rfl) rfl (fun _ => .Nc rfl) <| af.slot 89 (v' := .int .u64 ((~~~cU).toNat : Int)) rfl (by exact congrArg (Value.int .u64) (Xy _)) ?_;refine .quiet (.p rfl) rfl (fun _ => .kN (j := 6) underlying276 gu rfl rfl rfl ah) <| .quiet (.p rfl) rfl (fun _ => .loadAt gj rfl (dm.drop 6) rfl) ?_;refine .quiet (.p rfl) rfl (fun _ => .and rfl rfl) <| af.slot 92 (v' := .int .u64 ((~~~cU &&& eO).toNat : Int)) rfl (by exact congrArg (Value.int .u64) (we _ _)) ?_;refine .quiet (.p rfl) rfl (fun _ => .xor rfl rfl) <| af.slot 93 (v' := .int .u64 ((cU &&& eN ^^^ ~~~cU &&& eO).toNat : Int)) rfl (by exact congrArg (Value.int .u64) (sE _ _)) ?_;refine af.q 1 rfl <| .quiet (.p rfl) rfl (fun _ => .kN (j := t) underlying382 gu rfl rfl rfl ah) <| .quiet (.p rfl) rfl (fun _ => .load gj rfl (LW hK ht)) ?_;refine af.slot 97 (v' := .int .u64 ((gr.getD t 0).toNat : Int)) rfl aK ?_;refine af.q 1 rfl <| af.aB (.p rfl) aa rfl aa rfl rfl ((JI (a := 14) (b := 18) (c := 41) cU aC aC aC aC aC aC)) ?_;rintro _ _ ⟨rfl, rfl⟩
   try simp only [an,aq,au]
   refine .quiet (.p rfl) rfl (fun _ => .nq rfl rfl) <| af.slot 83 (v' := .int .u64 ((gH + ox cU 14 18 41).toNat : Int)) rfl (by exact congrArg (Value.int .u64) (pS _ _)) ?_;refine .quiet (.p rfl) rfl (fun _ => .nq rfl rfl) <| af.slot 94 (v' := .int .u64 ((gH + ox cU 14 18 41 + (cU &&& eN ^^^ ~~~cU &&& eO)).toNat : Int)) rfl (by exact congrArg (Value.int .u64) (pS _ _)) ?_;refine .quiet (.p rfl) rfl (fun _ => .nq rfl rfl) <| af.slot 98 (v' := .int .u64 ((gH + ox cU 14 18 41 + (cU &&& eN ^^^ ~~~cU &&& eO) + gr.getD t 0).toNat : Int)) rfl (by exact congrArg (Value.int .u64) (pS _ _)) ?_;refine .quiet (.p rfl) rfl (fun _ => .nq rfl rfl) <| af.slot 100 (v' := .int .u64 ((gH + ox cU 14 18 41 + (cU &&& eN ^^^ ~~~cU &&& eO) + gr.getD t 0 + mE.getD t 0).toNat : Int)) rfl (by exact congrArg (Value.int .u64) (pS _ _)) ?_;refine af.q 1 rfl <| aI.nil <| S.seq <| S.bB (L := [0, 2, 3, 4, 5, 6, 7, 8, 9, 10, 11, 12, 13, 14, 15, 16, 1, 17, 18]) bA aa <| af.q 2 rfl <| .quiet (.p rfl) rfl (fun _ => .kN (j := 1) underlying276 gu rfl rfl rfl ah) <| .quiet (.p rfl) rfl (fun _ => .loadAt gj rfl (dm.drop 1) rfl) ?_;refine .quiet (.p rfl) rfl (fun _ => .and rfl rfl) <| af.slot 106 (v' := .int .u64 ((x0 &&& x1).toNat : Int)) rfl (by exact congrArg (Value.int .u64) (we _ _)) ?_
   refine af.q 1 rfl<|.quiet (.p rfl) rfl (fun _=>.kN (j:=2) underlying276 gu rfl rfl rfl ah)<|.quiet (.p rfl) rfl (fun _=>.loadAt gj rfl (dm.drop 2) rfl) ?_;refine .quiet (.p rfl) rfl (fun _=>.and rfl rfl)<|af.slot 110 (v' :=.int .u64 ((x0 &&& cC).toNat:Int)) rfl (by exact congrArg (Value.int .u64) (we _ _)) ?_;refine .quiet (.p rfl) rfl (fun _=>.xor rfl rfl)<|af.slot 111 (v' :=.int .u64 ((x0 &&& x1 ^^^ x0 &&& cC).toNat:Int)) rfl (by exact congrArg (Value.int .u64) (sE _ _)) ?_;refine .quiet (.p rfl) rfl (fun _=>.kN (j:=1) underlying276 gu rfl rfl rfl ah)<|.quiet (.p rfl) rfl (fun _=>.loadAt gj rfl (dm.drop 1) rfl) ?_;refine .quiet (.p rfl) rfl (fun _=>.kN (j:=2) underlying276 gu rfl rfl rfl ah)<|.quiet (.p rfl) rfl (fun _=>.loadAt gj rfl (dm.drop 2) rfl) ?_;refine .quiet (.p rfl) rfl (fun _=>.and rfl rfl)<|af.slot 116 (v' :=.int .u64 ((x1 &&& cC).toNat:Int)) rfl (by exact congrArg (Value.int .u64) (we _ _)) ?_;refine .quiet (.p rfl) rfl (fun _=>.xor rfl rfl)<|af.slot 117 (v' :=.int .u64 ((x0 &&& x1 ^^^ x0 &&& cC ^^^ x1 &&& cC).toNat:Int)) rfl (by exact congrArg (Value.int .u64) (sE _ _)) ?_;refine af.aB (.p rfl) aa rfl aa rfl rfl ((JI (a:=28) (b:=34) (c:=39) x0 aC aC aC aC aC aC)) ?_;rintro _ _ ⟨rfl,rfl⟩
   try simp only [an,aq,au]
   refine .quiet (.p rfl) rfl (fun _=>.nq rfl rfl)<|af.slot 118 (v' :=.int .u64 ((ox x0 28 34 39+(x0 &&& x1 ^^^ x0 &&& cC ^^^ x1 &&& cC)).toNat:Int)) rfl (by exact congrArg (Value.int .u64) (pS _ _)) ?_;refine af.q 1 rfl<|aI.nil<|S.seq<|S.back xg ?_;replace hg:=xo;replace hR:=w9
   try replace hb:=Dt
   try replace hK:=Dc
   clear xo w9;refine S.bB (L := [0, 1, 2]) bA aa ?_;refine .quiet (.p rfl) rfl (fun _ => .Wk (a := 1) underlying276 gu rfl rfl rfl aC aC) <| .quiet (.p rfl) rfl (fun _ => .Wl (a := 7) underlying276 gu rfl rfl rfl aC aC) <| af.Ci (m := 7) (.p rfl) aa underlying207 gu rfl rfl ai rfl bI bI (by first | (simp; done) | (intro v hv; simp [Value.cells] at hv; rcases hv with rfl | rfl <;> rfl) | (refine List.forall_mem_cons.2 ⟨rfl, ?_⟩; repeat (first | exact (fun _ h => absurd h List.not_mem_nil) | refine List.forall_mem_cons.2 ⟨rfl, ?_⟩))) ?_;refine aI.nil <| S.c7 (b := j7) (cs' := [.int .u64 (x0.toNat : Int), .int .u64 (x0.toNat : Int), .int .u64 (x1.toNat : Int), .int .u64 (cC.toNat : Int), .int .u64 (eH.toNat : Int), .int .u64 (cU.toNat : Int), .int .u64 (eN.toNat : Int), .int .u64 (eO.toNat : Int)]) ai rfl ?_;refine S.region rfl <| O.q 2 rfl <| O.op (.p rfl) (.nq rfl rfl) <| O.slot 124 (v' := .int .u64 ((gH + ox cU 14 18 41 + (cU &&& eN ^^^ ~~~cU &&& eO) + gr.getD t 0 + mE.getD t 0 + (ox x0 28 34 39 + (x0 &&& x1 ^^^ x0 &&& cC ^^^ x1 &&& cC))).toNat : Int)) rfl (by exact congrArg (Value.int .u64) (pS _ _)) ?_;refine O.op (.p rfl) (.p_ (j := 4) underlying276 gu rfl rfl rfl ah) <| O.op (.p rfl) (.lo gj) ?_
   refine O.q 1 rfl <| O.op (.p rfl) (.nq rfl rfl) <| O.slot 128 (v' := .int .u64 ((eH + (gH + ox cU 14 18 41 + (cU &&& eN ^^^ ~~~cU &&& eO) + gr.getD t 0 + mE.getD t 0)).toNat : Int)) rfl (by exact congrArg (Value.int .u64) (pS _ _)) ?_;refine O.op (.p rfl) (.p_ (j := 0) underlying276 gu rfl rfl rfl ah) <| O.bu rfl (.bn gj rfl rfl bq ai aW) ?_;refine O.op (.p rfl) (.p_ (j := 4) underlying276 gu rfl rfl rfl ah) <| O.bu rfl (.bn gj rfl rfl bq ai aW) ?_;refine O.nil <| S.inBlock <| S.c7 (b := j7) (cs' := bR (q9 v mE (t + 1))) ai (by rw [hst]; rfl) ?_;refine S.region rfl <| O.op (.p rfl) (.add rfl rfl (IntWalk.i64_in _ ah)) <| O.q 1 rfl <| O.nil ?_;exact S.dz (ih (t + 1) ah ah)
  ·clear ih
   have ht:t=80:=by omega
   subst ht;have hu:=Fx v mE hv 80;generalize q9 v mE 80=u at *;refine S.exit rfl<|S.seq<|S.region rfl<|O.q 1 rfl<|O.nil<|S.block<|S.c7 (b:=iz) (cs' :=bR (mF v u 0)++rest) ai rfl ?_;refine S.e6 (ι:=Nat) (fun i=>i≤8) (fun i=>[(132,.int .i64 (i:Int))]) [(0,_),(8,_)] (fun i=>[obj iz T (bR (mF v u i)++rest),obj j7 276 (bR u),obj b4 382 (bR mE)]) (fun i=>8 - i) (0) ah (.cons rfl (.nil)) (.cons rfl (.cons rfl (.nil))) rfl fun i hx ih=>?_;have IE:=cL (g:=g);refine S.seq<|S.region rfl<|O.op (.p rfl) (.lss rfl rfl)<|O.nil (S.seq ?_)
   first|refine S.cc rfl (fun CL=>?_) (fun CL=>?_)|refine S.b7 rfl (fun CL=>?_) (fun CL=>?_)
   ·have hi:i<8:=by omega
    have hal:=L9 hv hu (Nat.le_of_lt hi);have xo:=hg;have w9:=hR
    try have Dt:=hb
    try have Dc:=hK
    refine S.iD (B:=obj j7 276 (bR u)) ai fun Oi hsp ⟨mp,hmp,El⟩ xg=>?_;replace hg:=Fr.aH hg hsp;replace hR:=iy hR xg
    try replace hb:=hb.mono hsp
    try replace hK:=hK.mono hsp
    have dm:=(gf hmp).mono El;have gC:=hg;have gz:=hR
    try have Pb:=hb
    try have Ou:=hK
    try have O8:=dm
    refine S.iD (B:=obj iz T (bR (mF v u i)++rest)) ai fun o_ dN ⟨q5,jQ,jR⟩ gp=>?_;replace hg:=Fr.aH hg dN;replace hR:=iy hR gp
    try replace hb:=hb.mono dN
    try replace hK:=hK.mono dN
    try replace dm:=dm.mono dN
    have O9:=(gf jQ).mono jR;refine S.skip<|S.seq<|S.block<|S.seq<|S.region rfl<|O.q 2 rfl<|O.nil<|S.bB (L:=[0,1,2,3,4,5,6,7,8,9,10,11]) bA aa<|af.q 2 rfl<|.quiet (.p rfl) rfl (fun _=>.nilCheck rfl)<|.quiet (.p rfl) rfl (fun _=>.kN (j:=i) underlying276 gu rfl rfl rfl ah)<|.quiet (.p rfl) rfl (fun _=>.load gj rfl (O9.at (by rw [List.getElem?_append_left (by rw [mZ];omega)];exact qq ah))) ?_;refine af.slot 139 (v' :=.int .u64 ((v.getD i 0).toNat:Int)) rfl (by rw [L8 hv hu hi]) ?_;refine af.q 1 rfl<|.quiet (.p rfl) rfl (fun _=>.kN (j:=i) underlying276 gu rfl rfl rfl ah)<|.quiet (.p rfl) rfl (fun _=>.load gj rfl (dm.at (qq ah))) ?_;refine af.slot 142 (v' :=.int .u64 ((u.getD i 0).toNat:Int)) rfl aK ?_;refine .quiet (.p rfl) rfl (fun _=>.nq rfl rfl)<|af.slot 143 (v' :=.int .u64 ((v.getD i 0+u.getD i 0).toNat:Int)) rfl (by exact congrArg (Value.int .u64) (pS _ _)) ?_;refine .quiet (.p rfl) rfl (fun _=>.nilCheck rfl)<|.quiet (.p rfl) rfl (fun _=>.p_ (j:=i) underlying276 gu rfl rfl rfl ah)<|af.xX rfl aa (fun _ hw=>gp hw) gj rfl rfl bq ai yJ ?_;replace hg:=gC;replace hR:=gz
    try replace hb:=Pb
    try replace hK:=Ou
    try replace dm:=O8
    clear gC gz;refine S.inBlock<|S.back xg ?_;replace hg:=xo;replace hR:=w9
    try replace hb:=Dt
    try replace hK:=Dc
    clear xo w9;refine S.c7 (b:=iz) (cs' :=bR (mF v u (i+1))++rest) ai (by rw [Nat.zero_add,List.set_append_left _ _ (by rw [mZ];omega),show Value.int .u64 ((v.getD i 0+u.getD i 0).toNat:Int)=qp (v.getD i 0+u.getD i 0) from rfl,FZ,L_ hv hu hi]) ?_;refine S.region rfl<|O.op (.p rfl) (.add rfl rfl (IntWalk.i64_in _ ah))<|O.q 1 rfl<|O.nil ?_;exact S.dz (ih (i+1) ah ah)
   ·clear ih
    have hi:i=8:=by omega
    subst hi;rw [L7 hv hu,← hblk];refine S.exit rfl<|S.ev results211 fun w hw=>Holds.end_ hR hw ?_;exact pk ⟨rfl,rfl⟩
def jD (M:List UInt8) (a:Option Addr) (c:Nat):List Value:=bR (feed er M)++[.slice a (bQ M).length c,.int .u64 (M.length:Int),.bool true]
theorem vu (M:List UInt8) (a:Option Addr) (c:Nat):∃ x0 x1 cC eH cU eN eO gH,feed er M=[x0,x1,cC,eH,cU,eN,eO,gH]∧jD M a c=[.int .u64 (x0.toNat:Int),.int .u64 (x1.toNat:Int),.int .u64 (cC.toNat:Int),.int .u64 (eH.toNat:Int),.int .u64 (cU.toNat:Int),.int .u64 (eN.toNat:Int),.int .u64 (eO.toNat:Int),.int .u64 (gH.toNat:Int),.slice a (bQ M).length c,.int .u64 (M.length:Int),.bool true]:=by
 obtain ⟨x0,x1,cC,eH,cU,eN,eO,gH,h⟩:=JC (wW er M rfl);exact ⟨x0,x1,cC,eH,cU,eN,eO,gH,h,by rw [jD,h];rfl⟩
theorem Ij {v:List bX} {y:Value} {rest:List Value} (hv:v.length=8):(bR v++y::rest)[8]?=some y:=by
 rw [List.getElem?_append_right (by rw [mZ];omega),mZ,hv];rfl
theorem Il {v:List bX} {y z:Value} {rest:List Value} (hv:v.length=8):(bR v++y::rest).set 8 z=bR v++z::rest:=by
 rw [List.set_append_right _ _ (by rw [mZ];omega),mZ,hv];rfl
theorem Ik {v:List bX} {y z w:Value} (hv:v.length=8):8<(bR v++[y,z,w]).length:=by
 rw [List.length_append,mZ,hv];exact (show 8<8+3 by decide)
theorem Li {r:Fr} {b:Nat} {M:List UInt8} {a:Option Addr} {c:Nat} (h:At r ⟨b,0,none⟩ (jD M a c)):ay prog 210 #[.pointer (some ⟨b,0,none⟩)] r [] (aL fun v U=>v=.bool true∧U=[]):=by
 obtain ⟨x0,x1,cC,eH,cU,eN,eO,gH,hx,hc⟩:=vu M a c;rw [hc] at h;refine ay.of (n:=11) _ rfl func210 rfl rfl rfl fun g hg R hR=>?_;have h:=h.mono hg;refine S.seq<|S.region rfl<|O.q 1 rfl<|O.nil<|S.seq<|S.region rfl<|O.q 1 rfl<|O.op (.p rfl) (.x9 underlying192 rfl rfl)<|O.sT 4 rfl aK ?_;refine O.q 2 rfl<|O.op (.g rfl rfl) (.nilCheck rfl)<|O.op (.g rfl rfl) (.fieldAddr N5 rfl)<|O.op (.g rfl rfl) (.loadAt ji rfl (h.drop 10) rfl) ?_;refine O.sT 9 rfl aK ?_;refine O.q 2 rfl<|O.nil ?_;exact S.rt results210 rfl hR ⟨rfl,rfl⟩
theorem LH {r:Fr} {iz:Nat} {va:Value} {M:List UInt8} {a:Option Addr} {c:Nat} {ps:List (List UInt8)} (hp:aj (ag.slice ag.u8) r va ps) (hK:At r ⟨1,0,none⟩ (bR gr)) (hl:M.length+ps.flatten.length≤1000000000000) :
  ay prog 127 #[.pointer (some ⟨iz,0,none⟩),va] r [obj iz 278 (jD M a c),av ag.u8 5 (.slice a (bQ M).length c) (bQ M)]
   (aL fun v U=>∃ a' c',v=.int .i64 0∧U=[obj iz 278 (jD (M++ps.flatten) a' c'),av ag.u8 5 (.slice a' (bQ (M++ps.flatten)).length c') (bQ (M++ps.flatten))]):=by
 have D5:=hp;obtain ⟨a1,c1,rfl⟩:=hp.shape;have hpb:=hp.bound;refine ay.of (n:=99) _ rfl func127 rfl rfl rfl fun g hg R hR=>?_;have hp:=hp.mono hg;have hK:=hK.mono hg;have fq:=hg;have fp:=hR
 try have D1:=hp
 try have Db:=hK
 refine S.iD (B:=obj iz 278 (jD M a c)) ai fun go cI ⟨qf,hmo,jE⟩ eT=>?_;replace hg:=Fr.aH hg cI;replace hR:=iy hR eT
 try replace hp:=hp.mono cI
 try replace hK:=hK.mono cI
 have dm:=(gf hmo).mono jE;refine S.seq<|S.region rfl<|O.q 1 rfl<|O.nil<|S.seq<|S.seq<|S.region rfl<|O.q 1 rfl<|O.aB (.p rfl) rfl aa rfl rfl ((Li dm)) ?_;rintro _ _ ⟨rfl,rfl⟩
 try simp only [an,aq,au]
 refine O.sT 9 rfl aK ?_;refine O.op (.p rfl) (.not rfl)<|O.nil<|S.aQ rfl<|S.skip<|S.seq<|S.seq<|S.back eT ?_;replace hg:=fq;replace hR:=fp
 try replace hp:=D1
 try replace hK:=Db
 clear fq fp;refine S.region rfl<|O.q 1 rfl<|O.op (.p rfl) (.len rfl underlying109 rfl)<|O.q 1 rfl<|O.nil<|S.block<|S.x6 (ι:=Nat) (dI:=Option Addr × Nat) (jI:=List UInt8) (fun i s Q=>i≤ps.length∧Q=M++(ps.take i).flatten) (fun i s Q=>[(13,.int .i64 (i:Int))]) [(0,_),(11,_),(12,_)] (fun i s Q=>[obj iz 278 (jD Q s.1 s.2),av ag.u8 5 (.slice s.1 (bQ Q).length s.2) (bQ Q)]) (fun i s Q=>ps.length - i) (0) ((a,c)) (M) (by exact ⟨by simp,by simp⟩) (.cons rfl (.nil)) (.cons rfl (.cons rfl (.cons rfl (.nil)))) rfl fun i s Q hx ih=>?_;have aX:=cL (g:=g);obtain ⟨hx1,hQ⟩:=hx;refine S.seq<|S.region rfl<|O.op (.p rfl) (.lss rfl rfl)<|O.nil (S.seq ?_)
 first|refine S.cc rfl (fun e9=>?_) (fun e9=>?_)|refine S.b7 rfl (fun e9=>?_) (fun e9=>?_)
 ·have hi:i<ps.length:=by omega
  have hst:Q++ps[i]=M++(ps.take (i+1)).flatten:=by rw [hQ,List.append_assoc,List.take_succ_eq_append_getElem hi,List.flatten_append];simp
  have D8:Q.length+ps[i].length≤1000000000000:=by
   have h1:=congrArg List.length hst;have h2:=congrArg (fun l=>(List.flatten l).length) (List.take_append_drop (i+1) ps);simp only [List.flatten_append,List.length_append] at h1 h2
   omega
  have hrl:(bQ Q).length<128:=by rw [AU];omega
  obtain ⟨x0,x1,cC,eH,cU,eN,eO,gH,hx,hc⟩:=vu Q s.1 s.2;refine S.skip<|S.seq<|S.block<|S.seq<|S.region rfl<|O.ib (.p rfl) underlying109 uo rfl rfl rfl D5 hg (h:=fun yh wQ hU QI=>?_);have k3:=ag.rel.mono QI hg;obtain ⟨aaH,rfl,vz⟩:=k3;obtain ⟨wB,wI,rfl⟩:=vz.shape;refine O.op (.p rfl) (.loadAt bc rfl hU rfl) ?_;refine O.q 1 rfl<|O.nil (S.seq ?_);generalize ps[i]=p at *;refine S.c7 (b:=iz) (cs' :=[.int .u64 (x0.toNat:Int),.int .u64 (x1.toNat:Int),.int .u64 (cC.toNat:Int),.int .u64 (eH.toNat:Int),.int .u64 (cU.toNat:Int),.int .u64 (eN.toNat:Int),.int .u64 (eO.toNat:Int),.int .u64 (gH.toNat:Int),.slice s.1 (bQ Q).length s.2,.int .u64 (Q.length:Int),.bool true]) ai hc ?_;refine S.region rfl<|O.q 1 rfl<|O.op (.p rfl) (.nilCheck rfl)<|O.op (.p rfl) (.aD CE rfl)<|O.op (.p rfl) (.lo gj) ?_;refine O.q 1 rfl<|O.op (.p rfl) (.len rfl underlying24 rfl)<|O.op (.p rfl) (.lU underlying3 underlying274 rfl)<|O.slot 23 (v' :=.int .u64 (p.length:Int)) rfl (by rw [rp ah]) ?_;refine O.op (.p rfl) (.nq rfl rfl)<|O.slot 24 (v' :=.int .u64 ((Q.length+p.length:Nat):Int)) rfl (by rw [← Int.natCast_add,rp ah]) ?_;refine O.op (.p rfl) (.nilCheck rfl)<|O.op (.p rfl) (.aD CE rfl)<|O.bu rfl (.bn gj rfl rfl bq ai aW) ?_
  refine O.nil<|S.seq<|S.seq<|S.region rfl<|O.q 1 rfl<|O.op (.p rfl) (.nilCheck rfl)<|O.op (.p rfl) (.aD nA rfl)<|O.op (.p rfl) (.lo bc) ?_;refine O.op (.p rfl) (.len rfl underlying24 rfl)<|O.op (.p rfl) (.sub rfl rfl (IntWalk.i64_in _ ah))<|O.q 1 rfl<|O.op (.p rfl) (.len rfl underlying24 rfl)<|O.op (.p rfl) (.min2 rfl rfl)<|O.slot 35 (v' :=.int .i64 ((min (128 - (bQ Q).length) p.length:Nat):Int)) rfl (by exact congrArg (Value.int .i64) (by split<;>omega)) ?_;refine O.q 1 rfl<|O.nil (S.seq ?_);have jk:min (128 - (bQ Q).length) p.length≤p.length:=by omega
  have hn2:(bQ Q).length+min (128 - (bQ Q).length) p.length≤128:=by omega
  have kg:(bQ Q).length+min (128 - (bQ Q).length) p.length<128→min (128 - (bQ Q).length) p.length=p.length:=by omega
  generalize min (128 - (bQ Q).length) p.length=n at *;refine S.c7 (b:=iz) (cs' :=[.int .u64 (x0.toNat:Int),.int .u64 (x1.toNat:Int),.int .u64 (cC.toNat:Int),.int .u64 (eH.toNat:Int),.int .u64 (cU.toNat:Int),.int .u64 (eN.toNat:Int),.int .u64 (eO.toNat:Int),.int .u64 (gH.toNat:Int),.slice s.1 (bQ Q).length s.2,.int .u64 ((Q.length+p.length:Nat):Int),.bool true]) ai rfl ?_;refine S.zc (fun (x:(List UInt8 × List UInt8) × (Option Addr × Nat) × (Option Addr × Nat))=>bQ x.1.1=[]∧x.1.1++x.1.2=Q++p∧aj ag.u8 g.h (.slice x.2.2.1 x.1.2.length x.2.2.2) x.1.2) (fun (x:(List UInt8 × List UInt8) × (Option Addr × Nat) × (Option Addr × Nat))=>[(6,.slice x.2.2.1 x.1.2.length x.2.2.2)]) [(0,_),(11,_),(12,_),(13,_)] (fun (x:(List UInt8 × List UInt8) × (Option Addr × Nat) × (Option Addr × Nat))=>[obj iz 278 (bR (feed er x.1.1)++[.slice x.2.1.1 0 x.2.1.2,.int .u64 ((Q.length+p.length:Nat):Int),.bool true]),av ag.u8 5 (.slice x.2.1.1 0 x.2.1.2) []]) (.cons rfl (.cons rfl (.cons rfl (.cons rfl (.nil))))) (fun key=>?_) (fun x hx=>?_)
  ·have hm2:=cL (g:=g)
   refine S.region rfl<|O.q 1 rfl<|O.op (.p rfl) (.nilCheck rfl)<|O.op (.p rfl) (.aD nA rfl)<|O.op (.p rfl) (.lo bc) ?_;refine O.op (.p rfl) (.len rfl underlying24 rfl)<|O.op (.p rfl) (.gtr rfl rfl)<|O.nil ?_
   first|refine S.cc rfl (fun CV=>?_) (fun CV=>?_)|refine S.b7 rfl (fun CV=>?_) (fun CV=>?_)
   ·refine S.seq<|S.bB (L:=[0,1,2,3,5,6,7,9,10,11,4,8,12,13,14,15]) bA aa ?_
    refine af.q 2 rfl<|.quiet (.p rfl) rfl (fun _=>.nilCheck rfl)<|.quiet (.p rfl) rfl (fun _=>.aD nA rfl)<|af.q 2 rfl<|af.sliceTo (b:=n) (.p rfl) underlying24 fR rfl rfl zE bJ bJ (fun aaB xb=>?_);obtain ⟨a49,u4,rfl⟩:=xb.shape;refine af.q 2 rfl<|af.sliceFrom (a:=n) (.p rfl) underlying24 fR rfl rfl zE bJ bJ (fun aaD vp=>?_);obtain ⟨a53,u5,rfl⟩:=vp.shape;refine af.cu (.p rfl) aa (fun _=>.cS bc rfl ai aK) ?_;refine af.nW (.p rfl) aa (T:=ag.u8) AL underlying24 eR aC rfl rfl ai (by first|assumption|exact aj.mono hg zE|exact aj.left zE|exact aj.left (aj.mono hg zE)) bJ bJ (fun a50 nu=>?_);refine .quiet (.p rfl) rfl (fun _=>.nilCheck rfl)<|.quiet (.p rfl) rfl (fun _=>.aD nA rfl)<|af.bn rfl aa bc rfl rfl bq ai aW ?_;refine af.q 1 rfl<|aI.nil (S.seq (S.seq ?_));have jF:(p.take n).length=n:=by rw [List.length_take];omega
    have hal:(bQ Q++p.take n).length=(bQ Q).length+n:=by rw [List.length_append,jF]
    refine S.region rfl<|O.q 1 rfl<|O.op (.p rfl) (.nilCheck rfl)<|O.op (.p rfl) (.aD nA rfl)<|O.op (.p rfl) (.lo bc) ?_;refine O.op (.p rfl) (.len rfl underlying24 rfl)<|O.op (.p rfl) (.lss rfl rfl)<|O.nil ?_
    first|refine S.cc rfl (fun tn=>?_) (fun tn=>?_)|refine S.b7 rfl (fun tn=>?_) (fun tn=>?_)
    ·have hlt:(bQ Q).length+n<128:=by omega
     have hnp:=kg hlt;have xN:p.take n=p:=List.take_of_length_le ah;obtain ⟨e1,e2⟩:=NX er (b:=Q) (c:=p) (by rw [← xN,hal];exact hlt);have hml:(Q++p).length=Q.length+p.length:=List.length_append;have hE:(bQ Q).length+(p.take n).length=(bQ (Q++p)).length:=by rw [e2,List.length_append,xN]
     refine S.c7 (b:=iz) (cs' :=jD (Q++p) a50 nu) ai (by rw [hE,jD,e1,hx,hml];rfl) ?_;refine S.jr (T:=ag.u8) (e:=5) (v' :=.slice a50 (bQ (Q++p)).length nu) (xs' :=bQ (Q++p)) ai (by rw [hE]) (by rw [e2,xN]) ?_;refine S.exit rfl<|S.region rfl<|O.op (.p rfl) (.add rfl rfl (IntWalk.i64_in _ ah))<|O.q 1 rfl<|O.nil ?_;exact S.pw (ih (i+1) ((a50,nu)) (Q++p) (by exact ⟨by omega,hst⟩) ah)
    ·have heq:(bQ Q++p.take n).length=128:=by rw [hal];omega
     obtain ⟨e1,e2⟩:=NW er (b:=Q) (c:=p.take n) heq;rw [hx] at e1;have Iw:=hg;have HZ:=hR
     try have Qn:=hp
     try have Ot:=hK
     try have P9:=hU
     try have Qt:=k3
     try have Qq:=vz
     try have OK:=xb
     try have OM:=vp
     refine S.iD (B:=av ag.u8 5 (.slice a50 ((bQ Q).length+(p.take n).length) nu) (bQ Q++p.take n)) ai fun YD fI ⟨ml,hml,QM⟩ lB=>?_;replace hg:=Fr.aH hg fI;replace hR:=iy hR lB
     try replace hp:=hp.mono fI
     try replace hK:=hK.mono fI
     try replace hU:=hU.mono fI
     try replace k3:=k3.mono fI
     try replace vz:=vz.mono fI
     try replace xb:=xb.mono fI
     try replace vp:=vp.mono fI
     have hla:=(av.arr hml).mono QM;refine S.skip<|S.seq<|S.bB (L:=[0,1,2,3,4,5,6,7]) bA aa ?_;refine af.q 1 rfl<|.quiet (.p rfl) rfl (fun _=>.nilCheck rfl)<|.quiet (.p rfl) rfl (fun _=>.aD CD rfl)<|af.q 1 rfl<|.quiet (.p rfl) rfl (fun _=>.nilCheck rfl)<|.quiet (.p rfl) rfl (fun _=>.aD nA rfl)<|af.cu (.p rfl) aa (fun _=>.cS bc rfl ai aK) ?_;refine af.bM (.p rfl) aa rfl aa rfl rfl ai (GP (T:=278) (v:=[x0,x1,cC,eH,cU,eN,eO,gH]) (rest:=[.slice a50 ((bQ Q).length+(p.take n).length) nu,.int .u64 ((Q.length+p.length:Nat):Int),.bool true]) rfl hla heq hK) ?_;rintro _ _ ⟨rfl,rfl⟩
     try simp only [an,aq,au]
     refine aI.nil<|S.back lB ?_;replace hg:=Iw;replace hR:=HZ
     try replace hp:=Qn
     try replace hK:=Ot
     try replace hU:=P9
     try replace k3:=Qt
     try replace vz:=Qq
     try replace xb:=OK
     try replace vp:=OM
     clear Iw HZ;have hvl:(rf [x0,x1,cC,eH,cU,eN,eO,gH] (bQ Q++p.take n)).length=8:=KX _ _ rfl;refine S.region rfl<|O.q 2 rfl<|O.op (.p rfl) (.nilCheck rfl)<|O.op (.p rfl) (.aD nA rfl)<|O.op (.p rfl) (.cS bc rfl ai (Ij hvl)) ?_;refine O.op (.p rfl) (.Wp (T:=ag.u8) (q:=0) underlying24 fR rfl rfl rfl (Nat.zero_le _))<|O.op (.p rfl) (.nilCheck rfl)<|O.op (.p rfl) (.aD nA rfl)<|O.bu rfl (.bn bc rfl rfl rfl ai (Ik hvl)) ?_;refine O.nil<|S.c7 (b:=iz) (cs' :=bR (feed er (Q++p.take n))++[.slice a50 0 nu,.int .u64 ((Q.length+p.length:Nat):Int),.bool true]) ai (by rw [Il hvl,e1]) ?_;refine S.conv (B:=av ag.u8 5 (.slice a50 ((bQ Q).length+(p.take n).length) nu) (bQ Q++p.take n)) (C:=av ag.u8 5 (.slice a50 0 nu) []) ai (fun h x=>⟨h,Fr.bU _,av.take (ys:=bQ Q++p.take n) rfl x⟩) ?_;refine S.pk ?_ (S.weaken ?_ (key (((Q++p.take n,p.drop n),(a50,nu),(a53,u5))) (by exact ⟨e2,by rw [List.append_assoc,List.take_append_drop],vp⟩)))
     ·repeat (first|exact aS|exact aU|(apply aT;focus (repeat (first|exact aR|apply zt)))|apply aV)
     repeat (first|exact Sub.nil|refine Sub.cons rfl ?_)
   ·have h0:bQ Q=[]:=List.eq_nil_of_length_eq_zero ah
    have HU:(bQ Q).length=0:=by rw [h0];rfl
    refine S.c7 (b:=iz) (cs' :=bR (feed er Q)++[.slice s.1 0 s.2,.int .u64 ((Q.length+p.length:Nat):Int),.bool true]) ai (by rw [HU,hx];rfl) ?_;refine S.jr (T:=ag.u8) (e:=5) (v' :=.slice s.1 0 s.2) (xs' :=[]) ai (by rw [HU]) h0 ?_;refine S.skip<|S.pk ?_ (S.weaken ?_ (key (((Q,p),s,(wB,wI))) (by exact ⟨h0,rfl,vz⟩)))
    ·repeat (first|exact aS|exact aU|(apply aT;focus (repeat (first|exact aR|apply zt)))|apply aV)
    repeat (first|exact Sub.nil|refine Sub.cons rfl ?_)
  ·obtain ⟨⟨wm,p1⟩,⟨al,cl⟩,⟨a6,dF⟩⟩:=x
   obtain ⟨h0,h1,h2⟩:=hx;simp only at h0 h1 h2 ⊢;obtain ⟨f1,f2⟩:=NY er (b:=wm) (c:=p1) h0;rw [h1] at f1 f2;refine S.seq<|S.block<|S.jT (ι:=Nat) (dI:=Option Addr × Nat) (fun k u=>128*k≤p1.length∧aj ag.u8 g.h (.slice u.1 (p1.drop (128*k)).length u.2) (p1.drop (128*k))) (fun k u=>[(6,.slice u.1 (p1.drop (128*k)).length u.2)]) [(0,_),(11,_),(12,_),(13,_)] (fun k u=>[obj iz 278 (bR (lq (feed er wm) p1 k)++[.slice al 0 cl,.int .u64 ((Q.length+p.length:Nat):Int),.bool true]),av ag.u8 5 (.slice al 0 cl) []]) (fun k u=>p1.length - k) (0) ((a6,dF)) (by exact ⟨by omega,h2⟩) (.cons rfl (.nil)) (.cons rfl (.cons rfl (.cons rfl (.cons rfl (.nil))))) rfl fun k u hx ih=>?_;have hm2:=cL (g:=g);obtain ⟨oh,hk2⟩:=hx;have hdl:(p1.drop (128*k)).length=p1.length - 128*k:=List.length_drop;have xP:(lq (feed er wm) p1 k).length=8:=Cw _ _ (wW _ _ rfl) k;refine S.seq<|S.seq<|S.region rfl<|O.q 1 rfl<|O.op (.p rfl) (.len rfl underlying24 rfl)<|O.op (.p rfl) (.geq rfl rfl)<|O.nil ?_
   first|refine S.cc rfl (fun C5=>?_) (fun C5=>?_)|refine S.b7 rfl (fun C5=>?_) (fun C5=>?_)
   ·have Y9:128*(k+1)≤p1.length:=by omega
    have oe:(p1.drop (128*k)).drop 128=p1.drop (128*(k+1)):=by rw [List.drop_drop,Nat.mul_succ]
    refine S.skip<|S.seq<|S.block<|S.bB (L:=[0,1,2,3,4,5]) bA aa<|af.q 1 rfl<|.quiet (.p rfl) rfl (fun _=>.nilCheck rfl)<|.quiet (.p rfl) rfl (fun _=>.aD CD rfl)<|af.q 1 rfl<|af.sliceTo (b:=128) (.p rfl) underlying24 fR rfl rfl zE bJ bJ (fun aaF Ig=>?_);obtain ⟨a87,X6,rfl⟩:=Ig.shape;refine af.bM (.p rfl) aa rfl aa rfl rfl ai (GP (T:=278) (v:=lq (feed er wm) p1 k) (rest:=[.slice al 0 cl,.int .u64 ((Q.length+p.length:Nat):Int),.bool true]) xP Ig (by rw [List.length_take];omega) hK) ?_;rintro _ _ ⟨rfl,rfl⟩
    try simp only [an,aq,au]
    refine aI.nil<|S.inBlock<|S.region rfl<|O.q 1 rfl<|O.sliceFrom (a:=128) (.p rfl) underlying24 fR rfl rfl zE bJ bJ (fun aaE Dn=>?_);obtain ⟨a82,MS,rfl⟩:=Dn.shape;refine O.q 1 rfl<|O.nil ?_;rw [oe] at Dn ⊢;exact S.pw (ih (k+1) ((a82,MS)) (by exact ⟨by omega,Dn⟩) ah)
   ·clear ih
    have hkk:k=p1.length / 128:=by omega
    have Pq:lq (feed er wm) p1 k=feed er (Q++p):=by rw [hkk];exact f1.symm
    have xK:p1.drop (128*k)=bQ (Q++p):=by rw [hkk];exact f2.symm
    have hml:(Q++p).length=Q.length+p.length:=List.length_append;refine S.exit rfl ?_;rw [Pq,xK];rw [xK] at hk2 hdl;have Er :(feed er (Q++p)).length=8:=wW _ _ rfl;refine S.region rfl<|O.q 2 rfl<|O.op (.p rfl) (.nilCheck rfl)<|O.op (.p rfl) (.aD nA rfl)<|O.op (.p rfl) (.cS bc rfl ai (Ij Er)) ?_;refine O.q 1 rfl<|O.aM (.p rfl) (.nW (T:=ag.u8) AL underlying24 eR aC rfl rfl ai (by first|assumption|exact aj.mono hg zE|exact aj.left zE|exact aj.left (aj.mono hg zE)) bJ bJ) ?_;rintro _ _ ⟨BM,B3,rfl,rfl⟩;refine O.op (.p rfl) (.nilCheck rfl)<|O.op (.p rfl) (.aD nA rfl)<|O.bu rfl (.bn bc rfl rfl rfl ai (Ik Er)) ?_;refine O.nil<|S.inBlock<|S.c7 (b:=iz) (cs' :=jD (Q++p) BM B3) ai (by rw [Il Er,jD,hml,List.length_nil,Nat.zero_add]) ?_;refine S.jr (T:=ag.u8) (e:=5) (v' :=.slice BM (bQ (Q++p)).length B3) (xs' :=bQ (Q++p)) ai (by rw [List.length_nil,Nat.zero_add]) (by rw [List.nil_append]) ?_;refine S.region rfl<|O.op (.p rfl) (.add rfl rfl (IntWalk.i64_in _ ah))<|O.q 1 rfl<|O.nil ?_;exact S.pw (ih (i+1) ((BM,B3)) (Q++p) (by exact ⟨by omega,hst⟩) ah)
 ·clear ih
  have hi:i=ps.length:=by omega
  subst hi;rw [List.take_length] at hQ;subst hQ;refine S.exit rfl<|S.seq<|S.region rfl<|O.q 1 rfl<|O.nil ?_;exact S.rt results127 rfl hR ⟨s.1,s.2,rfl,rfl⟩
end Go.Proofs.YtojafegjlahajaaGreatDoor
