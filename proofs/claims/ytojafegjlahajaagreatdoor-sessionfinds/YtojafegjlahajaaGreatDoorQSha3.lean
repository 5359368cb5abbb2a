/- Texts of this proof. -/
import Derived.Test.YtojafegjlahajaaGreatDoorQEvid1
import Derived.Test.YtojafegjlahajaaGreatDoorQSpCmp
open Go Go.Sp Go.Proofs.Tryz
set_option maxRecDepth 100000
set_option maxHeartbeats 1000000
attribute [local irreducible] obj Own av
namespace Go.Proofs.YtojafegjlahajaaGreatDoor
theorem Xf {r:Fr} {a b:List UInt8}:ay prog 169 #[.string (str a),.string (str b)] r [] (aL fun v U=>v=.int .i64 (Lib.compareBytes a b)∧U=[]):=by
 have h1:∀ {r:Fr},ay prog 251 #[.string (str a),.string (str b)] r [] (aL fun v U=>v=.int .i64 (Lib.compareBytes a b)∧U=[]):=by
  intro r
  refine ay.of (n:=8) _ rfl func251 rfl rfl rfl fun g hg R hR=>?_;refine S.seq<|S.region rfl<|O.q 1 rfl<|O.nil<|S.seq<|S.region rfl<|O.q 2 rfl<|O.op (.p rfl) (.Nt func317 aa rfl aa aa rfl rfl rfl)<|O.q 1 rfl<|O.nil ?_;exact S.rt results251 rfl hR ⟨rfl,rfl⟩
 refine ay.of (n:=8) _ rfl func169 rfl rfl rfl fun g hg R hR=>?_;refine S.seq<|S.region rfl<|O.q 1 rfl<|O.nil<|S.seq<|S.region rfl<|O.q 2 rfl<|O.aC (.p rfl) rfl aa rfl rfl (h1) ?_;rintro _ _ ⟨rfl,rfl⟩
 try simp only [an,aq,au]
 refine O.q 1 rfl<|O.nil ?_;exact S.rt results169 rfl hR ⟨rfl,rfl⟩
theorem HZ {r:Fr} {k s:List UInt8} {a:Option Addr} {n c:Nat}:ay prog 168 #[.agg #[.string (str k),.slice a n c],.string (str s)] r [] (aL fun v U=>v=.int .i64 (Lib.compareBytes k s)∧U=[]):=by
 refine ay.of (n:=9) _ rfl func168 rfl rfl rfl fun g hg R hR=>?_;refine S.seq<|S.region rfl<|O.aN (.p rfl) (.box (cs:=[_,_]) rfl rfl) ?_;rintro _ _ ⟨b2,rfl,rfl⟩;refine O.q 1 rfl<|O.nil<|S.seq<|S.region rfl<|O.op (.p rfl) (.aH ef rfl)<|O.op (.p rfl) (.lo bQ) ?_;refine O.q 1 rfl<|O.aC (.p rfl) rfl aa rfl rfl ((Xf)) ?_;rintro _ _ ⟨rfl,rfl⟩
 try simp only [an,aq,au]
 refine O.q 1 rfl<|O.nil ?_;exact S.rt results168 rfl hR ⟨rfl,rfl⟩
theorem M1 {r:Fr} {va:Value} {L:List aD} {s:List UInt8} (ha:aj bP r va L) (hr:eE L) (hl:L.length≤1000000000000) :
  ay prog 167 #[va,.string (str s),.func (.func 168) #[] #[]] r [] (aL fun v U=>v=.tuple #[.int .i64 (bc L s:Int),.bool (decide (k5 L s))]∧U=[]):=by
 obtain ⟨a1,c1,rfl⟩:=ha.shape;refine ay.of (n:=49) _ rfl func167 rfl rfl rfl fun g hg R hR=>?_;have ha:=ha.mono hg;have hle:=JU L s;refine S.seq<|S.region rfl<|O.q 2 rfl<|O.nil<|S.seq<|S.region rfl<|O.q 1 rfl<|O.op (.p rfl) (.len rfl underlying25 rfl)<|O.q 1 rfl<|O.nil<|S.seq<|S.region rfl<|O.q 3 rfl<|O.nil<|S.seq<|S.block<|S.jO (ι:=Nat) (dJ:=Nat) (fun i j=>i≤bc L s∧bc L s≤j∧j≤L.length) (fun i j=>[(9,.int .i64 (i:Int)),(10,.int .i64 (j:Int))]) [(0,_),(1,_),(2,_),(8,_)] (fun i j=>[]) (fun i j=>j - i) (0) (L.length) (by exact ⟨Nat.zero_le _,hle,Nat.le_refl _⟩) (.cons rfl (.cons rfl (.nil))) (.cons rfl (.cons rfl (.cons rfl (.cons rfl (.nil))))) rfl fun i j hx ih=>?_;have bh:=cH (g:=g);obtain ⟨h1,h2,h3⟩:=hx;refine S.seq<|S.seq<|S.region rfl<|O.q 2 rfl<|O.op (.p rfl) (.lss rfl rfl)<|O.nil ?_
 first|refine S.cm rfl (fun iV=>?_) (fun iV=>?_)|refine S.b_ rfl (fun iV=>?_) (fun iV=>?_)
 ·have hm:(i+j) / 2<L.length:=by omega
  have hlt:=E5 (s:=s) hr hm;refine S.skip<|S.block<|S.seq<|S.region rfl<|O.q 2 rfl<|O.op (.p rfl) (.add rfl rfl (IntWalk.i64_in _ ah))<|O.op (.p rfl) (.lU underlying3 underlying197 rfl)<|O.op (.p rfl) (.shr rfl rfl ah)<|O.op (.p rfl) (.lU underlying197 underlying3 rfl)<|O.slot 23 (v' :=.int .i64 (((i+j) / 2:Nat):Int)) rfl (by exact congrArg _ (II (s:=i+j) ah)) ?_;refine O.q 1 rfl<|O.nil<|S.seq<|S.region rfl<|O.q 3 rfl<|O.bR (.p rfl) underlying25 cQ rfl rfl (show _=((((i+j) / 2):Nat):Int) by omega) (by first|assumption|exact aj.mono hg zE|exact aj.left zE|exact aj.left (aj.mono hg zE)) (h:=fun UF NQ Ea Ex=>?_);obtain ⟨aaw,aaD,rfl,ZZ,Zr⟩:=bP.sh Ex;refine O.op (.p rfl) (.bE isAgg31 aa rfl Ea) ?_;refine O.q 1 rfl<|O.aC (.p rfl) rfl aa rfl rfl (HZ) ?_;rintro _ _ ⟨rfl,rfl⟩
  try simp only [an,aq,au]
  refine O.op (.p rfl) (.lss rfl rfl)<|O.nil ?_
  first|refine S.cm rfl (fun gR=>?_) (fun gR=>?_)|refine S.b_ rfl (fun gR=>?_) (fun gR=>?_)
  ·have hc:=hlt.1 (HJ.1 gR)
   refine S.region rfl<|O.q 1 rfl<|O.op (.p rfl) (.add rfl rfl (IntWalk.i64_in _ ah))<|O.q 1 rfl<|O.nil (S.inBlock ?_);exact S.dD (ih ((i+j) / 2+1) (j) (by (exact ⟨by omega,by omega,by omega⟩)) ah)
  ·have hc:=mt (fun q=>HJ.2 (hlt.2 q)) gR
   refine S.region rfl<|O.q 2 rfl<|O.nil (S.inBlock ?_);exact S.dD (ih (i) ((i+j) / 2) (by (exact ⟨by omega,by omega,by omega⟩)) ah)
 ·clear ih
  have e:i=bc L s:=by omega
  subst e
  by_cases hi:bc L s<L.length
  ·have td:decide (Lib.compareBytes L[bc L s].1 s=0)=decide (k5 L s):=decide_eq_decide.2 (Nz.trans ⟨fun q=>⟨hi,q⟩,fun q=>q.2⟩)
   refine S.exit rfl<|S.seq<|S.region rfl<|O.q 3 rfl<|O.op (.p rfl) (.lss rfl rfl)<|O.sT 38 rfl b9 ?_;refine O.q 4 rfl<|O.bR (.g rfl rfl) underlying25 cQ rfl rfl (show _=(((bc L s):Nat):Int) by omega) (by first|assumption|exact aj.mono hg zE|exact aj.left zE|exact aj.left (aj.mono hg zE)) (h:=fun Fv CD tT tX=>?_);obtain ⟨aay,aaF,rfl,Z1,Zt⟩:=bP.sh tX;refine O.op (.g rfl rfl) (.bE isAgg31 aa rfl tT) ?_;refine O.q 1 rfl<|O.aC (.g rfl rfl) rfl aa rfl rfl (HZ) ?_;rintro _ _ ⟨rfl,rfl⟩
   try simp only [an,aq,au]
   refine O.op (.g rfl rfl) (.eql rfl rfl)<|O.q 3 rfl<|O.nil<|S.mW results167 rfl rfl fun w hw=>Holds.end_ hR hw ?_;exact pk ⟨by rw [← td],rfl⟩
  ·have td:decide (k5 L s)=false:=decide_eq_false fun q=>hi q.1
   refine S.exit rfl<|S.seq<|S.region rfl<|O.q 3 rfl<|O.op (.p rfl) (.lss rfl rfl)<|O.aM 38 rfl b9 ?_;refine O.q 12 rfl<|O.nil<|S.mW results167 rfl rfl fun w hw=>Holds.end_ hR hw ?_;exact pk ⟨by rw [td],rfl⟩
theorem H8 {r:Fr} {b q:Nat} {L:List aD} {s:List UInt8} (h:kr r b q L) (hr:eE L) (hl:L.length≤1000000000000):ay prog 105 #[.pointer (some ⟨b,0,none⟩),.string (str s)] r [] (aL fun v U=>v=.tuple #[.int .i64 (bc L s:Int),.bool (decide (k5 L s))]∧U=[]):=by
 obtain ⟨cS,cT,cF,cG,mid,h,hL,_⟩:=h;refine ay.of (n:=14) _ rfl func105 rfl rfl rfl fun g hg R hR=>?_;have h:=h.mono hg;have hL:=hL.mono hg;refine S.seq<|S.region rfl<|O.q 2 rfl<|O.nil<|S.seq<|S.region rfl<|O.q 1 rfl<|O.op (.p rfl) (.nilCheck rfl)<|O.op (.p rfl) (.fieldAddr gG rfl)<|O.op (.p rfl) (.loadAt dV rfl h rfl) ?_;refine O.q 1 rfl<|O.aC (.p rfl) rfl aa rfl rfl ((M1 (by first|assumption|exact aj.mono hg zE|exact aj.left zE|exact aj.left (aj.mono hg zE)) zE bD)) ?_;rintro _ _ ⟨rfl,rfl⟩
 try simp only [an,aq,au]
 refine O.q 4 rfl<|O.nil<|S.mW results105 rfl rfl fun w hw=>Holds.end_ hR hw ?_;exact pk ⟨rfl,rfl⟩
theorem CG {r:Fr} {a:Option Addr} {c i:Nat} {ak:List (List Value)} (hi:i<ak.length) :
  ay prog 156 #[.slice a ak.length c,.int .i64 (i:Int),.int .i64 ((i:Int)+1)] r [av (ag.cells 2) 31 (.slice a ak.length c) ak]
   (aL fun u U=>u=.slice a (ak.length - 1) c∧U=[av (ag.cells 2) 31 (.slice a (ak.length - 1) c) (ak.eraseIdx i)]):=by
 refine ay.of (n:=33) _ rfl func156 rfl rfl rfl fun g hg R hR=>?_;refine S.lV .here (fun _ x=>x.vZ ah) fun ⟨⟨b,hb⟩,_,hc1,qP⟩=>?_;subst hb;have hel:(ak.eraseIdx i).length=ak.length - 1:=List.length_eraseIdx_of_lt hi;refine S.slot 2 (v' :=.int .i64 ((i+1:Nat):Int)) rfl (by rw [Int.natCast_add];rfl) ?_;refine S.seq<|S.region rfl<|O.q 1 rfl<|O.nil<|S.seq<|S.region rfl<|O.q 4 rfl<|O.op (.p rfl) (.len rfl underlying25 rfl)<|O.op (.p rfl) (.Lz (r:=ak.length) underlying25 cQ rfl rfl rfl rfl ah ah ah)<|O.nil<|S.seq<|S.seq<|S.region rfl<|O.q 2 rfl<|O.op (.p rfl) (.eql rfl rfl)<|O.aM 16 rfl (by exact decide_eq_false ah) ?_;refine O.nil<|S.aQ rfl<|S.skip<|S.seq<|S.region rfl<|O.q 1 rfl<|O.op (.p rfl) (.len rfl underlying25 rfl)<|O.q 1 rfl<|O.nil<|S.seq<|S.bC (L:=[0,1,2,3,4,5,6,7]) bz aa<|af.q 2 rfl<|.quiet (.p rfl) rfl (fun _=>.uB (p:=i) underlying25 cQ rfl rfl ah)<|af.q 2 rfl<|.quiet (.p rfl) rfl (fun _=>.iG (p:=i+1) underlying25 cQ rfl rfl ah)<|af.y2 (.p rfl) aa underlying25 lg hi rfl rfl ai ?_;rw [← hel]
 refine af.q 1 rfl<|aJ.nil<|S.seq<|S.region rfl<|O.q 2 rfl<|O.op (.p rfl) (.len rfl underlying25 rfl)<|O.q 1 rfl<|O.op (.p rfl) (.LA (p:=(ak.eraseIdx i).length) (q:=ak.length) underlying25 cQ rfl rfl rfl ah ah)<|O.Cq rfl underlying25 lg qt aB ah ah rfl ai ?_;refine O.nil<|S.seq<|S.region rfl<|O.q 2 rfl<|O.nil ?_;rw [hel];exact S.rt results156 rfl hR ⟨rfl,rfl⟩
theorem CH {r:Fr} {a:Option Addr} {c i:Nat} {ak:List (List Value)} (hi:i<ak.length) :
  ay prog 157 #[.slice a ak.length c,.int .i64 (i:Int),.int .i64 ((i:Int)+1)] r [av (ag.cells 1) 9 (.slice a ak.length c) ak]
   (aL fun u U=>u=.slice a (ak.length - 1) c∧U=[av (ag.cells 1) 9 (.slice a (ak.length - 1) c) (ak.eraseIdx i)]):=by
 refine ay.of (n:=33) _ rfl func157 rfl rfl rfl fun g hg R hR=>?_;refine S.lV .here (fun _ x=>x.vZ ah) fun ⟨⟨b,hb⟩,_,hc1,qP⟩=>?_;subst hb;have hel:(ak.eraseIdx i).length=ak.length - 1:=List.length_eraseIdx_of_lt hi;refine S.slot 2 (v' :=.int .i64 ((i+1:Nat):Int)) rfl (by rw [Int.natCast_add];rfl) ?_;refine S.seq<|S.region rfl<|O.q 1 rfl<|O.nil<|S.seq<|S.region rfl<|O.q 4 rfl<|O.op (.p rfl) (.len rfl underlying53 rfl)<|O.op (.p rfl) (.Lz (r:=ak.length) underlying53 gb rfl rfl rfl rfl ah ah ah)<|O.nil<|S.seq<|S.seq<|S.region rfl<|O.q 2 rfl<|O.op (.p rfl) (.eql rfl rfl)<|O.aM 16 rfl (by exact decide_eq_false ah) ?_;refine O.nil<|S.aQ rfl<|S.skip<|S.seq<|S.region rfl<|O.q 1 rfl<|O.op (.p rfl) (.len rfl underlying53 rfl)<|O.q 1 rfl<|O.nil<|S.seq<|S.bC (L:=[0,1,2,3,4,5,6,7]) bz aa<|af.q 2 rfl<|.quiet (.p rfl) rfl (fun _=>.uB (p:=i) underlying53 gb rfl rfl ah)<|af.q 2 rfl<|.quiet (.p rfl) rfl (fun _=>.iG (p:=i+1) underlying53 gb rfl rfl ah)<|af.y2 (.p rfl) aa underlying53 gv hi rfl rfl ai ?_;rw [← hel]
 refine af.q 1 rfl<|aJ.nil<|S.seq<|S.region rfl<|O.q 2 rfl<|O.op (.p rfl) (.len rfl underlying53 rfl)<|O.q 1 rfl<|O.op (.p rfl) (.LA (p:=(ak.eraseIdx i).length) (q:=ak.length) underlying53 gb rfl rfl rfl ah ah)<|O.Cq rfl underlying53 gv nh aB ah ah rfl ai ?_;refine O.nil<|S.seq<|S.region rfl<|O.q 2 rfl<|O.nil ?_;rw [hel];exact S.rt results157 rfl hR ⟨rfl,rfl⟩
theorem yu {r:Fr} (x:b6) {a:Nat} {z:Int} (hz:z=0 - (a:Int)) (h0:0<a) (h:a<64) :
  ay prog 327 #[.int .u64 (x.toNat:Int),.int .i64 z] r [] (aL fun v U=>v=.int .u64 ((pO x a).toNat:Int)∧U=[]):=by
 refine ay.of (n:=17) _ rfl func327 rfl rfl rfl fun g hg R hR=>?_;refine S.seq<|S.region rfl<|O.q 1 rfl<|O.nil<|S.seq<|S.region rfl<|O.q 1 rfl<|O.op (.p rfl) (.lU underlying3 underlying197 rfl)<|O.op (.p rfl) (.and rfl rfl)<|O.slot 8 (v' :=.int .u64 ((64 - a:Nat):Int)) rfl (by exact congrArg (Value.int .u64) (TS hz h0 h)) ?_;refine O.q 1 rfl<|O.nil<|S.seq<|S.region rfl<|O.q 2 rfl<|O.op (.p rfl) (.shl rfl rfl ah)<|O.slot 11 (v' :=.int .u64 ((x <<<UInt64.ofNat (64 - a)).toNat:Int)) rfl (by exact congrArg (Value.int .u64) (L4 x ah)) ?_;refine O.q 2 rfl<|O.op (.p rfl) (.Xk rfl rfl)<|O.slot 14 (v' :=.int .u64 (a:Int)) rfl (by (rw [show ((64:Int) - ((64 - a:Nat):Int))=((a:Nat):Int) from by omega,rz ah])) ?_;refine O.op (.p rfl) (.shr rfl rfl ah)<|O.slot 15 (v' :=.int .u64 ((x >>>UInt64.ofNat a).toNat:Int)) rfl (by exact congrArg (Value.int .u64) (L5 x h)) ?_;refine O.op (.p rfl) (.or rfl rfl)<|O.slot 16 (v' :=.int .u64 ((pO x a).toNat:Int)) rfl (by exact congrArg (Value.int .u64) ((L3 _ _).trans (by rw [UInt64.or_comm];rfl))) ?_;refine O.q 1 rfl<|O.nil ?_;exact S.rt results327 rfl hR ⟨rfl,rfl⟩
theorem J5 {r:Fr} (x:b6) {a b c:Nat} (h0:0<a) (h:a<64) (k0:0<b) (k:b<64) (Sl:0<c) (j:c<64) :
  ay prog 287 #[.int .u64 (x.toNat:Int),.int .i64 (a:Int),.int .i64 (b:Int),.int .i64 (c:Int)] r [] (aL fun v U=>v=.int .u64 ((oA x a b c).toNat:Int)∧U=[]):=by
 refine ay.of (n:=23) _ rfl func287 rfl rfl rfl fun g hg R hR=>?_;have w:∀ n:Nat,n<64→IntKind.i64.wrap (0 - (n:Int))=0 - (n:Int):=fun n hn=>IntWalk.i64_in _ ah;refine S.seq<|S.region rfl<|O.q 1 rfl<|O.nil<|S.seq<|S.region rfl<|O.q 2 rfl<|O.op (.p rfl) (.neg rfl)<|O.slot 11 (v' :=.int .i64 (0 - (a:Int))) rfl (by rw [w a h]) ?_;refine O.aC (.p rfl) rfl aa rfl rfl ((yu x rfl h0 h)) ?_;rintro _ _ ⟨rfl,rfl⟩
 try simp only [an,aq,au]
 refine O.q 2 rfl<|O.op (.p rfl) (.neg rfl)<|O.slot 15 (v' :=.int .i64 (0 - (b:Int))) rfl (by rw [w b k]) ?_;refine O.aC (.p rfl) rfl aa rfl rfl ((yu x rfl k0 k)) ?_;rintro _ _ ⟨rfl,rfl⟩
 try simp only [an,aq,au]
 refine O.op (.p rfl) (.xor rfl rfl)<|O.slot 17 (v' :=.int .u64 ((pO x a ^^^ pO x b).toNat:Int)) rfl (by exact congrArg (Value.int .u64) (sM _ _)) ?_;refine O.q 2 rfl<|O.op (.p rfl) (.neg rfl)<|O.slot 20 (v' :=.int .i64 (0 - (c:Int))) rfl (by rw [w c j]) ?_;refine O.aC (.p rfl) rfl aa rfl rfl ((yu x rfl Sl j)) ?_;rintro _ _ ⟨rfl,rfl⟩
 try simp only [an,aq,au]
 refine O.op (.p rfl) (.xor rfl rfl)<|O.slot 22 (v' :=.int .u64 ((oA x a b c).toNat:Int)) rfl (by exact congrArg (Value.int .u64) (sM _ _)) ?_;refine O.q 1 rfl<|O.nil ?_;exact S.rt results287 rfl hR ⟨rfl,rfl⟩
theorem LB {r:Fr} (x:b6) {a b c:Nat} (h0:0<a) (h:a<64) (k0:0<b) (k:b<64) (j:c<64) :
  ay prog 286 #[.int .u64 (x.toNat:Int),.int .i64 (a:Int),.int .i64 (b:Int),.int .i64 (c:Int)] r [] (aL fun v U=>v=.int .u64 ((rq x a b c).toNat:Int)∧U=[]):=by
 refine ay.of (n:=22) _ rfl func286 rfl rfl rfl fun g hg R hR=>?_;have w:∀ n:Nat,n<64→IntKind.i64.wrap (0 - (n:Int))=0 - (n:Int):=fun n hn=>IntWalk.i64_in _ ah;refine S.seq<|S.region rfl<|O.q 1 rfl<|O.nil<|S.seq<|S.bC (L:=[0,1,2,4,5,6,9,10,11,3,7,8,12,13]) bz aa<|af.q 2 rfl<|.quiet (.p rfl) rfl (fun _=>.neg rfl)<|af.slot 11 (v' :=.int .i64 (0 - (a:Int))) rfl (by rw [w a h]) ?_;refine af.q 2 rfl<|.quiet (.p rfl) rfl (fun _=>.neg rfl)<|af.slot 15 (v' :=.int .i64 (0 - (b:Int))) rfl (by rw [w b k]) ?_;refine af.q 2 rfl<|.quiet (.p rfl) rfl (fun _=>.shr rfl rfl ah)<|af.slot 20 (v' :=.int .u64 ((x >>>UInt64.ofNat c).toNat:Int)) rfl (by exact congrArg (Value.int .u64) (L5 x j)) ?_;refine af.aC (.p rfl) aa rfl aa rfl rfl ((yu x rfl h0 h)) ?_;rintro _ _ ⟨rfl,rfl⟩
 try simp only [an,aq,au]
 refine af.aC (.p rfl) aa rfl aa rfl rfl ((yu x rfl k0 k)) ?_;rintro _ _ ⟨rfl,rfl⟩
 try simp only [an,aq,au]
 refine .quiet (.p rfl) rfl (fun _=>.xor rfl rfl)<|af.slot 17 (v' :=.int .u64 ((pO x a ^^^ pO x b).toNat:Int)) rfl (by exact congrArg (Value.int .u64) (sM _ _)) ?_;refine .quiet (.p rfl) rfl (fun _=>.xor rfl rfl)<|af.slot 21 (v' :=.int .u64 ((rq x a b c).toNat:Int)) rfl (by exact congrArg (Value.int .u64) (sM _ _)) ?_;refine af.q 1 rfl<|aJ.nil ?_;exact S.rt results286 rfl hR ⟨rfl,rfl⟩
theorem Mm {r:Fr} {a:Addr} {t:Nat} (h:At r a (bW gq)) (ht:t<80):r.cell (a.add t)=some (qp (gq.getD t 0)):=h.at (qq (by show t<80;exact ht))
theorem Hh {r:Fr} {ij:Nat} {T:TypeId} {je:Value} {b:List UInt8} {v:List b6} {rest:List Value} (hv:v.length=8) (hb:aj ag.u8 r je b) (hl:b.length=128) (hK:At r ⟨1,0,none⟩ (bW gq)) :
  ay prog 211 #[.pointer (some ⟨ij,0,none⟩),je] r [obj ij T (bW v++rest)] (aL fun u U=>u=.tuple #[]∧U=[obj ij T (bW (rp v b)++rest)]):=by
 refine ay.of (n:=147) _ rfl func211 rfl rfl rfl fun g hg R hR=>?_;have hb:=hb.mono hg;have hK:=hK.mono hg;obtain ⟨a1,c1,rfl⟩:=hb.shape;refine S.seq<|S.region rfl<|O.aN (.p rfl) (.alloc (cs:=[.int .u64 0,.int .u64 0,.int .u64 0,.int .u64 0,.int .u64 0,.int .u64 0,.int .u64 0,.int .u64 0,.int .u64 0,.int .u64 0,.int .u64 0,.int .u64 0,.int .u64 0,.int .u64 0,.int .u64 0,.int .u64 0,.int .u64 0,.int .u64 0,.int .u64 0,.int .u64 0,.int .u64 0,.int .u64 0,.int .u64 0,.int .u64 0,.int .u64 0,.int .u64 0,.int .u64 0,.int .u64 0,.int .u64 0,.int .u64 0,.int .u64 0,.int .u64 0,.int .u64 0,.int .u64 0,.int .u64 0,.int .u64 0,.int .u64 0,.int .u64 0,.int .u64 0,.int .u64 0,.int .u64 0,.int .u64 0,.int .u64 0,.int .u64 0,.int .u64 0,.int .u64 0,.int .u64 0,.int .u64 0,.int .u64 0,.int .u64 0,.int .u64 0,.int .u64 0,.int .u64 0,.int .u64 0,.int .u64 0,.int .u64 0,.int .u64 0,.int .u64 0,.int .u64 0,.int .u64 0,.int .u64 0,.int .u64 0,.int .u64 0,.int .u64 0,.int .u64 0,.int .u64 0,.int .u64 0,.int .u64 0,.int .u64 0,.int .u64 0,.int .u64 0,.int .u64 0,.int .u64 0,.int .u64 0,.int .u64 0,.int .u64 0,.int .u64 0,.int .u64 0,.int .u64 0,.int .u64 0]) zeroValue382 rfl) ?_;rintro _ _ ⟨b4,rfl,rfl⟩;refine O.nil<|S.seq<|S.seq<|S.region rfl<|O.q 1 rfl<|O.nil<|S.block<|S.dx (b:=b4) (cs' :=bW (jo b 0)) ai rfl ?_
 refine S.eM (ι:=Nat) (fun t=>t≤80) (fun t=>[(16,.int .i64 (t:Int))]) [(0,_),(1,_),(4,_)] (fun t=>[obj b4 382 (bW (jo b t)),obj ij T (bW v++rest)]) (fun t=>80 - t) (0) ah (.cons rfl (.nil)) (.cons rfl (.cons rfl (.cons rfl (.nil)))) rfl fun t hx ih=>?_;have bh:=cH (g:=g);refine S.seq<|S.region rfl<|O.op (.p rfl) (.lss rfl rfl)<|O.nil (S.seq ?_)
 first|refine S.cm rfl (fun iV=>?_) (fun iV=>?_)|refine S.b_ rfl (fun iV=>?_) (fun iV=>?_)
 ·have ht:t<80:=by omega
  have hml:=WJ (b:=b) (Nat.le_of_lt ht);refine S.skip<|S.seq<|S.block<|S.seq<|S.region rfl<|O.q 2 rfl<|O.nil<|S.seq<|S.seq<|S.region rfl<|O.q 1 rfl<|O.op (.p rfl) (.lss rfl rfl)<|O.nil ?_
  first|refine S.cm rfl (fun og=>?_) (fun og=>?_)|refine S.b_ rfl (fun og=>?_) (fun og=>?_)
  ·have fH:t<16:=by omega
   have Ri:(b.take (8*t+8)).drop (8*t)=(b.drop (8*t)).take 8:=by rw [List.drop_take];congr 1;omega
   have hsa:mH ((b.take (8*t+8)).drop (8*t))=rj b (sched b t) t:=by rw [Ri,rj,if_pos fH]
   have fI:((b.take (8*t+8)).drop (8*t)).length=8:=by simp;omega
   refine S.seq<|S.seq<|S.region rfl<|O.q 2 rfl<|O.op (.p rfl) (.mul rfl rfl (IntWalk.i64_in _ ah))<|O.q 1 rfl<|O.op (.p rfl) (.mul rfl rfl (IntWalk.i64_in _ ah))<|O.op (.p rfl) (.add rfl rfl (IntWalk.i64_in _ ah))<|O.W4 (a:=8*t) (b:=8*t+8) (.p rfl) underlying24 fO rfl rfl rfl zE bD bD bD bD (fun abr vq=>?_);obtain ⟨a27,s7,rfl⟩:=vq.shape;refine O.op (.p rfl) (.len rfl underlying24 rfl)<|O.q 1 rfl<|O.nil (S.block ?_);generalize (b.take (8*t+8)).drop (8*t)=qh at *;rw [fI] at vq ⊢;refine S.dx (b:=b4) (cs' :=bW ((jo b t).set t (mH (qh.take 0)))) ai (by rw [show mH (qh.take 0)=0 from rfl,WK ht]) ?_;refine S.eM (ι:=Nat) (fun j=>j≤8) (fun j=>[(29,.int .i64 (j:Int))]) [(0,_),(1,_),(4,_),(5,_),(16,_),(27,_),(28,_)] (fun j=>[obj b4 382 (bW ((jo b t).set t (mH (qh.take j)))),obj ij T (bW v++rest)]) (fun j=>8 - j) (0) ah (.cons rfl (.nil)) (.cons rfl (.cons rfl (.cons rfl (.cons rfl (.cons rfl (.cons rfl (.cons rfl (.nil)))))))) rfl fun j hx ih=>?_;have hm2:=cH (g:=g);refine S.seq<|S.region rfl<|O.op (.p rfl) (.lss rfl rfl)<|O.nil (S.seq ?_)
   first|refine S.cm rfl (fun C9=>?_) (fun C9=>?_)|refine S.b_ rfl (fun C9=>?_) (fun C9=>?_)
   ·have hj:j<8:=by omega
    refine S.skip<|S.seq<|S.block<|S.seq<|S.region rfl<|O.bR (.p rfl) underlying24 fO rfl rfl rfl (by first|assumption|exact aj.mono hg zE|exact aj.left zE|exact aj.left (aj.mono hg zE)) (h:=fun aa0 YY QE Q5=>?_)
    cases Q5
    refine O.op (.p rfl) (.loadAt lq rfl QE rfl) ?_;refine O.q 1 rfl<|O.nil<|S.region rfl<|O.q 2 rfl<|O.op (.p rfl) (.p_ (j:=t) underlying382 gr rfl rfl (show _=(((t):Nat):Int) by omega) ah)<|O.op (.p rfl) (.cV gi rfl ai (qq (by rw [List.length_set];omega))) ?_;refine O.slot 36 (v' :=.int .u64 ((mH (qh.take j)).toNat:Int)) rfl (by rw [Nat.zero_add,OJ ah]) ?_;refine O.op (.p rfl) (.shl rfl rfl ah)<|O.slot 37 (v' :=.int .u64 ((mH (qh.take j) <<<8).toNat:Int)) rfl (by exact congrArg (Value.int .u64) (L4 _ (n:=8) aB)) ?_;refine O.q 1 rfl<|O.op (.p rfl) (.lU underlying5 underlying274 rfl)<|O.slot 39 (v' :=.int .u64 ((UInt64.ofNat qh[j].toNat).toNat:Int)) rfl (by exact congrArg (Value.int .u64) (Yg _)) ?_;refine O.op (.p rfl) (.or rfl rfl)<|O.slot 40 (v' :=.int .u64 ((mH (qh.take (j+1))).toNat:Int)) rfl (by exact congrArg (Value.int .u64) ((L3 _ _).trans (by rw [MS ah]))) ?_;refine O.op (.p rfl) (.p_ (j:=t) underlying382 gr rfl rfl (show _=(((t):Nat):Int) by omega) ah)<|O.bB rfl (.bp gi rfl rfl rfl ai (by rw [nc,List.length_set,hml];omega)) ?_;refine O.nil<|S.inBlock<|S.dx (b:=b4) (cs' :=bW ((jo b t).set t (mH (qh.take (j+1))))) ai (by rw [show Value.int .u64 ((mH (qh.take (j+1))).toNat:Int)=qp (mH (qh.take (j+1))) from rfl,Gj,Nat.zero_add,List.set_set]) ?_
    refine S.region rfl<|O.op (.p rfl) (.add rfl rfl (IntWalk.i64_in _ ah))<|O.q 1 rfl<|O.nil ?_;exact S.dD (ih (j+1) ah ah)
   ·clear ih
    have hj:j=8:=by omega
    subst hj;refine S.dx (b:=b4) (cs' :=bW (jo b (t+1))) ai (by rw [List.take_of_length_le ah,hsa,Lp ht]) ?_;refine S.exit rfl<|S.exit rfl<|S.region rfl<|O.op (.p rfl) (.add rfl rfl (IntWalk.i64_in _ ah))<|O.q 1 rfl<|O.nil ?_;exact S.dD (ih (t+1) ah ah)
  ·have fH:16≤t:=by omega
   have hsa:rq ((sched b t).getD (t - 2) 0) 19 61 6+(sched b t).getD (t - 7) 0+rq ((sched b t).getD (t - 15) 0) 1 8 7+(sched b t).getD (t - 16) 0=rj b (sched b t) t:=by rw [rj,if_neg ah]
   refine S.skip ?_;have fq:=hg;have fp:=hR
   try have PE:=hb
   try have Dr:=hK
   refine S.iw (B:=obj b4 382 (bW (jo b t))) ai fun go cN ⟨qd,hmo,jw⟩ eV=>?_;replace hg:=Fr.aI hg cN;replace hR:=ig hR eV
   try replace hb:=hb.mono cN
   try replace hK:=hK.mono cN
   have dg:=(ga hmo).mono jw;refine S.bC (L:=[0,1,2,3,4,6,7,8,9,11,12,13,14,17,18,19,20,5,10,15,16,21,22,23]) bz aa ?_;refine af.q 2 rfl<|.quiet (.p rfl) rfl (fun _=>.sub rfl rfl (IntWalk.i64_in _ ah))<|.quiet (.p rfl) rfl (fun _=>.kK (j:=t - 2) underlying382 gr rfl rfl (show _=((t - 2:Nat):Int) by omega) ah)<|.quiet (.p rfl) rfl (fun _=>.load gi rfl (dg.at (qq ah))) ?_;refine af.slot 47 (v' :=.int .u64 (((sched b t).getD (t - 2) 0).toNat:Int)) rfl (by rw [Be ah]) ?_;refine af.q 1 rfl<|.quiet (.p rfl) rfl (fun _=>.sub rfl rfl (IntWalk.i64_in _ ah))<|.quiet (.p rfl) rfl (fun _=>.kK (j:=t - 7) underlying382 gr rfl rfl (show _=((t - 7:Nat):Int) by omega) ah)<|.quiet (.p rfl) rfl (fun _=>.load gi rfl (dg.at (qq ah))) ?_;refine af.slot 52 (v' :=.int .u64 (((sched b t).getD (t - 7) 0).toNat:Int)) rfl (by rw [Be ah]) ?_;refine af.q 1 rfl<|.quiet (.p rfl) rfl (fun _=>.sub rfl rfl (IntWalk.i64_in _ ah))<|.quiet (.p rfl) rfl (fun _=>.kK (j:=t - 15) underlying382 gr rfl rfl (show _=((t - 15:Nat):Int) by omega) ah)<|.quiet (.p rfl) rfl (fun _=>.load gi rfl (dg.at (qq ah))) ?_;refine af.slot 57 (v' :=.int .u64 (((sched b t).getD (t - 15) 0).toNat:Int)) rfl (by rw [Be ah]) ?_
   refine af.q 1 rfl<|.quiet (.p rfl) rfl (fun _=>.sub rfl rfl (IntWalk.i64_in _ ah))<|.quiet (.p rfl) rfl (fun _=>.kK (j:=t - 16) underlying382 gr rfl rfl (show _=((t - 16:Nat):Int) by omega) ah)<|.quiet (.p rfl) rfl (fun _=>.load gi rfl (dg.at (qq ah))) ?_;refine af.slot 63 (v' :=.int .u64 (((sched b t).getD (t - 16) 0).toNat:Int)) rfl (by rw [Be ah]) ?_;refine af.aC (.p rfl) aa rfl aa rfl rfl ((LB (a:=19) (b:=61) (c:=6) _ aB aB aB aB aB)) ?_;rintro _ _ ⟨rfl,rfl⟩
   try simp only [an,aq,au]
   refine .quiet (.p rfl) rfl (fun _=>.nr rfl rfl)<|af.slot 53 (v' :=.int .u64 ((rq ((sched b t).getD (t - 2) 0) 19 61 6+(sched b t).getD (t - 7) 0).toNat:Int)) rfl (by exact congrArg (Value.int .u64) (pT _ _)) ?_;refine af.aC (.p rfl) aa rfl aa rfl rfl ((LB (a:=1) (b:=8) (c:=7) _ aB aB aB aB aB)) ?_;rintro _ _ ⟨rfl,rfl⟩
   try simp only [an,aq,au]
   refine .quiet (.p rfl) rfl (fun _=>.nr rfl rfl)<|af.slot 59 (v' :=.int .u64 ((rq ((sched b t).getD (t - 2) 0) 19 61 6+(sched b t).getD (t - 7) 0+rq ((sched b t).getD (t - 15) 0) 1 8 7).toNat:Int)) rfl (by exact congrArg (Value.int .u64) (pT _ _)) ?_;refine .quiet (.p rfl) rfl (fun _=>.nr rfl rfl)<|af.slot 64 (v' :=.int .u64 ((rj b (sched b t) t).toNat:Int)) rfl (by exact congrArg (Value.int .u64) ((pT _ _).trans (by rw [hsa]))) ?_;refine .quiet (.p rfl) rfl (fun _=>.p_ (j:=t) underlying382 gr rfl rfl rfl ah)<|af.xZ rfl aa (fun _ hw=>eV hw) gi rfl rfl bt ai yP ?_;replace hg:=fq;replace hR:=fp
   try replace hb:=PE
   try replace hK:=Dr
   clear fq fp;refine S.inBlock<|S.dx (b:=b4) (cs' :=bW (jo b (t+1))) ai (by rw [show Value.int .u64 ((rj b (sched b t) t).toNat:Int)=qp (rj b (sched b t) t) from rfl,Gj,Nat.zero_add,Lp ht]) ?_;refine S.region rfl<|O.op (.p rfl) (.add rfl rfl (IntWalk.i64_in _ ah))<|O.q 1 rfl<|O.nil ?_;exact S.dD (ih (t+1) ah ah)
 ·clear ih
  have ht:t=80:=by omega
  subst ht;rw [WI];have hS:=yy b 80;have hblk:rp v b=List.zipWith (·+·) v (rf v (sched b 80) 80):=rfl;generalize sched b 80=mD at *;refine S.exit rfl<|S.seq<|S.region rfl<|O.q 1 rfl<|O.op (.p rfl) (.nilCheck rfl)<|O.op (.p rfl) (.sk (news:=bW v) isAgg276 (by rw [nc,hv];kernel_rfl) rfl ai (by rw [List.drop_zero,List.take_left' rfl])) ?_;refine O.aN (.p rfl) (.alloc (cs:=[.int .u64 0,.int .u64 0,.int .u64 0,.int .u64 0,.int .u64 0,.int .u64 0,.int .u64 0,.int .u64 0]) zeroValue276 rfl) ?_;rintro _ _ ⟨j0,rfl,rfl⟩;refine O.bB rfl (.c9 (news:=bW v) (by rw [nc,hv];kernel_rfl) rfl rfl sS (Yc v) ai (by rw [nc,hv];decide)) ?_;refine O.nil<|S.seq<|S.seq<|S.dx (b:=j0) (cs' :=bW v) ai (by rw [List.take_zero,List.nil_append,List.drop_eq_nil_of_le (by rw [nc,hv];decide),List.append_nil]) ?_;refine S.region rfl<|O.op (.p rfl) (.sk (news:=bW mD) isAgg382 (by rw [nc,hS];kernel_rfl) rfl ai (by rw [List.drop_zero,List.take_length])) ?_;refine O.q 1 rfl<|O.nil<|S.block<|S.eM (ι:=Nat) (fun t=>t≤80) (fun t=>[(71,.int .i64 (t:Int))]) [(0,_),(8,_),(70,_)] (fun t=>[obj j0 276 (bW (rf v mD t)),obj b4 382 (bW mD),obj ij T (bW v++rest)]) (fun t=>80 - t) (0) ah (.cons rfl (.nil)) (.cons rfl (.cons rfl (.cons rfl (.nil)))) rfl fun t hx ih=>?_;have hm2:=cH (g:=g)
  refine S.seq<|S.region rfl<|O.op (.p rfl) (.lss rfl rfl)<|O.nil (S.seq ?_)
  first|refine S.cm rfl (fun Dl=>?_) (fun Dl=>?_)|refine S.b_ rfl (fun Dl=>?_) (fun Dl=>?_)
  ·have ht:t<80:=by omega
   obtain ⟨x0,x1,cI,ew,cZ,eC,eD,gD,hxs⟩:=JY (FR v mD hv t);have hst:rf v mD (t+1)=K5 [x0,x1,cI,ew,cZ,eC,eD,gD] (gq.getD t 0) (mD.getD t 0):=by rw [rf,hxs]
   rw [hxs];refine S.dx (b:=j0) (cs' :=[.int .u64 (x0.toNat:Int),.int .u64 (x1.toNat:Int),.int .u64 (cI.toNat:Int),.int .u64 (ew.toNat:Int),.int .u64 (cZ.toNat:Int),.int .u64 (eC.toNat:Int),.int .u64 (eD.toNat:Int),.int .u64 (gD.toNat:Int)]) ai rfl ?_;have xm:=hg;have w8:=hR
   try have DK:=hb
   try have Ds:=hK
   refine S.iw (B:=obj j0 276 [.int .u64 (x0.toNat:Int),.int .u64 (x1.toNat:Int),.int .u64 (cI.toNat:Int),.int .u64 (ew.toNat:Int),.int .u64 (cZ.toNat:Int),.int .u64 (eC.toNat:Int),.int .u64 (eD.toNat:Int),.int .u64 (gD.toNat:Int)]) ai fun ON hsp ⟨mp,hmp,EK⟩ xf=>?_;replace hg:=Fr.aI hg hsp;replace hR:=ig hR xf
   try replace hb:=hb.mono hsp
   try replace hK:=hK.mono hsp
   have dg:=(ga hmp).mono EK;refine S.skip<|S.seq<|S.block<|S.seq<|S.region rfl<|O.q 1 rfl<|O.op (.p rfl) (.JB (j:=t) underlying382 gr gi rfl rfl rfl ah (by rw [List.getElem?_toArray];exact qq ah)) ?_;refine O.slot 74 (v' :=.int .u64 ((mD.getD t 0).toNat:Int)) rfl aK ?_;refine O.q 2 rfl<|O.nil<|S.seq<|S.bC (L:=[0,1,2,3,4,5]) bz aa<|.quiet (.p rfl) rfl (fun _=>.kK (j:=0) underlying276 gr rfl rfl rfl ah)<|.quiet (.p rfl) rfl (fun _=>.loadAt gi rfl dg rfl) ?_;refine .quiet (.p rfl) rfl (fun _=>.kK (j:=4) underlying276 gr rfl rfl rfl ah)<|.quiet (.p rfl) rfl (fun _=>.loadAt gi rfl (dg.drop 4) rfl) ?_;refine af.q 2 rfl<|aJ.nil<|S.seq<|S.bC (L:=[0,1,2,5,6,7,8,9,10,11,12,13,14,16,17,18,20,3,4,15,19,21,22]) bz aa<|.quiet (.p rfl) rfl (fun _=>.kK (j:=7) underlying276 gr rfl rfl rfl ah)<|.quiet (.p rfl) rfl (fun _=>.loadAt gi rfl (dg.drop 7) rfl) ?_;refine af.q 2 rfl<|.quiet (.p rfl) rfl (fun _=>.kK (j:=5) underlying276 gr rfl rfl rfl ah)<|.quiet (.p rfl) rfl (fun _=>.loadAt gi rfl (dg.drop 5) rfl) ?_;refine .quiet (.p rfl) rfl (fun _=>.and rfl rfl)<|af.slot 87 (v' :=.int .u64 ((cZ &&& eC).toNat:Int)) rfl (by exact congrArg (Value.int .u64) (we _ _)) ?_
   refine af.q 1 rfl <| .quiet (.p rfl) rfl (fun _ => .NA rfl) <| af.slot 89 (v' := .int .u64 ((~~~cZ).toNat : Int)) rfl (by exact congrArg (Value.int .u64) (Yf _)) ?_;refine .quiet (.p rfl) rfl (fun _ => .kK (j := 6) underlying276 gr rfl rfl rfl ah) <| .quiet (.p rfl) rfl (fun _ => .loadAt gi rfl (dg.drop 6) rfl) ?_;refine .quiet (.p rfl) rfl (fun _ => .and rfl rfl) <| af.slot 92 (v' := .int .u64 ((~~~cZ &&& eD).toNat : Int)) rfl (by exact congrArg (Value.int .u64) (we _ _)) ?_;refine .quiet (.p rfl) rfl (fun _ => .xor rfl rfl) <| af.slot 93 (v' := .int .u64 ((cZ &&& eC ^^^ ~~~cZ &&& eD).toNat : Int)) rfl (by exact congrArg (Value.int .u64) (sM _ _)) ?_;refine af.q 1 rfl <| .quiet (.p rfl) rfl (fun _ => .kK (j := t) underlying382 gr rfl rfl rfl ah) <| .quiet (.p rfl) rfl (fun _ => .load gi rfl (Mm hK ht)) ?_;refine af.slot 97 (v' := .int .u64 ((gq.getD t 0).toNat : Int)) rfl aK ?_;refine af.q 1 rfl <| af.aC (.p rfl) aa rfl aa rfl rfl ((J5 (a := 14) (b := 18) (c := 41) cZ aB aB aB aB aB aB)) ?_;rintro _ _ ⟨rfl, rfl⟩
   try simp only [an,aq,au]
   refine .quiet (.p rfl) rfl (fun _ => .nr rfl rfl) <| af.slot 83 (v' := .int .u64 ((gD + oA cZ 14 18 41).toNat : Int)) rfl (by exact congrArg (Value.int .u64) (pT _ _)) ?_;refine .quiet (.p rfl) rfl (fun _ => .nr rfl rfl) <| af.slot 94 (v' := .int .u64 ((gD + oA cZ 14 18 41 + (cZ &&& eC ^^^ ~~~cZ &&& eD)).toNat : Int)) rfl (by exact congrArg (Value.int .u64) (pT _ _)) ?_;refine .quiet (.p rfl) rfl (fun _ => .nr rfl rfl) <| af.slot 98 (v' := .int .u64 ((gD + oA cZ 14 18 41 + (cZ &&& eC ^^^ ~~~cZ &&& eD) + gq.getD t 0).toNat : Int)) rfl (by exact congrArg (Value.int .u64) (pT _ _)) ?_;refine .quiet (.p rfl) rfl (fun _ => .nr rfl rfl) <| af.slot 100 (v' := .int .u64 ((gD + oA cZ 14 18 41 + (cZ &&& eC ^^^ ~~~cZ &&& eD) + gq.getD t 0 + mD.getD t 0).toNat : Int)) rfl (by exact congrArg (Value.int .u64) (pT _ _)) ?_;refine af.q 1 rfl <| aJ.nil <| S.seq <| S.bC (L := [0, 2, 3, 4, 5, 6, 7, 8, 9, 10, 11, 12, 13, 14, 15, 16, 1, 17, 18]) bz aa <| af.q 2 rfl <| .quiet (.p rfl) rfl (fun _ => .kK (j := 1) underlying276 gr rfl rfl rfl ah) <| .quiet (.p rfl) rfl (fun _ => .loadAt gi rfl (dg.drop 1) rfl) ?_;refine .quiet (.p rfl) rfl (fun _ => .and rfl rfl) <| af.slot 106 (v' := .int .u64 ((x0 &&& x1).toNat : Int)) rfl (by exact congrArg (Value.int .u64) (we _ _)) ?_
   refine af.q 1 rfl<|.quiet (.p rfl) rfl (fun _=>.kK (j:=2) underlying276 gr rfl rfl rfl ah)<|.quiet (.p rfl) rfl (fun _=>.loadAt gi rfl (dg.drop 2) rfl) ?_;refine .quiet (.p rfl) rfl (fun _=>.and rfl rfl)<|af.slot 110 (v' :=.int .u64 ((x0 &&& cI).toNat:Int)) rfl (by exact congrArg (Value.int .u64) (we _ _)) ?_;refine .quiet (.p rfl) rfl (fun _=>.xor rfl rfl)<|af.slot 111 (v' :=.int .u64 ((x0 &&& x1 ^^^ x0 &&& cI).toNat:Int)) rfl (by exact congrArg (Value.int .u64) (sM _ _)) ?_;refine .quiet (.p rfl) rfl (fun _=>.kK (j:=1) underlying276 gr rfl rfl rfl ah)<|.quiet (.p rfl) rfl (fun _=>.loadAt gi rfl (dg.drop 1) rfl) ?_;refine .quiet (.p rfl) rfl (fun _=>.kK (j:=2) underlying276 gr rfl rfl rfl ah)<|.quiet (.p rfl) rfl (fun _=>.loadAt gi rfl (dg.drop 2) rfl) ?_;refine .quiet (.p rfl) rfl (fun _=>.and rfl rfl)<|af.slot 116 (v' :=.int .u64 ((x1 &&& cI).toNat:Int)) rfl (by exact congrArg (Value.int .u64) (we _ _)) ?_;refine .quiet (.p rfl) rfl (fun _=>.xor rfl rfl)<|af.slot 117 (v' :=.int .u64 ((x0 &&& x1 ^^^ x0 &&& cI ^^^ x1 &&& cI).toNat:Int)) rfl (by exact congrArg (Value.int .u64) (sM _ _)) ?_;refine af.aC (.p rfl) aa rfl aa rfl rfl ((J5 (a:=28) (b:=34) (c:=39) x0 aB aB aB aB aB aB)) ?_;rintro _ _ ⟨rfl,rfl⟩
   try simp only [an,aq,au]
   refine .quiet (.p rfl) rfl (fun _=>.nr rfl rfl)<|af.slot 118 (v' :=.int .u64 ((oA x0 28 34 39+(x0 &&& x1 ^^^ x0 &&& cI ^^^ x1 &&& cI)).toNat:Int)) rfl (by exact congrArg (Value.int .u64) (pT _ _)) ?_;refine af.q 1 rfl<|aJ.nil<|S.seq<|S.back xf ?_;replace hg:=xm;replace hR:=w8
   try replace hb:=DK
   try replace hK:=Ds
   clear xm w8;refine S.bC (L := [0, 1, 2]) bz aa ?_;refine .quiet (.p rfl) rfl (fun _ => .W1 (a := 1) underlying276 gr rfl rfl rfl aB aB) <| .quiet (.p rfl) rfl (fun _ => .W2 (a := 7) underlying276 gr rfl rfl rfl aB aB) <| af.CB (m := 7) (.p rfl) aa underlying207 gr rfl rfl ai rfl bL bL (by first | (simp; done) | (intro v hv; simp [Value.cells] at hv; rcases hv with rfl | rfl <;> rfl) | (refine List.forall_mem_cons.2 ⟨rfl, ?_⟩; repeat (first | exact (fun _ h => absurd h List.not_mem_nil) | refine List.forall_mem_cons.2 ⟨rfl, ?_⟩))) ?_;refine aJ.nil <| S.dx (b := j0) (cs' := [.int .u64 (x0.toNat : Int), .int .u64 (x0.toNat : Int), .int .u64 (x1.toNat : Int), .int .u64 (cI.toNat : Int), .int .u64 (ew.toNat : Int), .int .u64 (cZ.toNat : Int), .int .u64 (eC.toNat : Int), .int .u64 (eD.toNat : Int)]) ai rfl ?_;refine S.region rfl <| O.q 2 rfl <| O.op (.p rfl) (.nr rfl rfl) <| O.slot 124 (v' := .int .u64 ((gD + oA cZ 14 18 41 + (cZ &&& eC ^^^ ~~~cZ &&& eD) + gq.getD t 0 + mD.getD t 0 + (oA x0 28 34 39 + (x0 &&& x1 ^^^ x0 &&& cI ^^^ x1 &&& cI))).toNat : Int)) rfl (by exact congrArg (Value.int .u64) (pT _ _)) ?_;refine O.op (.p rfl) (.p_ (j := 4) underlying276 gr rfl rfl rfl ah) <| O.op (.p rfl) (.lo gi) ?_
   refine O.q 1 rfl <| O.op (.p rfl) (.nr rfl rfl) <| O.slot 128 (v' := .int .u64 ((ew + (gD + oA cZ 14 18 41 + (cZ &&& eC ^^^ ~~~cZ &&& eD) + gq.getD t 0 + mD.getD t 0)).toNat : Int)) rfl (by exact congrArg (Value.int .u64) (pT _ _)) ?_;refine O.op (.p rfl) (.p_ (j := 0) underlying276 gr rfl rfl rfl ah) <| O.bB rfl (.bp gi rfl rfl bt ai aX) ?_;refine O.op (.p rfl) (.p_ (j := 4) underlying276 gr rfl rfl rfl ah) <| O.bB rfl (.bp gi rfl rfl bt ai aX) ?_;refine O.nil <| S.inBlock <| S.dx (b := j0) (cs' := bW (rf v mD (t + 1))) ai (by rw [hst]; rfl) ?_;refine S.region rfl <| O.op (.p rfl) (.add rfl rfl (IntWalk.i64_in _ ah)) <| O.q 1 rfl <| O.nil ?_;exact S.dD (ih (t + 1) ah ah)
  ·clear ih
   have ht:t=80:=by omega
   subst ht;have hu:=FR v mD hv 80;generalize rf v mD 80=u at *;refine S.exit rfl<|S.seq<|S.region rfl<|O.q 1 rfl<|O.nil<|S.block<|S.dx (b:=ij) (cs' :=bW (mE v u 0)++rest) ai rfl ?_;refine S.eM (ι:=Nat) (fun i=>i≤8) (fun i=>[(132,.int .i64 (i:Int))]) [(0,_),(8,_)] (fun i=>[obj ij T (bW (mE v u i)++rest),obj j0 276 (bW u),obj b4 382 (bW mD)]) (fun i=>8 - i) (0) ah (.cons rfl (.nil)) (.cons rfl (.cons rfl (.nil))) rfl fun i hx ih=>?_;have DY:=cH (g:=g);refine S.seq<|S.region rfl<|O.op (.p rfl) (.lss rfl rfl)<|O.nil (S.seq ?_)
   first|refine S.cm rfl (fun C5=>?_) (fun C5=>?_)|refine S.b_ rfl (fun C5=>?_) (fun C5=>?_)
   ·have hi:i<8:=by omega
    have hal:=Mz hv hu (Nat.le_of_lt hi);have xm:=hg;have w8:=hR
    try have DK:=hb
    try have Ds:=hK
    refine S.iw (B:=obj j0 276 (bW u)) ai fun ON hsp ⟨mp,hmp,EK⟩ xf=>?_;replace hg:=Fr.aI hg hsp;replace hR:=ig hR xf
    try replace hb:=hb.mono hsp
    try replace hK:=hK.mono hsp
    have dg:=(ga hmp).mono EK;have gy:=hg;have gw:=hR
    try have PF:=hb
    try have OX:=hK
    try have PB:=dg
    refine S.iw (B:=obj ij T (bW (mE v u i)++rest)) ai fun o8 dP ⟨q7,jL,jM⟩ gm=>?_;replace hg:=Fr.aI hg dP;replace hR:=ig hR gm
    try replace hb:=hb.mono dP
    try replace hK:=hK.mono dP
    try replace dg:=dg.mono dP
    have PC:=(ga jL).mono jM;refine S.skip<|S.seq<|S.block<|S.seq<|S.region rfl<|O.q 2 rfl<|O.nil<|S.bC (L:=[0,1,2,3,4,5,6,7,8,9,10,11]) bz aa<|af.q 2 rfl<|.quiet (.p rfl) rfl (fun _=>.nilCheck rfl)<|.quiet (.p rfl) rfl (fun _=>.kK (j:=i) underlying276 gr rfl rfl rfl ah)<|.quiet (.p rfl) rfl (fun _=>.load gi rfl (PC.at (by rw [List.getElem?_append_left (by rw [nc];omega)];exact qq ah))) ?_;refine af.slot 139 (v' :=.int .u64 ((v.getD i 0).toNat:Int)) rfl (by rw [My hv hu hi]) ?_;refine af.q 1 rfl<|.quiet (.p rfl) rfl (fun _=>.kK (j:=i) underlying276 gr rfl rfl rfl ah)<|.quiet (.p rfl) rfl (fun _=>.load gi rfl (dg.at (qq ah))) ?_;refine af.slot 142 (v' :=.int .u64 ((u.getD i 0).toNat:Int)) rfl aK ?_;refine .quiet (.p rfl) rfl (fun _=>.nr rfl rfl)<|af.slot 143 (v' :=.int .u64 ((v.getD i 0+u.getD i 0).toNat:Int)) rfl (by exact congrArg (Value.int .u64) (pT _ _)) ?_;refine .quiet (.p rfl) rfl (fun _=>.nilCheck rfl)<|.quiet (.p rfl) rfl (fun _=>.p_ (j:=i) underlying276 gr rfl rfl rfl ah)<|af.xZ rfl aa (fun _ hw=>gm hw) gi rfl rfl bt ai yP ?_;replace hg:=gy;replace hR:=gw
    try replace hb:=PF
    try replace hK:=OX
    try replace dg:=PB
    clear gy gw;refine S.inBlock<|S.back xf ?_;replace hg:=xm;replace hR:=w8
    try replace hb:=DK
    try replace hK:=Ds
    clear xm w8;refine S.dx (b:=ij) (cs' :=bW (mE v u (i+1))++rest) ai (by rw [Nat.zero_add,List.set_append_left _ _ (by rw [nc];omega),show Value.int .u64 ((v.getD i 0+u.getD i 0).toNat:Int)=qp (v.getD i 0+u.getD i 0) from rfl,Gj,MA hv hu hi]) ?_;refine S.region rfl<|O.op (.p rfl) (.add rfl rfl (IntWalk.i64_in _ ah))<|O.q 1 rfl<|O.nil ?_;exact S.dD (ih (i+1) ah ah)
   ·clear ih
    have hi:i=8:=by omega
    subst hi;rw [Mx hv hu,← hblk];refine S.exit rfl<|S.ez results211 fun w hw=>Holds.end_ hR hw ?_;exact pk ⟨rfl,rfl⟩
def jv (M:List UInt8) (a:Option Addr) (c:Nat):List Value:=bW (feed ev M)++[.slice a (bV M).length c,.int .u64 (M.length:Int),.bool true]
theorem vw (M:List UInt8) (a:Option Addr) (c:Nat):∃ x0 x1 cI ew cZ eC eD gD,feed ev M=[x0,x1,cI,ew,cZ,eC,eD,gD]∧jv M a c=[.int .u64 (x0.toNat:Int),.int .u64 (x1.toNat:Int),.int .u64 (cI.toNat:Int),.int .u64 (ew.toNat:Int),.int .u64 (cZ.toNat:Int),.int .u64 (eC.toNat:Int),.int .u64 (eD.toNat:Int),.int .u64 (gD.toNat:Int),.slice a (bV M).length c,.int .u64 (M.length:Int),.bool true]:=by
 obtain ⟨x0,x1,cI,ew,cZ,eC,eD,gD,h⟩:=JY (wV ev M rfl);exact ⟨x0,x1,cI,ew,cZ,eC,eD,gD,h,by rw [jv,h];rfl⟩
theorem IK {v:List b6} {y:Value} {rest:List Value} (hv:v.length=8):(bW v++y::rest)[8]?=some y:=by
 rw [List.getElem?_append_right (by rw [nc];omega),nc,hv];rfl
theorem IM {v:List b6} {y z:Value} {rest:List Value} (hv:v.length=8):(bW v++y::rest).set 8 z=bW v++z::rest:=by
 rw [List.set_append_right _ _ (by rw [nc];omega),nc,hv];rfl
theorem IL {v:List b6} {y z w:Value} (hv:v.length=8):8<(bW v++[y,z,w]).length:=by
 rw [List.length_append,nc,hv];exact (show 8<8+3 by decide)
theorem LQ {r:Fr} {b:Nat} {M:List UInt8} {a:Option Addr} {c:Nat} (h:At r ⟨b,0,none⟩ (jv M a c)):ay prog 210 #[.pointer (some ⟨b,0,none⟩)] r [] (aL fun v U=>v=.bool true∧U=[]):=by
 obtain ⟨x0,x1,cI,ew,cZ,eC,eD,gD,hx,hc⟩:=vw M a c;rw [hc] at h;refine ay.of (n:=11) _ rfl func210 rfl rfl rfl fun g hg R hR=>?_;have h:=h.mono hg;refine S.seq<|S.region rfl<|O.q 1 rfl<|O.nil<|S.seq<|S.region rfl<|O.q 1 rfl<|O.op (.p rfl) (.x_ underlying192 rfl rfl)<|O.sT 4 rfl aK ?_;refine O.q 2 rfl<|O.op (.g rfl rfl) (.nilCheck rfl)<|O.op (.g rfl rfl) (.fieldAddr Oz rfl)<|O.op (.g rfl rfl) (.loadAt iv rfl (h.drop 10) rfl) ?_;refine O.sT 9 rfl aK ?_;refine O.q 2 rfl<|O.nil ?_;exact S.rt results210 rfl hR ⟨rfl,rfl⟩
theorem L9 {r:Fr} {ij:Nat} {va:Value} {M:List UInt8} {a:Option Addr} {c:Nat} {ps:List (List UInt8)} (hp:aj (ag.slice ag.u8) r va ps) (hK:At r ⟨1,0,none⟩ (bW gq)) (hl:M.length+ps.flatten.length≤1000000000000) :
  ay prog 127 #[.pointer (some ⟨ij,0,none⟩),va] r [obj ij 278 (jv M a c),av ag.u8 5 (.slice a (bV M).length c) (bV M)]
   (aL fun v U=>∃ a' c',v=.int .i64 0∧U=[obj ij 278 (jv (M++ps.flatten) a' c'),av ag.u8 5 (.slice a' (bV (M++ps.flatten)).length c') (bV (M++ps.flatten))]):=by
 have Ep:=hp;obtain ⟨a1,c1,rfl⟩:=hp.shape;have hpb:=hp.bound;refine ay.of (n:=99) _ rfl func127 rfl rfl rfl fun g hg R hR=>?_;have hp:=hp.mono hg;have hK:=hK.mono hg;have fq:=hg;have fp:=hR
 try have El:=hp
 try have Dr:=hK
 refine S.iw (B:=obj ij 278 (jv M a c)) ai fun go cN ⟨qd,hmo,jw⟩ eV=>?_;replace hg:=Fr.aI hg cN;replace hR:=ig hR eV
 try replace hp:=hp.mono cN
 try replace hK:=hK.mono cN
 have dg:=(ga hmo).mono jw;refine S.seq<|S.region rfl<|O.q 1 rfl<|O.nil<|S.seq<|S.seq<|S.region rfl<|O.q 1 rfl<|O.aC (.p rfl) rfl aa rfl rfl ((LQ dg)) ?_;rintro _ _ ⟨rfl,rfl⟩
 try simp only [an,aq,au]
 refine O.sT 9 rfl aK ?_;refine O.op (.p rfl) (.not rfl)<|O.nil<|S.aQ rfl<|S.skip<|S.seq<|S.seq<|S.back eV ?_;replace hg:=fq;replace hR:=fp
 try replace hp:=El
 try replace hK:=Dr
 clear fq fp;refine S.region rfl<|O.q 1 rfl<|O.op (.p rfl) (.len rfl underlying109 rfl)<|O.q 1 rfl<|O.nil<|S.block<|S.Ax (ι:=Nat) (dJ:=Option Addr × Nat) (jC:=List UInt8) (fun i s Q=>i≤ps.length∧Q=M++(ps.take i).flatten) (fun i s Q=>[(13,.int .i64 (i:Int))]) [(0,_),(11,_),(12,_)] (fun i s Q=>[obj ij 278 (jv Q s.1 s.2),av ag.u8 5 (.slice s.1 (bV Q).length s.2) (bV Q)]) (fun i s Q=>ps.length - i) (0) ((a,c)) (M) (by exact ⟨by simp,by simp⟩) (.cons rfl (.nil)) (.cons rfl (.cons rfl (.cons rfl (.nil)))) rfl fun i s Q hx ih=>?_;have bh:=cH (g:=g);obtain ⟨hx1,hQ⟩:=hx;refine S.seq<|S.region rfl<|O.op (.p rfl) (.lss rfl rfl)<|O.nil (S.seq ?_)
 first|refine S.cm rfl (fun e_=>?_) (fun e_=>?_)|refine S.b_ rfl (fun e_=>?_) (fun e_=>?_)
 ·have hi:i<ps.length:=by omega
  have hst:Q++ps[i]=M++(ps.take (i+1)).flatten:=by rw [hQ,List.append_assoc,List.take_succ_eq_append_getElem hi,List.flatten_append];simp
  have Et:Q.length+ps[i].length≤1000000000000:=by
   have h1:=congrArg List.length hst;have h2:=congrArg (fun l=>(List.flatten l).length) (List.take_append_drop (i+1) ps);simp only [List.flatten_append,List.length_append] at h1 h2
   omega
  have hrl:(bV Q).length<128:=by rw [A4];omega
  obtain ⟨x0,x1,cI,ew,cZ,eC,eD,gD,hx,hc⟩:=vw Q s.1 s.2;refine S.skip<|S.seq<|S.block<|S.seq<|S.region rfl<|O.ib (.p rfl) underlying109 uA rfl rfl rfl Ep hg (h:=fun yj wO gW Rf=>?_);have kZ:=ag.rel.mono Rf hg;obtain ⟨abB,rfl,vB⟩:=kZ;obtain ⟨wA,wG,rfl⟩:=vB.shape;refine O.op (.p rfl) (.loadAt bl rfl gW rfl) ?_;refine O.q 1 rfl<|O.nil (S.seq ?_);generalize ps[i]=p at *;refine S.dx (b:=ij) (cs' :=[.int .u64 (x0.toNat:Int),.int .u64 (x1.toNat:Int),.int .u64 (cI.toNat:Int),.int .u64 (ew.toNat:Int),.int .u64 (cZ.toNat:Int),.int .u64 (eC.toNat:Int),.int .u64 (eD.toNat:Int),.int .u64 (gD.toNat:Int),.slice s.1 (bV Q).length s.2,.int .u64 (Q.length:Int),.bool true]) ai hc ?_;refine S.region rfl<|O.q 1 rfl<|O.op (.p rfl) (.nilCheck rfl)<|O.op (.p rfl) (.aH CY rfl)<|O.op (.p rfl) (.lo gi) ?_;refine O.q 1 rfl<|O.op (.p rfl) (.len rfl underlying24 rfl)<|O.op (.p rfl) (.lU underlying3 underlying274 rfl)<|O.slot 23 (v' :=.int .u64 (p.length:Int)) rfl (by rw [rz ah]) ?_;refine O.op (.p rfl) (.nr rfl rfl)<|O.slot 24 (v' :=.int .u64 ((Q.length+p.length:Nat):Int)) rfl (by rw [← Int.natCast_add,rz ah]) ?_;refine O.op (.p rfl) (.nilCheck rfl)<|O.op (.p rfl) (.aH CY rfl)<|O.bB rfl (.bp gi rfl rfl bt ai aX) ?_
  refine O.nil<|S.seq<|S.seq<|S.region rfl<|O.q 1 rfl<|O.op (.p rfl) (.nilCheck rfl)<|O.op (.p rfl) (.aH nB rfl)<|O.op (.p rfl) (.lo bl) ?_;refine O.op (.p rfl) (.len rfl underlying24 rfl)<|O.op (.p rfl) (.sub rfl rfl (IntWalk.i64_in _ ah))<|O.q 1 rfl<|O.op (.p rfl) (.len rfl underlying24 rfl)<|O.op (.p rfl) (.min2 rfl rfl)<|O.slot 35 (v' :=.int .i64 ((min (128 - (bV Q).length) p.length:Nat):Int)) rfl (by exact congrArg (Value.int .i64) (by split<;>omega)) ?_;refine O.q 1 rfl<|O.nil (S.seq ?_);have p8:min (128 - (bV Q).length) p.length≤p.length:=by omega
  have hn2:(bV Q).length+min (128 - (bV Q).length) p.length≤128:=by omega
  have tM:(bV Q).length+min (128 - (bV Q).length) p.length<128→min (128 - (bV Q).length) p.length=p.length:=by omega
  generalize min (128 - (bV Q).length) p.length=n at *;refine S.dx (b:=ij) (cs' :=[.int .u64 (x0.toNat:Int),.int .u64 (x1.toNat:Int),.int .u64 (cI.toNat:Int),.int .u64 (ew.toNat:Int),.int .u64 (cZ.toNat:Int),.int .u64 (eC.toNat:Int),.int .u64 (eD.toNat:Int),.int .u64 (gD.toNat:Int),.slice s.1 (bV Q).length s.2,.int .u64 ((Q.length+p.length:Nat):Int),.bool true]) ai rfl ?_;refine S.vb (fun (x:(List UInt8 × List UInt8) × (Option Addr × Nat) × (Option Addr × Nat))=>bV x.1.1=[]∧x.1.1++x.1.2=Q++p∧aj ag.u8 g.h (.slice x.2.2.1 x.1.2.length x.2.2.2) x.1.2) (fun (x:(List UInt8 × List UInt8) × (Option Addr × Nat) × (Option Addr × Nat))=>[(6,.slice x.2.2.1 x.1.2.length x.2.2.2)]) [(0,_),(11,_),(12,_),(13,_)] (fun (x:(List UInt8 × List UInt8) × (Option Addr × Nat) × (Option Addr × Nat))=>[obj ij 278 (bW (feed ev x.1.1)++[.slice x.2.1.1 0 x.2.1.2,.int .u64 ((Q.length+p.length:Nat):Int),.bool true]),av ag.u8 5 (.slice x.2.1.1 0 x.2.1.2) []]) (.cons rfl (.cons rfl (.cons rfl (.cons rfl (.nil))))) (fun key=>?_) (fun x hx=>?_)
  ·have hm2:=cH (g:=g)
   refine S.region rfl<|O.q 1 rfl<|O.op (.p rfl) (.nilCheck rfl)<|O.op (.p rfl) (.aH nB rfl)<|O.op (.p rfl) (.lo bl) ?_;refine O.op (.p rfl) (.len rfl underlying24 rfl)<|O.op (.p rfl) (.gtr rfl rfl)<|O.nil ?_
   first|refine S.cm rfl (fun Dd=>?_) (fun Dd=>?_)|refine S.b_ rfl (fun Dd=>?_) (fun Dd=>?_)
   ·refine S.seq<|S.bC (L:=[0,1,2,3,5,6,7,9,10,11,4,8,12,13,14,15]) bz aa ?_
    refine af.q 2 rfl<|.quiet (.p rfl) rfl (fun _=>.nilCheck rfl)<|.quiet (.p rfl) rfl (fun _=>.aH nB rfl)<|af.q 2 rfl<|af.sliceTo (b:=n) (.p rfl) underlying24 fO rfl rfl zE bD bD (fun abu xa=>?_);obtain ⟨a49,u6,rfl⟩:=xa.shape;refine af.q 2 rfl<|af.sliceFrom (a:=n) (.p rfl) underlying24 fO rfl rfl zE bD bD (fun abw vr=>?_);obtain ⟨a53,u7,rfl⟩:=vr.shape;refine af.cC (.p rfl) aa (fun _=>.cV bl rfl ai aK) ?_;refine af.mF (.p rfl) aa (T:=ag.u8) AV underlying24 eT aB rfl rfl ai (by first|assumption|exact aj.mono hg zE|exact aj.left zE|exact aj.left (aj.mono hg zE)) bD bD (fun a50 nv=>?_);refine .quiet (.p rfl) rfl (fun _=>.nilCheck rfl)<|.quiet (.p rfl) rfl (fun _=>.aH nB rfl)<|af.bp rfl aa bl rfl rfl bt ai aX ?_;refine af.q 1 rfl<|aJ.nil (S.seq (S.seq ?_));have jx:(p.take n).length=n:=by rw [List.length_take];omega
    have hal:(bV Q++p.take n).length=(bV Q).length+n:=by rw [List.length_append,jx]
    refine S.region rfl<|O.q 1 rfl<|O.op (.p rfl) (.nilCheck rfl)<|O.op (.p rfl) (.aH nB rfl)<|O.op (.p rfl) (.lo bl) ?_;refine O.op (.p rfl) (.len rfl underlying24 rfl)<|O.op (.p rfl) (.lss rfl rfl)<|O.nil ?_
    first|refine S.cm rfl (fun tw=>?_) (fun tw=>?_)|refine S.b_ rfl (fun tw=>?_) (fun tw=>?_)
    ·have hlt:(bV Q).length+n<128:=by omega
     have hnp:=tM hlt;have xP:p.take n=p:=List.take_of_length_le ah;obtain ⟨e1,e2⟩:=On ev (b:=Q) (c:=p) (by rw [← xP,hal];exact hlt);have hml:(Q++p).length=Q.length+p.length:=List.length_append;have hE:(bV Q).length+(p.take n).length=(bV (Q++p)).length:=by rw [e2,List.length_append,xP]
     refine S.dx (b:=ij) (cs' :=jv (Q++p) a50 nv) ai (by rw [hE,jv,e1,hx,hml];rfl) ?_;refine S.jd (T:=ag.u8) (e:=5) (v' :=.slice a50 (bV (Q++p)).length nv) (xs' :=bV (Q++p)) ai (by rw [hE]) (by rw [e2,xP]) ?_;refine S.exit rfl<|S.region rfl<|O.op (.p rfl) (.add rfl rfl (IntWalk.i64_in _ ah))<|O.q 1 rfl<|O.nil ?_;exact S.pw (ih (i+1) ((a50,nv)) (Q++p) (by exact ⟨by omega,hst⟩) ah)
    ·have heq:(bV Q++p.take n).length=128:=by rw [hal];omega
     obtain ⟨e1,e2⟩:=Om ev (b:=Q) (c:=p.take n) heq;rw [hx] at e1;have IZ:=hg;have Ix:=hR
     try have QS:=hp
     try have OW:=hK
     try have Qz:=gW
     try have Q0:=kZ
     try have QU:=vB
     try have Pc:=xa
     try have Pe:=vr
     refine S.iw (B:=av ag.u8 5 (.slice a50 ((bV Q).length+(p.take n).length) nv) (bV Q++p.take n)) ai fun Zp fI ⟨ml,hml,Rj⟩ lz=>?_;replace hg:=Fr.aI hg fI;replace hR:=ig hR lz
     try replace hp:=hp.mono fI
     try replace hK:=hK.mono fI
     try replace gW:=gW.mono fI
     try replace kZ:=kZ.mono fI
     try replace vB:=vB.mono fI
     try replace xa:=xa.mono fI
     try replace vr:=vr.mono fI
     have hla:=(av.arr hml).mono Rj;refine S.skip<|S.seq<|S.bC (L:=[0,1,2,3,4,5,6,7]) bz aa ?_;refine af.q 1 rfl<|.quiet (.p rfl) rfl (fun _=>.nilCheck rfl)<|.quiet (.p rfl) rfl (fun _=>.aH CX rfl)<|af.q 1 rfl<|.quiet (.p rfl) rfl (fun _=>.nilCheck rfl)<|.quiet (.p rfl) rfl (fun _=>.aH nB rfl)<|af.cC (.p rfl) aa (fun _=>.cV bl rfl ai aK) ?_;refine af.bM (.p rfl) aa rfl aa rfl rfl ai (Hh (T:=278) (v:=[x0,x1,cI,ew,cZ,eC,eD,gD]) (rest:=[.slice a50 ((bV Q).length+(p.take n).length) nv,.int .u64 ((Q.length+p.length:Nat):Int),.bool true]) rfl hla heq hK) ?_;rintro _ _ ⟨rfl,rfl⟩
     try simp only [an,aq,au]
     refine aJ.nil<|S.back lz ?_;replace hg:=IZ;replace hR:=Ix
     try replace hp:=QS
     try replace hK:=OW
     try replace gW:=Qz
     try replace kZ:=Q0
     try replace vB:=QU
     try replace xa:=Pc
     try replace vr:=Pe
     clear IZ Ix;have hvl:(rp [x0,x1,cI,ew,cZ,eC,eD,gD] (bV Q++p.take n)).length=8:=Lt _ _ rfl;refine S.region rfl<|O.q 2 rfl<|O.op (.p rfl) (.nilCheck rfl)<|O.op (.p rfl) (.aH nB rfl)<|O.op (.p rfl) (.cV bl rfl ai (IK hvl)) ?_;refine O.op (.p rfl) (.W6 (T:=ag.u8) (q:=0) underlying24 fO rfl rfl rfl (Nat.zero_le _))<|O.op (.p rfl) (.nilCheck rfl)<|O.op (.p rfl) (.aH nB rfl)<|O.bB rfl (.bp bl rfl rfl rfl ai (IL hvl)) ?_;refine O.nil<|S.dx (b:=ij) (cs' :=bW (feed ev (Q++p.take n))++[.slice a50 0 nv,.int .u64 ((Q.length+p.length:Nat):Int),.bool true]) ai (by rw [IM hvl,e1]) ?_;refine S.conv (B:=av ag.u8 5 (.slice a50 ((bV Q).length+(p.take n).length) nv) (bV Q++p.take n)) (C:=av ag.u8 5 (.slice a50 0 nv) []) ai (fun h x=>⟨h,Fr.bY _,av.take (ys:=bV Q++p.take n) rfl x⟩) ?_;refine S.pk ?_ (S.weaken ?_ (key (((Q++p.take n,p.drop n),(a50,nv),(a53,u7))) (by exact ⟨e2,by rw [List.append_assoc,List.take_append_drop],vr⟩)))
     ·repeat (first|exact aS|exact aU|(apply aT;focus (repeat (first|exact aR|apply zt)))|apply aV)
     repeat (first|exact Sub.nil|refine Sub.cons rfl ?_)
   ·have h0:bV Q=[]:=List.eq_nil_of_length_eq_zero ah
    have It:(bV Q).length=0:=by rw [h0];rfl
    refine S.dx (b:=ij) (cs' :=bW (feed ev Q)++[.slice s.1 0 s.2,.int .u64 ((Q.length+p.length:Nat):Int),.bool true]) ai (by rw [It,hx];rfl) ?_;refine S.jd (T:=ag.u8) (e:=5) (v' :=.slice s.1 0 s.2) (xs' :=[]) ai (by rw [It]) h0 ?_;refine S.skip<|S.pk ?_ (S.weaken ?_ (key (((Q,p),s,(wA,wG))) (by exact ⟨h0,rfl,vB⟩)))
    ·repeat (first|exact aS|exact aU|(apply aT;focus (repeat (first|exact aR|apply zt)))|apply aV)
    repeat (first|exact Sub.nil|refine Sub.cons rfl ?_)
  ·obtain ⟨⟨wk,p1⟩,⟨al,cl⟩,⟨a6,dH⟩⟩:=x
   obtain ⟨h0,h1,h2⟩:=hx;simp only at h0 h1 h2 ⊢;obtain ⟨f1,f2⟩:=Oo ev (b:=wk) (c:=p1) h0;rw [h1] at f1 f2;refine S.seq<|S.block<|S.jO (ι:=Nat) (dJ:=Option Addr × Nat) (fun k u=>128*k≤p1.length∧aj ag.u8 g.h (.slice u.1 (p1.drop (128*k)).length u.2) (p1.drop (128*k))) (fun k u=>[(6,.slice u.1 (p1.drop (128*k)).length u.2)]) [(0,_),(11,_),(12,_),(13,_)] (fun k u=>[obj ij 278 (bW (lp (feed ev wk) p1 k)++[.slice al 0 cl,.int .u64 ((Q.length+p.length:Nat):Int),.bool true]),av ag.u8 5 (.slice al 0 cl) []]) (fun k u=>p1.length - k) (0) ((a6,dH)) (by exact ⟨by omega,h2⟩) (.cons rfl (.nil)) (.cons rfl (.cons rfl (.cons rfl (.cons rfl (.nil))))) rfl fun k u hx ih=>?_;have hm2:=cH (g:=g);obtain ⟨ot,hk2⟩:=hx;have hdl:(p1.drop (128*k)).length=p1.length - 128*k:=List.length_drop;have xR:(lp (feed ev wk) p1 k).length=8:=CP _ _ (wV _ _ rfl) k;refine S.seq<|S.seq<|S.region rfl<|O.q 1 rfl<|O.op (.p rfl) (.len rfl underlying24 rfl)<|O.op (.p rfl) (.geq rfl rfl)<|O.nil ?_
   first|refine S.cm rfl (fun Dn=>?_) (fun Dn=>?_)|refine S.b_ rfl (fun Dn=>?_) (fun Dn=>?_)
   ·have ZT:128*(k+1)≤p1.length:=by omega
    have oo:(p1.drop (128*k)).drop 128=p1.drop (128*(k+1)):=by rw [List.drop_drop,Nat.mul_succ]
    refine S.skip<|S.seq<|S.block<|S.bC (L:=[0,1,2,3,4,5]) bz aa<|af.q 1 rfl<|.quiet (.p rfl) rfl (fun _=>.nilCheck rfl)<|.quiet (.p rfl) rfl (fun _=>.aH CX rfl)<|af.q 1 rfl<|af.sliceTo (b:=128) (.p rfl) underlying24 fO rfl rfl zE bD bD (fun abz IG=>?_);obtain ⟨a87,YQ,rfl⟩:=IG.shape;refine af.bM (.p rfl) aa rfl aa rfl rfl ai (Hh (T:=278) (v:=lp (feed ev wk) p1 k) (rest:=[.slice al 0 cl,.int .u64 ((Q.length+p.length:Nat):Int),.bool true]) xR IG (by rw [List.length_take];omega) hK) ?_;rintro _ _ ⟨rfl,rfl⟩
    try simp only [an,aq,au]
    refine aJ.nil<|S.inBlock<|S.region rfl<|O.q 1 rfl<|O.sliceFrom (a:=128) (.p rfl) underlying24 fO rfl rfl zE bD bD (fun aby DE=>?_);obtain ⟨a82,Nf,rfl⟩:=DE.shape;refine O.q 1 rfl<|O.nil ?_;rw [oo] at DE ⊢;exact S.pw (ih (k+1) ((a82,Nf)) (by exact ⟨by omega,DE⟩) ah)
   ·clear ih
    have hkk:k=p1.length / 128:=by omega
    have PU:lp (feed ev wk) p1 k=feed ev (Q++p):=by rw [hkk];exact f1.symm
    have xL:p1.drop (128*k)=bV (Q++p):=by rw [hkk];exact f2.symm
    have hml:(Q++p).length=Q.length+p.length:=List.length_append;refine S.exit rfl ?_;rw [PU,xL];rw [xL] at hk2 hdl;have EP :(feed ev (Q++p)).length=8:=wV _ _ rfl;refine S.region rfl<|O.q 2 rfl<|O.op (.p rfl) (.nilCheck rfl)<|O.op (.p rfl) (.aH nB rfl)<|O.op (.p rfl) (.cV bl rfl ai (IK EP)) ?_;refine O.q 1 rfl<|O.aN (.p rfl) (.mF (T:=ag.u8) AV underlying24 eT aB rfl rfl ai (by first|assumption|exact aj.mono hg zE|exact aj.left zE|exact aj.left (aj.mono hg zE)) bD bD) ?_;rintro _ _ ⟨B2,Ck,rfl,rfl⟩;refine O.op (.p rfl) (.nilCheck rfl)<|O.op (.p rfl) (.aH nB rfl)<|O.bB rfl (.bp bl rfl rfl rfl ai (IL EP)) ?_;refine O.nil<|S.inBlock<|S.dx (b:=ij) (cs' :=jv (Q++p) B2 Ck) ai (by rw [IM EP,jv,hml,List.length_nil,Nat.zero_add]) ?_;refine S.jd (T:=ag.u8) (e:=5) (v' :=.slice B2 (bV (Q++p)).length Ck) (xs' :=bV (Q++p)) ai (by rw [List.length_nil,Nat.zero_add]) (by rw [List.nil_append]) ?_;refine S.region rfl<|O.op (.p rfl) (.add rfl rfl (IntWalk.i64_in _ ah))<|O.q 1 rfl<|O.nil ?_;exact S.pw (ih (i+1) ((B2,Ck)) (Q++p) (by exact ⟨by omega,hst⟩) ah)
 ·clear ih
  have hi:i=ps.length:=by omega
  subst hi;rw [List.take_length] at hQ;subst hQ;refine S.exit rfl<|S.seq<|S.region rfl<|O.q 1 rfl<|O.nil ?_;exact S.rt results127 rfl hR ⟨s.1,s.2,rfl,rfl⟩
end Go.Proofs.YtojafegjlahajaaGreatDoor
