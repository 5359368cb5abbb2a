/- Texts of this proof. -/
import Derived.Test.YtojafegjlahajaaGreatDoorQSha3
import Derived.Test.YtojafegjlahajaaGreatDoorQSpZero
open Go Go.Sp Go.Proofs.Tryz
set_option maxRecDepth 100000
set_option maxHeartbeats 1000000
attribute [local irreducible] obj Own av
namespace Go.Proofs.YtojafegjlahajaaGreatDoor
theorem O6:jD [] none 0=bR er++[.slice none 0 0,.int .u64 0,.bool true]:=by
 rw [jD,show feed er []=er from rfl];rfl
theorem Tp {r:Fr} (hH:At r ⟨0,0,none⟩ (bR er)):ay prog 126 #[] r [] (aL fun v U=>∃ b,v=.pointer (some ⟨b,0,none⟩)∧U=[obj b 278 (jD [] none 0)]):=by
 refine ay.of (n:=4) _ rfl func126 rfl rfl rfl fun g hg R hR=>?_;have hH:=hH.mono hg;refine S.seq<|S.region rfl<|O.q 1 rfl<|O.nil<|S.seq<|S.region rfl<|O.op (.p rfl) (.bz isAgg276 aa rfl hH) ?_;refine O.op (.p rfl) (.build (cs:=[_,_,_,_,_,_,_,_,_,_,_]) underlying278 rfl rfl rfl rfl rfl)<|O.aM (.p rfl) (.box (cs:=[_,_,_,_,_,_,_,_,_,_,_]) rfl rfl) ?_;rintro _ _ ⟨b3,rfl,rfl⟩;refine O.q 1 rfl<|O.nil<|S.c7 (b:=b3) (cs' :=jD [] none 0) ai (by rw [O6];rfl) ?_;exact S.rt results126 rfl hR ⟨b3,rfl,rfl⟩
theorem Ni {r:Fr} {b:Nat} {M:List UInt8} {a:Option Addr} {c:Nat} (h:At r ⟨b,0,none⟩ (jD M a c)) (hl:aj ag.u8 r (.slice a (bQ M).length c) (bQ M)) :
  ay prog 212 #[.pointer (some ⟨b,0,none⟩)] r [] (aL fun v U=>∃ b' a' c',v=.pointer (some ⟨b',0,none⟩)∧U=[obj b' 278 (jD M a' c'),av ag.u8 5 (.slice a' (bQ M).length c') (bQ M)]):=by
 obtain ⟨x0,x1,cC,eH,cU,eN,eO,gH,hx,hc⟩:=vu M a c;have hrl:(bQ M).length<128:=by rw [AU];omega
 have h0:=h;rw [hc] at h;refine ay.of (n:=16) _ rfl func212 rfl rfl rfl fun g hg R hR=>?_;have h:=h.mono hg;have h0:=h0.mono hg;have hl:=hl.mono hg;refine S.seq<|S.region rfl<|O.q 1 rfl<|O.nil<|S.seq<|S.seq<|S.region rfl<|O.q 1 rfl<|O.aB (.p rfl) rfl aa rfl rfl ((Li h0)) ?_;rintro _ _ ⟨rfl,rfl⟩
 try simp only [an,aq,au]
 refine O.sT 5 rfl aK ?_;refine O.op (.p rfl) (.not rfl)<|O.nil<|S.aQ rfl<|S.skip<|S.seq<|S.region rfl<|O.q 1 rfl<|O.op (.p rfl) (.nilCheck rfl)<|O.op (.p rfl) (.bz isAgg278 aa rfl h) ?_;refine O.aM (.p rfl) (.alloc (cs:=[.int .u64 0,.int .u64 0,.int .u64 0,.int .u64 0,.int .u64 0,.int .u64 0,.int .u64 0,.int .u64 0,.slice none 0 0,.int .u64 0,.bool false]) zeroValue278 rfl) ?_;rintro _ _ ⟨b3,rfl,rfl⟩;refine O.bu rfl (.cZ aa rfl rfl rfl rfl ai aW) ?_;refine O.nil<|S.seq<|S.region rfl<|O.q 1 rfl<|O.op (.p rfl) (.nilCheck rfl)<|O.op (.p rfl) (.fieldAddr nA rfl)<|O.op (.p rfl) (.loadAt bc rfl (h.drop 8) rfl) ?_;refine O.aB (.p rfl) rfl aa rfl rfl ((eE hl ah)) ?_;rintro _ _ ⟨nV,n4,rfl,rfl⟩
 try simp only [an,aq,au]
 refine O.op (.p rfl) (.aD nA rfl)<|O.bu rfl (.bn bc rfl rfl bq ai aW) ?_;refine O.nil<|S.seq<|S.region rfl<|O.q 1 rfl<|O.nil<|S.c7 (b:=b3) (cs' :=jD M nV n4) ai (by rw [jD,hx];rfl) ?_;exact S.rt results212 rfl hR ⟨b3,nV,n4,rfl,rfl⟩
theorem GK (n:Int) (j:Nat) (h:j<8):(be n).take j++[jN n (7 - j)]=(be n).take (j+1):=by
 match j,h with
 |0,_|1,_|2,_|3,_|4,_|5,_|6,_|7,_=>rfl
theorem GL (n:Int) (j:Nat) (h:j≤8):((be n).take j).length=j:=by rw [List.length_take,yY];omega
theorem KZ {N:Nat} (hN:N<18446744073709551616) {j:Nat} (hj:j<8):Value.int .u8 (IntKind.u8.wrap ((N:Int).fdiv (2 ^ min ((56:Int) - ((8*j:Nat):Int)).toNat IntKind.u64.bits)))=bD (jN (N:Int) (7 - j)):=by
 have:=K0 (N:Int) (7 - j) ah ((56:Int) - ((8*j:Nat):Int)) ah;rw [rp hN] at this;rw [this];rfl
theorem T9 (z:Nat):(128:UInt8)::List.replicate z 0++[0]=128::List.replicate (z+1) 0:=by
 rw [List.cons_append,← List.replicate_succ']
theorem T0 {ws:List bX} {k:Nat} (h:k<ws.length):nN (ws.take k)++oz ws[k]=nN (ws.take (k+1)):=by
 rw [List.take_succ_eq_append_getElem h];unfold nN;rw [List.map_append,List.flatten_append];simp
theorem WH {r:Fr} {b:Nat} {M:List UInt8} {a:Option Addr} {c:Nat} (h:At r ⟨b,0,none⟩ (jD M a c)) (hl:aj ag.u8 r (.slice a (bQ M).length c) (bQ M)) (hK:At r ⟨1,0,none⟩ (bR gr)) (hm:M.length≤100000000000) :
  ay prog 128 #[.pointer (some ⟨b,0,none⟩)] r [] (aL fun v U=>∃ a' c',v=.slice a' 64 c' ∧U=[av ag.u8 5 (.slice a' 64 c') (lM M)]):=by
 obtain ⟨x0,x1,cC,eH,cU,eN,eO,gH,hx,hc0⟩:=vu M a c;clear hx hc0 x0 x1 cC eH cU eN eO gH;have hrm:(bQ M).length=M.length % 128:=AU M;have xF:kP M.length<128:=by unfold kP;omega
 refine ay.of (n:=73) _ rfl func128 rfl rfl rfl fun g hg R hR=>?_;have h:=h.mono hg;have hl:=hl.mono hg;have hK:=hK.mono hg;refine S.seq<|S.region rfl<|O.q 1 rfl<|O.nil<|S.seq<|S.region rfl<|O.q 1 rfl<|O.aB (.p rfl) rfl aa rfl rfl ((Ni h hl)) ?_;rintro _ _ ⟨nr,a12,jO,rfl,rfl⟩
 try simp only [an,aq,au]
 refine O.q 1 rfl<|O.nil<|S.seq<|S.seq<|S.region rfl<|O.q 1 rfl<|O.op (.p rfl) (.rK underlying192 rfl rfl)<|O.aN 14 rfl aK ?_;refine O.nil<|S.aQ rfl<|S.skip (S.seq ?_);obtain ⟨x0,x1,cC,eH,cU,eN,eO,gH,hx,hc⟩:=vu M a12 jO;refine S.c7 (b:=nr) (cs' :=[.int .u64 (x0.toNat:Int),.int .u64 (x1.toNat:Int),.int .u64 (cC.toNat:Int),.int .u64 (eH.toNat:Int),.int .u64 (cU.toNat:Int),.int .u64 (eN.toNat:Int),.int .u64 (eO.toNat:Int),.int .u64 (gH.toNat:Int),.slice a12 (bQ M).length jO,.int .u64 (M.length:Int),.bool true]) ai hc ?_;refine S.region rfl<|O.q 1 rfl<|O.op (.p rfl) (.nilCheck rfl)<|O.op (.p rfl) (.aD CE rfl)<|O.op (.p rfl) (.lo gj) ?_;refine O.op (.p rfl) (.Ti rfl rfl)<|O.slot 19 (v' :=.int .u64 ((8*M.length:Nat):Int)) rfl (by exact congrArg _ (by rw [show (8:Int)*(M.length:Int)=((8*M.length:Nat):Int) from by omega,rp ah])) ?_;refine O.q 1 rfl<|O.nil<|S.seq<|S.region rfl<|O.aM (.p rfl) (.JH (T:=ag.u8) (c:=256) underlying24 eR rfl rfl rfl rfl aC aC) ?_;rintro _ _ ⟨a20,y3,rfl,rfl⟩;refine O.aM (.p rfl) (.ct (T:=ag.u8) (ys:=[128]) underlying24 eR aC rfl rfl ⟨rfl,trivial⟩ aC) ?_;rintro _ _ ⟨a21,BU,rfl,rfl⟩;refine O.aM (.p rfl) (.gT (T:=ag.u8) underlying24 eR aC rfl rfl ai ai bJ bJ) ?_;rintro _ _ ⟨a22,ec,rfl,rfl⟩
 refine O.q 1 rfl<|O.nil<|S.seq<|S.block<|S.jT (ι:=Nat) (dI:=Option Addr × Nat) (fun z s=>z≤kP M.length) (fun z s=>[(5,.slice s.1 (1+z) s.2)]) [(3,_),(4,_)] (fun z s=>[av ag.u8 5 (.slice s.1 (1+z) s.2) (128::List.replicate z 0),obj nr 278 [.int .u64 (x0.toNat:Int),.int .u64 (x1.toNat:Int),.int .u64 (cC.toNat:Int),.int .u64 (eH.toNat:Int),.int .u64 (cU.toNat:Int),.int .u64 (eN.toNat:Int),.int .u64 (eO.toNat:Int),.int .u64 (gH.toNat:Int),.slice a12 (bQ M).length jO,.int .u64 (M.length:Int),.bool true],av ag.u8 5 (.slice a12 (bQ M).length jO) (bQ M)]) (fun z s=>kP M.length - z) (0) ((a22,ec)) bI (.cons rfl (.nil)) (.cons rfl (.cons rfl (.nil))) rfl fun z s hx ih=>?_;have aX:=cL (g:=g);refine S.seq<|S.seq<|S.region rfl<|O.q 1 rfl<|O.op (.p rfl) (.nilCheck rfl)<|O.op (.p rfl) (.aD nA rfl)<|O.op (.p rfl) (.lo bc) ?_;refine O.op (.p rfl) (.len rfl underlying24 rfl)<|O.q 1 rfl<|O.op (.p rfl) (.len rfl underlying24 rfl)<|O.op (.p rfl) (.add rfl rfl (IntWalk.i64_in _ ah))<|O.op (.p rfl) (.rem rfl rfl ah)<|O.slot 31 (v' :=.int .i64 (((M.length % 128+(1+z)) % 128:Nat):Int)) rfl (by exact congrArg (Value.int .i64) (by rw [hrm,Int.tmod_eq_emod_of_nonneg ah];omega)) ?_;refine O.op (.p rfl) (.neq rfl rfl)<|O.nil ?_
 first|refine S.cc rfl (fun tg=>?_) (fun tg=>?_)|refine S.b7 rfl (fun tg=>?_) (fun tg=>?_)
 ·have hz:z<kP M.length:=by unfold kP at *;omega
  refine S.skip<|S.block<|S.region rfl<|O.q 1 rfl<|O.aM (.p rfl) (.ct (T:=ag.u8) (ys:=[0]) underlying24 eR aC rfl rfl ⟨rfl,trivial⟩ aC) ?_;rintro _ _ ⟨uS,u0,rfl,rfl⟩;refine O.aM (.p rfl) (.gT (T:=ag.u8) underlying24 eR aC rfl rfl ai ai bJ bJ) ?_;rintro _ _ ⟨a35,BY,rfl,rfl⟩;refine O.q 1 rfl<|O.nil (S.inBlock ?_);rw [T9];have hlz:(128::List.replicate z (0:UInt8)).length=1+z:=by rw [List.length_cons,List.length_replicate];omega
  simp only [hlz,List.length_singleton];exact S.pw (ih (z+1) ((a35,BY)) ah ah)
 ·clear ih
  have hz:z=kP M.length:=by unfold kP at *;omega
  subst hz;have hlz:(128::List.replicate (kP M.length) (0:UInt8)).length=1+kP M.length:=by rw [List.length_cons,List.length_replicate];omega
  refine S.exit rfl<|S.seq<|S.region rfl<|O.q 1 rfl<|O.aM (.p rfl) (.Mb (T:=ag.u8) (a:=(0:UInt8)) (m:=8) underlying24 underlying3 eR aC rfl rfl rfl rfl ai (by rw [hlz];omega) (by rw [hlz];omega) (by rw [hlz];omega)) ?_;rintro _ _ ⟨a37,wJ,rfl,rfl⟩;refine O.q 1 rfl<|O.nil (S.seq (S.seq ?_));have hlp:(128::List.replicate (kP M.length) (0:UInt8)++List.replicate 8 0).length=9+kP M.length:=by rw [List.length_append,hlz,List.length_replicate];omega
  have DZ:nO M.length=128::List.replicate (kP M.length) (0:UInt8)++List.replicate 8 0++be (8*(M.length:Int)):=rfl;rw [show (128::List.replicate (kP M.length) (0:UInt8)).length+8=9+kP M.length from by rw [hlz];omega];generalize 128::List.replicate (kP M.length) (0:UInt8)++List.replicate 8 0=E at hlp DZ ⊢;generalize kP M.length=AK at hlp xF ⊢;refine S.jr (T:=ag.u8) (e:=5) (v' :=.slice a37 (9+AK) wJ) (xs' :=E++(be (8*(M.length:Int))).take 0) ai rfl bI ?_;refine S.region rfl<|O.q 1 rfl<|O.nil<|S.block<|S.jT (ι:=Nat) (dI:=Option Addr × Nat) (fun j s=>j≤8) (fun j s=>[(6,.int .i64 ((56:Int) - ((8*j:Nat):Int))),(5,.slice s.1 (9+AK+j) s.2)]) [(3,_),(4,_)] (fun j s=>[av ag.u8 5 (.slice s.1 (9+AK+j) s.2) (E++(be (8*(M.length:Int))).take j),obj nr 278 [.int .u64 (x0.toNat:Int),.int .u64 (x1.toNat:Int),.int .u64 (cC.toNat:Int),.int .u64 (eH.toNat:Int),.int .u64 (cU.toNat:Int),.int .u64 (eN.toNat:Int),.int .u64 (eO.toNat:Int),.int .u64 (gH.toNat:Int),.slice a12 (bQ M).length jO,.int .u64 (M.length:Int),.bool true],av ag.u8 5 (.slice a12 (bQ M).length jO) (bQ M)]) (fun j s=>8 - j) (0) ((a37,wJ)) bI (.cons rfl (.cons rfl (.nil))) (.cons rfl (.cons rfl (.nil))) rfl fun j s hx ih=>?_;have hm2:=cL (g:=g);refine S.seq<|S.seq<|S.region rfl<|O.q 1 rfl<|O.op (.p rfl) (.geq rfl rfl)<|O.nil ?_
  first|refine S.cc rfl (fun CT=>?_) (fun CT=>?_)|refine S.b7 rfl (fun CT=>?_) (fun CT=>?_)
  ·have hj:j<8:=by omega
   have hlj:=GL (8*(M.length:Int)) j ah;refine S.skip<|S.seq<|S.block<|S.region rfl<|O.q 3 rfl<|O.op (.p rfl) (.shr rfl rfl ah)<|O.op (.p rfl) (.lU underlying274 underlying5 rfl)<|O.slot 46 (v' :=bD (jN (8*(M.length:Int)) (7 - j))) rfl (by exact (KZ (N:=8*M.length) ah hj).trans (by rw [show ((8*M.length:Nat):Int)=8*(M.length:Int) from by omega])) ?_;refine O.aM (.p rfl) (.ct (T:=ag.u8) (ys:=[jN (8*(M.length:Int)) (7 - j)]) underlying24 eR aC rfl rfl ⟨rfl,trivial⟩ aC) ?_;rintro _ _ ⟨wC,wM,rfl,rfl⟩;refine O.aM (.p rfl) (.gT (T:=ag.u8) underlying24 eR aC rfl rfl ai ai bJ bJ) ?_;rintro _ _ ⟨rB,rH,rfl,rfl⟩;refine O.q 1 rfl<|O.nil<|S.inBlock<|S.region rfl<|O.q 1 rfl<|O.op (.p rfl) (.sub rfl rfl (IntWalk.i64_in _ ah))<|O.slot 41 (v' :=.int .i64 ((56:Int) - ((8*(j+1):Nat):Int))) rfl (by exact congrArg (Value.int .i64) ah) ?_;refine O.q 1 rfl<|O.nil ?_;rw [List.append_assoc,GK _ j hj]
   try simp only [List.length_append,hlp,hlj,List.length_singleton]
   exact S.pw (ih (j+1) ((rB,rH)) ah ah)
  ·clear ih
   have hj:j=8:=by omega
   subst hj;rw [show (be (8*(M.length:Int))).take 8=be (8*(M.length:Int)) from rfl,← DZ];have mO:(nO M.length).length=9+AK+8:=by rw [DZ,List.length_append,hlp,yY]
   rw [← mO];refine S.c7 (b:=nr) (cs' :=jD M a12 jO) ai hc.symm ?_;refine S.exit rfl<|S.seq<|S.fo ai fun g hs hm hE=>?_;replace hg:=Fr.aH hg hs;replace hR:=bp hR hm
   try replace h:=h.mono hs
   try replace hl:=hl.mono hs
   try replace hK:=hK.mono hs
   replace aX:=dH aX hm;replace hm2:=dH hm2 hm;clear hs hm;refine S.region rfl<|O.q 2 rfl<|O.aM (.p rfl) (.ct (T:=ag.cells 1) (ys:=[[.slice s.1 (nO M.length).length s.2]]) underlying109 iC aC rfl rfl ⟨⟨rfl,rfl,by first|(simp;done)|(intro v hv;simp [Value.cells] at hv;rcases hv with rfl|rfl<;>rfl)|(refine List.forall_mem_cons.2 ⟨rfl,?_⟩;repeat (first|exact (fun _ h=>absurd h List.not_mem_nil)|refine List.forall_mem_cons.2 ⟨rfl,?_⟩))⟩,trivial⟩ aC) ?_;rintro _ _ ⟨a51,y4,rfl,rfl⟩;refine O.fo ai fun g hs hm nE=>?_;replace hg:=Fr.aH hg hs;replace hR:=bp hR hm
   try replace h:=h.mono hs
   try replace hl:=hl.mono hs
   try replace hK:=hK.mono hs
   try replace hE:=hE.mono hs
   replace aX:=dH aX hm;replace hm2:=dH hm2 hm;clear hs hm;refine O.e7 (.p rfl) rfl aa rfl rfl bf (LH (ps:=[nO M.length]) (aj.kO nE ⟨⟨_,rfl,hE⟩,trivial⟩ rfl) hK (by simp only [List.flatten_cons,List.flatten_nil,List.append_nil];omega)) ?_;rintro _ _ ⟨kD,kE,rfl,rfl⟩
   try simp only [an,aq,au]
   refine O.nil (S.seq ?_);rw [show M++[nO M.length].flatten=M++nO M.length from by simp];refine S.fo ai fun g hs hm vC=>?_;replace hg:=Fr.aH hg hs;replace hR:=bp hR hm
   try replace h:=h.mono hs
   try replace hl:=hl.mono hs
   try replace hK:=hK.mono hs
   try replace hE:=hE.mono hs
   try replace nE:=nE.mono hs
   replace aX:=dH aX hm;replace hm2:=dH hm2 hm;clear hs hm;obtain ⟨y0,y1,F3,Bm,XI,LL,LM,XJ,hy,Q2⟩:=vu (M++nO M.length) kD kE;refine S.c7 (b:=nr) (cs' :=[.int .u64 (y0.toNat:Int),.int .u64 (y1.toNat:Int),.int .u64 (F3.toNat:Int),.int .u64 (Bm.toNat:Int),.int .u64 (XI.toNat:Int),.int .u64 (LL.toNat:Int),.int .u64 (LM.toNat:Int),.int .u64 (XJ.toNat:Int),.slice kD (bQ (M++nO M.length)).length kE,.int .u64 ((M++nO M.length).length:Int),.bool true]) ai Q2 ?_;refine S.cW ai fun g hs hm xB=>?_;replace hg:=Fr.aH hg hs;replace hR:=bp hR hm
   try replace h:=h.mono hs
   try replace hl:=hl.mono hs
   try replace hK:=hK.mono hs
   try replace hE:=hE.mono hs
   try replace nE:=nE.mono hs
   try replace vC:=vC.mono hs
   replace aX:=dH aX hm;replace hm2:=dH hm2 hm;clear hs hm;have hsum:lM M=nN (feed er (M++nO M.length)):=rfl;have I3:(feed er (M++nO M.length)).length=8:=wW _ _ rfl;generalize feed er (M++nO M.length)=ws at hy I3 hsum;refine S.gh (T:=ag.u8) (e:=5) ?_;refine S.region rfl<|O.q 1 rfl<|O.nil<|S.seq<|S.seq<|S.region rfl<|O.q 1 rfl<|O.op (.p rfl) (.nilCheck rfl)<|O.op (.p rfl) (.fieldAddr CD rfl)<|O.op (.p rfl) (.bz (cs:=[_,_,_,_,_,_,_,_]) isAgg276 aa rfl (xB.take 8)) ?_;refine O.slot 56 (v' :=.agg (bR ws).toArray) rfl (by rw [hy];rfl) ?_;refine O.q 1 rfl<|O.nil<|S.block<|S.jT (ι:=Nat) (dI:=Option Addr × Nat) (fun k s=>k≤8) (fun k s=>[(57,.int .i64 (k:Int)),(7,.slice s.1 (8*k) s.2)]) [(56,_)] (fun k s=>[av ag.u8 5 (.slice s.1 (8*k) s.2) (nN (ws.take k))]) (fun k s=>8 - k) (0) ((none,0)) bI (.cons rfl (.cons rfl (.nil))) (.cons rfl (.nil)) rfl fun k s hx ih=>?_;have IE:=cL (g:=g);refine S.seq<|S.region rfl<|O.op (.p rfl) (.lss rfl rfl)<|O.nil (S.seq ?_)
   first|refine S.cc rfl (fun CZ=>?_) (fun CZ=>?_)|refine S.b7 rfl (fun CZ=>?_) (fun CZ=>?_)
   ·have hk:k<8:=by omega
    have DE:k<ws.length:=by omega
    have tI:(nN (ws.take k)).length=8*k:=by rw [E5,List.length_take];omega
    have eU:=T0 DE;refine S.skip<|S.seq<|S.block<|S.seq<|S.region rfl<|O.op (.p rfl) (.Jg (j:=k) underlying276 gu gj rfl rfl rfl ah (by rw [List.getElem?_toArray];exact qq DE)) ?_;refine O.slot 59 (v' :=qp ws[k]) rfl (by exact congrArg qp (by simp [List.getD_eq_getElem?_getD,DE])) ?_;refine O.q 1 rfl<|O.nil (S.seq ?_);generalize ws[k]=x at eU ⊢;refine S.jr (T:=ag.u8) (e:=5) (v' :=.slice s.1 (8*k+0) s.2) (xs' :=nN (ws.take k)++(oz x).take 0) ai rfl bI ?_;refine S.region rfl<|O.q 1 rfl<|O.nil<|S.block<|S.jT (ι:=Nat) (dI:=Option Addr × Nat) (fun j u=>j≤8) (fun j u=>[(10,.int .i64 ((56:Int) - ((8*j:Nat):Int))),(7,.slice u.1 (8*k+j) u.2)]) [(9,_),(56,_),(57,_)] (fun j u=>[av ag.u8 5 (.slice u.1 (8*k+j) u.2) (nN (ws.take k)++(oz x).take j)]) (fun j u=>8 - j) (0) (s) bI (.cons rfl (.cons rfl (.nil))) (.cons rfl (.cons rfl (.cons rfl (.nil)))) rfl fun j u hx ih=>?_;have Y_:=cL (g:=g);refine S.seq<|S.seq<|S.region rfl<|O.q 1 rfl<|O.op (.p rfl) (.geq rfl rfl)<|O.nil ?_
    first|refine S.cc rfl (fun tn=>?_) (fun tn=>?_)|refine S.b7 rfl (fun tn=>?_) (fun tn=>?_)
    ·have hj:j<8:=by omega
     have hlj:=GL (x.toNat:Int) j ah;have hxl:=x.toNat_lt;have htk:(nN (ws.take k)++(oz x).take j).length=8*k+j:=by rw [List.length_append,tI,oz,hlj]
     refine S.skip<|S.seq<|S.block<|S.region rfl<|O.q 3 rfl<|O.op (.p rfl) (.shr rfl rfl ah)<|O.op (.p rfl) (.lU underlying274 underlying5 rfl)<|O.slot 68 (v' :=bD (jN (x.toNat:Int) (7 - j))) rfl (by exact KZ (N:=x.toNat) ah hj) ?_;refine O.aM (.p rfl) (.ct (T:=ag.u8) (ys:=[jN (x.toNat:Int) (7 - j)]) underlying24 eR aC rfl rfl ⟨rfl,trivial⟩ aC) ?_;rintro _ _ ⟨Gs,GW,rfl,rfl⟩;refine O.aM (.p rfl) (.gT (T:=ag.u8) underlying24 eR aC rfl rfl ai ai bJ bJ) ?_;rintro _ _ ⟨a70,MQ,rfl,rfl⟩;refine O.q 1 rfl<|O.nil<|S.inBlock<|S.region rfl<|O.q 1 rfl<|O.op (.p rfl) (.sub rfl rfl (IntWalk.i64_in _ ah))<|O.slot 63 (v' :=.int .i64 ((56:Int) - ((8*(j+1):Nat):Int))) rfl (by exact congrArg (Value.int .i64) ah) ?_;refine O.q 1 rfl<|O.nil ?_;rw [List.append_assoc,show (oz x).take j++[jN (x.toNat:Int) (7 - j)]=(oz x).take (j+1) from GK _ j hj]
     try simp only [List.length_append,tI,oz,hlj,List.length_singleton]
     exact S.pw (ih (j+1) ((a70,MQ)) ah ah)
    ·clear ih
     have hj:j=8:=by omega
     subst hj;rw [show (oz x).take 8=oz x from rfl,eU];refine S.exit rfl<|S.inBlock<|S.region rfl<|O.op (.p rfl) (.add rfl rfl (IntWalk.i64_in _ ah))<|O.q 1 rfl<|O.nil ?_;exact S.pw (ih (k+1) (u) ah ah)
   ·clear ih
    have hk:k=8:=by omega
    subst hk;rw [show ws.take 8=ws from List.take_of_length_le ah,← hsum];refine S.exit rfl<|S.seq<|S.region rfl<|O.q 2 rfl<|O.nil ?_;exact S.rt results128 rfl hR ⟨s.1,s.2,rfl,rfl⟩
theorem yy {r:Fr} {va:Value} {ps:List (List UInt8)} (hp:aj (ag.slice ag.u8) r va ps) (hH:At r ⟨0,0,none⟩ (bR er)) (hK:At r ⟨1,0,none⟩ (bR gr)) (hl:ps.flatten.length≤100000000000) :
  ay prog 59 #[va] r [] (aL fun v U=>∃ a c,v=.slice a 64 c∧U=[av ag.u8 5 (.slice a 64 c) (lM ps.flatten)]):=by
 obtain ⟨a1,c1,rfl⟩:=hp.shape;refine ay.of (n:=10) _ rfl func59 rfl rfl rfl fun g hg R hR=>?_;have hp:=hp.mono hg;have hH:=hH.mono hg;have hK:=hK.mono hg;refine S.seq<|S.region rfl<|O.q 1 rfl<|O.nil<|S.seq<|S.region rfl<|O.aB (.p rfl) rfl aa rfl rfl ((Tp hH)) ?_;rintro _ _ ⟨b4,rfl,rfl⟩
 try simp only [an,aq,au]
 refine O.q 1 rfl<|O.nil<|S.seq<|S.gh (T:=ag.u8) (e:=5) ?_;refine S.region rfl<|O.q 2 rfl<|O.e7 (.p rfl) rfl aa rfl rfl bf (LH (M:=[]) (a:=none) (c:=0) hp hK (by simp only [List.length_nil];omega)) ?_;rintro _ _ ⟨a7,iB,rfl,rfl⟩
 try simp only [an,aq,au]
 refine O.nil<|S.seq<|S.cW ai fun g hs hm xB=>?_;replace hg:=Fr.aH hg hs;replace hR:=bp hR hm
 try replace hp:=hp.mono hs
 try replace hH:=hH.mono hs
 try replace hK:=hK.mono hs
 clear hs hm;refine S.fo ai fun g hs hm hlf=>?_;replace hg:=Fr.aH hg hs;replace hR:=bp hR hm
 try replace hp:=hp.mono hs
 try replace hH:=hH.mono hs
 try replace hK:=hK.mono hs
 try replace xB:=xB.mono hs
 clear hs hm;refine S.region rfl<|O.q 1 rfl<|O.aB (.p rfl) rfl aa rfl rfl ((WH xB hlf hK hl)) ?_;rintro _ _ ⟨a9,qz,rfl,rfl⟩
 try simp only [an,aq,au]
 refine O.q 1 rfl<|O.nil ?_;exact S.rt results59 rfl hR ⟨a9,qz,rfl,rfl⟩
theorem W9 {g:bk} {be bT:Nat} {x:Value} {z:Int} {eD eW:TypeId} {w:World} {R:Ending→World→Prop} {U:List az} (hw:Holds w g (obj bT eD [x]::obj be eW [.int .i64 z]::U)) (hR:∀ w,Holds w g (obj bT eD [x]::obj be eW [.int .i64 z]::U)→R (.returned (.tuple #[x,.int .i64 z])) w) :
  CallsD prog 302 #[.pointer (some ⟨be,0,none⟩),.pointer (some ⟨bT,0,none⟩)] .returning w (sQ prog g bT be 213 44 R):=by
 refine (oa (R:=fun e w=>(∃ v,e=.returned v)∧Holds w g (obj bT eD [x]::obj be eW [.int .i64 z]::U)) [.pointer (some ⟨be,0,none⟩),.pointer (some ⟨bT,0,none⟩)] rfl func302 rfl rfl rfl rfl hw ?_).mono ?_
 rotate_left
 ·rintro e u' w' ⟨rfl,⟨v,rfl⟩,h⟩
  exact ⟨⟨v,rfl⟩,rfl,eD,eW,_,_,_,_,U,h,fS.flat zo,fS.flat oc,hR w' h⟩
 refine S.seq<|S.region rfl<|O.q 1 rfl<|O.op (.p rfl) (.vK underlying20 rfl)<|O.nil<|S.aQ rfl<|S.skip<|S.ev results302 fun w hw=>?_;exact ⟨⟨_,rfl⟩,hw⟩
theorem W8 {g:bk} {be bT:Nat} {x:Value} {z z' :Int} {eD eW:TypeId} {w:World} {R:Ending→World→Prop} {U:List az} (hw:Holds w g (obj bT eD [x]::obj be eW [.int .i64 z']::U))
  (hR:∀ w,Holds w g (obj bT eD [.pointer none]::obj be eW [.int .i64 z]::U)→R (.returned (.tuple #[.pointer none,.int .i64 z])) w) :
  CallsD prog 302 #[.pointer (some ⟨be,0,none⟩),.pointer (some ⟨bT,0,none⟩)] (.panicking (o6 44 z)) w (sQ prog g bT be 213 44 R):=by
 refine (oa (R:=fun e w=>(∃ v,e=.returned v)∧Holds w g (obj bT eD [.pointer none]::obj be eW [.int .i64 z]::U)) [.pointer (some ⟨be,0,none⟩),.pointer (some ⟨bT,0,none⟩)] rfl func302 rfl rfl rfl rfl hw ?_).mono ?_
 rotate_left
 ·rintro e u' w' ⟨rfl,⟨v,rfl⟩,h⟩
  exact ⟨⟨v,rfl⟩,rfl,eD,eW,_,_,_,_,U,h,fS.flat zo,fS.flat oc,hR w' h⟩
 refine S.seq<|S.region rfl<|O.q 1 rfl<|O.op (.p rfl) (.vL underlying20 rfl)<|O.nil<|S.bx rfl<|S.seq<|S.region rfl<|O.q 1 rfl<|O.nil<|S.seq<|S.seq<|S.region rfl<|O.q 1 rfl<|O.op (.p rfl) (.uV underlying44 rfl)<|O.q 3 rfl<|O.bu rfl (.bn oc rfl rfl bq ai aW) ?_;refine O.q 1 rfl<|O.nil<|S.seq<|S.region rfl<|O.q 1 rfl<|O.op (.p rfl) (.not rfl)<|O.nil<|S.aQ rfl<|S.skip<|S.seq<|S.region rfl<|O.q 1 rfl<|O.nil<|S.region rfl<|O.q 1 rfl<|O.bu rfl (.bn zo rfl rfl bq ai aW) ?_;refine O.nil<|S.ev results302 fun w hw=>?_;exact ⟨⟨_,rfl⟩,hw.jU jx⟩
theorem W7 {r:Fr} {f:Nat} {first cap:Array Value} {K:Value→List az→Prop} {X:Int→Prop} (hc:dA prog f=true) (p7:(Value.func (.func f) first cap).oneCell' =true) (pe:∀ u ζ,K u ζ→u.oneCell' =true)
  (con:ay prog f (first++#[]++cap) r [] (eL K (fun ch U=>∃ z,ch=o6 44 z∧X z∧U=[]))) :
  ay prog 233 #[.func (.func f) first cap] r [] (aL fun v U=>(∃ u,K u U∧v=.tuple #[u,.int .i64 0])∨(∃ z,X z∧U=[]∧v=.tuple #[.pointer none,.int .i64 z])):=by
 refine ay.of (n:=7) [.func (.func f) first cap] rfl func233 rfl rfl rfl fun g hg R hR=>?_;refine S.seq<|S.region rfl<|O.aM (.p rfl) (.alloc (cs:=[.pointer none]) zeroValue213 rfl) ?_;rintro _ _ ⟨b2,rfl,rfl⟩;refine O.aM (.p rfl) (.alloc (cs:=[.int .i64 0]) zeroValue44 rfl) ?_;rintro _ _ ⟨b3,rfl,rfl⟩;refine O.nil<|S.seq<|S.region rfl<|O.op (.p rfl) (.jc rfl rfl)<|O.defer rfl rfl rfl rfl ?_;refine O.nil<|S.seq<|S.region rfl<|O.q 1 rfl<|O.B4 (.p rfl) rfl hc rfl rfl (con.sub hg) (fun a ch ax w hF hX hW=>by (obtain ⟨z,rfl,hx,rfl⟩:=hX;exact vH results233 hF rfl rfl bI aa (W8 (hW.jU jx) fun w hw=>Holds.end_ hR hw ⟨_,.inr ⟨z,hx,rfl,rfl⟩,by repeat (first|exact aS|exact aU|(apply aT;focus (repeat (first|exact aR|apply zt)))|apply aV)⟩))) ?_;rintro v6 _ rU
 try simp only [an,aq,au]
 have hone:=pe _ _ rU;refine O.perm (List.perm_append_comm) ?_;simp only [List.cons_append,List.nil_append];refine O.bu rfl (.bn zo rfl rfl bq ai aW) ?_;refine O.bu rfl (.bn oc rfl rfl bq ai aW) ?_;refine O.nil<|S.q8 fun a w hf hd hw=>?_;exact vH results233 hf rfl rfl bI aa (W9 (hw.jU jx) fun w hw=>Holds.end_ hR hw ⟨_,.inl ⟨_,rU,rfl⟩,by repeat (first|exact aS|exact aU|(apply aT;focus (repeat (first|exact aR|apply zt)))|apply aV)⟩)
theorem Wx {r:Fr} {p:Nat} {va:Value} {xs:List aP} (hp:At r ⟨p,0,none⟩ [va]) (ha:aj cq r va xs) (hl:xs.length≤100000000000) :
  ay prog 234 (#[]++#[]++#[.pointer (some ⟨p,0,none⟩)]) r [] (eL (fun v U=>fJ xs∧∃ b,v=.pointer (some ⟨b,0,none⟩)∧U=[ff r 218 220 5 b xs]) (fun ch U=>∃ z,ch=o6 44 z∧(¬ fJ xs∧z=4)∧U=[])):=by
 refine ay.of (n:=4) [.pointer (some ⟨p,0,none⟩)] rfl func234 rfl rfl rfl fun g hg R hR=>?_;have hp:=hp.mono hg;obtain ⟨a1,c1,rfl⟩:=ha.shape;refine S.seq<|S.region rfl<|O.q 1 rfl<|O.nil<|S.seq<|S.region rfl<|O.op (.p rfl) (.loadAt ew rfl hp rfl) ?_;refine O.kS (.p rfl) rfl aa rfl rfl (((KB ha hl).sub hg)) (fun ch ax w hX hW=>by (obtain ⟨hb,rfl,rfl⟩:=hX;exact hR _ _ w ⟨4,rfl,⟨hb,rfl⟩,rfl⟩ hW.qE)) ?_;rintro _ _ ⟨hright,b3,rfl,rfl⟩
 try simp only [an,aq,au]
 refine O.q 1 rfl<|O.nil ?_;exact S.rt results234 rfl hR ⟨hright,b3,rfl,rfl⟩
theorem A3 {r:Fr} {va:Value} {xs:List aP} (ha:aj cq r va xs) (hl:xs.length≤100000000000) :
  ay prog 155 #[va] r [] (aL fun v U=>v=.bool (decide (fJ xs))∧U=[]):=by
 refine ay.of (n:=12) _ rfl func155 rfl rfl rfl fun g hg R hR=>?_;have ha:=ha.mono hg;obtain ⟨a1,c1,rfl⟩:=ha.shape;refine S.seq<|S.region rfl<|O.aM (.p rfl) (.box (cs:=[_]) rfl rfl) ?_;rintro _ _ ⟨b1,rfl,rfl⟩;refine O.q 1 rfl<|O.nil<|S.seq<|S.cW ai fun g hs hm kW=>?_;replace hg:=Fr.aH hg hs;replace hR:=bp hR hm
 try replace ha:=ha.mono hs
 clear hs hm;have con:=W7 aa (first:=#[]) (cap:=#[.pointer (some ⟨b1,0,none⟩)]) rfl (fun _ _ h=>by obtain ⟨_,_,rfl,_⟩:=h;rfl) (Wx kW ha hl)
 by_cases e:fJ xs
 ·
  refine S.region rfl<|O.op (.p rfl) (.jc rfl rfl)<|O.aB (.p rfl) rfl aa rfl rfl ((con.mono (aL.imp (K' :=fun v U=>∃ b,v=.tuple #[.pointer (some ⟨b,0,none⟩),.int .i64 0]∧U=[ff g.h 218 220 5 b xs]) fun v U h=>by rcases h with ⟨_,⟨_,b,rfl,h3⟩,rfl⟩|⟨_,⟨h2,_⟩,_⟩;exact ⟨b,rfl,h3⟩;exact absurd e h2))) ?_;rintro _ _ ⟨oR,rfl,rfl⟩
  try simp only [an,aq,au]
  refine O.q 5 rfl<|O.nil<|S.seq<|S.region rfl<|O.q 1 rfl<|O.op (.p rfl) (.eql rfl rfl)<|O.q 1 rfl<|O.nil ?_;exact S.rt results155 rfl hR ⟨by simp [e],rfl⟩
 ·
  refine S.region rfl<|O.op (.p rfl) (.jc rfl rfl)<|O.aB (.p rfl) rfl aa rfl rfl ((con.mono (aL.imp (K' :=fun v U=>v=.tuple #[.pointer none,.int .i64 4]∧U=[]) fun v U h=>by rcases h with ⟨_,⟨h2,_⟩,_⟩|⟨_,⟨_,rfl⟩,rfl,rfl⟩;exact absurd h2 e;exact ⟨rfl,rfl⟩))) ?_;rintro _ _ ⟨rfl,rfl⟩
  try simp only [an,aq,au]
  refine O.q 5 rfl<|O.nil<|S.seq<|S.region rfl<|O.q 1 rfl<|O.op (.p rfl) (.eql rfl rfl)<|O.q 1 rfl<|O.nil ?_;exact S.rt results155 rfl hR ⟨by simp [e],rfl⟩
theorem qd {r:Fr} {s:List UInt8} (hl:s.length≤9223372036854775807):ay prog 88 #[.string (str s)] r [] (aL fun v U=>v=.bool (decide (mQ s))∧U=[]):=by
 refine ay.of (n:=11) _ rfl func88 rfl rfl rfl fun g hg R hR=>?_
 by_cases h1:1≤s.length
 ·by_cases h2:s.length≤64
  ·have e:decide (mQ s)=true:=decide_eq_true ⟨h1,h2⟩
   refine S.seq<|S.region rfl<|O.q 1 rfl<|O.nil<|S.seq<|S.region rfl<|O.q 1 rfl<|O.op (.p rfl) (.c6 rfl underlying9 rfl)<|O.op (.p rfl) (.geq rfl rfl)<|O.sT 5 rfl (by exact decide_eq_true b5) ?_;refine O.q 2 rfl<|O.op (.g rfl rfl) (.c6 rfl underlying9 rfl)<|O.op (.g rfl rfl) (.leq rfl rfl)<|O.sT 9 rfl (by exact decide_eq_true b5) ?_;refine O.q 2 rfl<|O.nil ?_;exact S.rt results88 rfl hR ⟨congrArg Value.bool e.symm,rfl⟩
  ·have e:decide (mQ s)=false:=decide_eq_false fun h=>h2 h.2
   refine S.seq<|S.region rfl<|O.q 1 rfl<|O.nil<|S.seq<|S.region rfl<|O.q 1 rfl<|O.op (.p rfl) (.c6 rfl underlying9 rfl)<|O.op (.p rfl) (.geq rfl rfl)<|O.sT 5 rfl (by exact decide_eq_true b5) ?_;refine O.q 2 rfl<|O.op (.g rfl rfl) (.c6 rfl underlying9 rfl)<|O.op (.g rfl rfl) (.leq rfl rfl)<|O.aN 9 rfl (by exact decide_eq_false b5) ?_;refine O.q 2 rfl<|O.nil ?_;exact S.rt results88 rfl hR ⟨congrArg Value.bool e.symm,rfl⟩
 ·have e:decide (mQ s)=false:=decide_eq_false fun h=>h1 h.1
  refine S.seq<|S.region rfl<|O.q 1 rfl<|O.nil<|S.seq<|S.region rfl<|O.q 1 rfl<|O.op (.p rfl) (.c6 rfl underlying9 rfl)<|O.op (.p rfl) (.geq rfl rfl)<|O.aN 5 rfl (by exact decide_eq_false b5) ?_;refine O.q 6 rfl<|O.nil ?_;exact S.rt results88 rfl hR ⟨congrArg Value.bool e.symm,rfl⟩
theorem si {r:Fr} {s:List UInt8} {va:Value} {xs:List aP} (ha:aj cq r va xs) (hl:xs.length≤1000000000):ay prog 89 #[.string (str s),va] r [] (aL fun v U=>v=.bool (decide (nM s xs))∧U=[]):=by
 obtain ⟨a1,c1,rfl⟩:=ha.shape;refine ay.of (n:=20) _ rfl func89 rfl rfl rfl fun g hg R hR=>?_;have ha:=ha.mono hg
 by_cases h1:fJ xs
 ·by_cases h2:0<xs.length
  ·by_cases h3:xs[0].1=s
   ·have e:decide (nM s xs)=true:=decide_eq_true ⟨h1,fun _=>h3⟩
    refine S.seq<|S.region rfl<|O.q 1 rfl<|O.nil<|S.seq<|S.region rfl<|O.q 1 rfl<|O.aB (.p rfl) rfl aa rfl rfl ((A3 ha ah)) ?_;rintro _ _ ⟨rfl,rfl⟩
    try simp only [an,aq,au]
    refine O.sT 6 rfl (by exact decide_eq_true h1) ?_;refine O.q 2 rfl<|O.op (.g rfl rfl) (.len rfl underlying22 rfl)<|O.op (.g rfl rfl) (.eql rfl rfl)<|O.aN 10 rfl (by exact decide_eq_false ah) ?_;refine O.q 2 rfl<|O.b8 (.g rfl rfl) underlying22 nQ rfl rfl (show _=(((0):Nat):Int) by omega) (by first|assumption|exact aj.mono hg zE|exact aj.left zE|exact aj.left (aj.mono hg zE)) (h:=fun Ka Ho xC xH=>?_);obtain ⟨UE,UI,UM,UR,UW,U0,rfl,PM,PN,PT,OF,OO,OS⟩:=cq.sh xH;refine O.op (.g rfl rfl) (.fieldAddr e3 rfl)<|O.op (.g rfl rfl) (.loadAt bL rfl xC rfl) ?_;refine O.q 1 rfl<|O.op (.g rfl rfl) (.kV rfl rfl)<|O.sT 17 rfl (by rw [h3];simp) ?_;refine O.q 3 rfl<|O.nil ?_;exact S.rt results89 rfl hR ⟨congrArg Value.bool e.symm,rfl⟩
   ·have e:decide (nM s xs)=false:=decide_eq_false fun h=>h3 (h.2 h2)
    refine S.seq<|S.region rfl<|O.q 1 rfl<|O.nil<|S.seq<|S.region rfl<|O.q 1 rfl<|O.aB (.p rfl) rfl aa rfl rfl ((A3 ha ah)) ?_;rintro _ _ ⟨rfl,rfl⟩
    try simp only [an,aq,au]
    refine O.sT 6 rfl (by exact decide_eq_true h1) ?_;refine O.q 2 rfl<|O.op (.g rfl rfl) (.len rfl underlying22 rfl)<|O.op (.g rfl rfl) (.eql rfl rfl)<|O.aN 10 rfl (by exact decide_eq_false ah) ?_;refine O.q 2 rfl<|O.b8 (.g rfl rfl) underlying22 nQ rfl rfl (show _=(((0):Nat):Int) by omega) (by first|assumption|exact aj.mono hg zE|exact aj.left zE|exact aj.left (aj.mono hg zE)) (h:=fun Ka Ho xC xH=>?_);obtain ⟨UE,UI,UM,UR,UW,U0,rfl,PM,PN,PT,OF,OO,OS⟩:=cq.sh xH;refine O.op (.g rfl rfl) (.fieldAddr e3 rfl)<|O.op (.g rfl rfl) (.loadAt bL rfl xC rfl) ?_;refine O.q 1 rfl<|O.op (.g rfl rfl) (.kV rfl rfl)<|O.aN 17 rfl (by exact decide_eq_false (fun q=>h3 (nR q))) ?_;refine O.q 3 rfl<|O.nil ?_;exact S.rt results89 rfl hR ⟨congrArg Value.bool e.symm,rfl⟩
  ·have e:decide (nM s xs)=true:=decide_eq_true ⟨h1,fun h=>absurd h h2⟩
   refine S.seq<|S.region rfl<|O.q 1 rfl<|O.nil<|S.seq<|S.region rfl<|O.q 1 rfl<|O.aB (.p rfl) rfl aa rfl rfl ((A3 ha ah)) ?_;rintro _ _ ⟨rfl,rfl⟩
   try simp only [an,aq,au]
   refine O.sT 6 rfl (by exact decide_eq_true h1) ?_;refine O.q 2 rfl<|O.op (.g rfl rfl) (.len rfl underlying22 rfl)<|O.op (.g rfl rfl) (.eql rfl rfl)<|O.sT 10 rfl (by exact decide_eq_true ah) ?_;refine O.q 10 rfl<|O.nil ?_;exact S.rt results89 rfl hR ⟨congrArg Value.bool e.symm,rfl⟩
 ·have e:decide (nM s xs)=false:=decide_eq_false fun h=>h1 h.1
  refine S.seq<|S.region rfl<|O.q 1 rfl<|O.nil<|S.seq<|S.region rfl<|O.q 1 rfl<|O.aB (.p rfl) rfl aa rfl rfl ((A3 ha ah)) ?_;rintro _ _ ⟨rfl,rfl⟩
  try simp only [an,aq,au]
  refine O.aN 6 rfl (by exact decide_eq_false h1) ?_;refine O.q 14 rfl<|O.nil ?_;exact S.rt results89 rfl hR ⟨congrArg Value.bool e.symm,rfl⟩
theorem V8 {l:List aP} (h:fJ l):ij l=lM (5::kQ l)∧mX l=kQ l∧sy l=0:=⟨by unfold ij;rw [if_pos h],by unfold mX;rw [if_pos h],by unfold sy;rw [if_pos h]⟩
theorem V7 {l:List aP} (h:¬ fJ l):ij l=[]∧mX l=[]∧sy l=4:=⟨by unfold ij;rw [if_neg h],by unfold mX;rw [if_neg h],by unfold sy;rw [if_neg h]⟩
theorem Wb {r:Fr} {va:Value} {xs:List aP} (ha:aj cq r va xs) (hH:At r ⟨0,0,none⟩ (bR er)) (hK:At r ⟨1,0,none⟩ (bR gr)) (hl:xs.length≤10000000) :
  ay prog 20 #[va] r [] (aL fun v U=>∃ a c,v=.slice a (ij xs).length c∧U=[av ag.u8 5 (.slice a (ij xs).length c) (ij xs)]):=by
 obtain ⟨a1,c1,rfl⟩:=ha.shape;refine ay.of (n:=16) _ rfl func20 rfl rfl rfl fun g hg R hR=>?_;have ha:=ha.mono hg;have hH:=hH.mono hg;have hK:=hK.mono hg
 by_cases h1:fJ xs
 ·obtain ⟨e1,e2,bY⟩:=V8 h1
  have fI:=KH h1.1;refine S.seq<|S.region rfl<|O.q 1 rfl<|O.nil<|S.seq<|S.region rfl<|O.q 1 rfl<|O.aB (.p rfl) rfl aa rfl rfl ((KM ha ah)) ?_;rintro _ _ ⟨a7,iB,rfl,rfl⟩
  try simp only [an,aq,au]
  rw [e2,bY];refine O.q 5 rfl<|O.nil<|S.seq<|S.seq<|S.fo ai fun g hs hm hb=>?_;replace hg:=Fr.aH hg hs;replace hR:=bp hR hm
  try replace ha:=ha.mono hs
  try replace hH:=hH.mono hs
  try replace hK:=hK.mono hs
  clear hs hm;refine S.region rfl<|O.q 1 rfl<|O.op (.p rfl) (.neq rfl rfl)<|O.aN 11 rfl aK ?_;refine O.nil<|S.aQ rfl<|S.skip<|S.seq<|S.region rfl<|O.aM (.p rfl) (.ct (T:=ag.u8) (ys:=[5]) underlying24 eR aC rfl rfl ⟨rfl,trivial⟩ aC) ?_;rintro _ _ ⟨a12,jO,rfl,rfl⟩;refine O.fo ai fun g hs hm Df=>?_;replace hg:=Fr.aH hg hs;replace hR:=bp hR hm
  try replace ha:=ha.mono hs
  try replace hH:=hH.mono hs
  try replace hK:=hK.mono hs
  try replace hb:=hb.mono hs
  clear hs hm;refine O.q 1 rfl<|O.aM (.p rfl) (.ct (T:=ag.cells 1) (ys:=[[.slice a12 1 jO],[.slice a7 (kQ xs).length iB]]) underlying109 iC aC rfl rfl ⟨⟨rfl,rfl,by first|(simp;done)|(intro v hv;simp [Value.cells] at hv;rcases hv with rfl|rfl<;>rfl)|(refine List.forall_mem_cons.2 ⟨rfl,?_⟩;repeat (first|exact (fun _ h=>absurd h List.not_mem_nil)|refine List.forall_mem_cons.2 ⟨rfl,?_⟩))⟩,⟨rfl,rfl,by first|(simp;done)|(intro v hv;simp [Value.cells] at hv;rcases hv with rfl|rfl<;>rfl)|(refine List.forall_mem_cons.2 ⟨rfl,?_⟩;repeat (first|exact (fun _ h=>absurd h List.not_mem_nil)|refine List.forall_mem_cons.2 ⟨rfl,?_⟩))⟩,trivial⟩ aC) ?_;rintro _ _ ⟨nV,n4,rfl,rfl⟩;refine O.fo ai fun g hs hm l5=>?_;replace hg:=Fr.aH hg hs;replace hR:=bp hR hm
  try replace ha:=ha.mono hs
  try replace hH:=hH.mono hs
  try replace hK:=hK.mono hs
  try replace hb:=hb.mono hs
  try replace Df:=Df.mono hs
  clear hs hm;refine O.aB (.p rfl) rfl aa rfl rfl ((yy (ps:=[[5],kQ xs]) (aj.kO l5 ⟨⟨_,rfl,Df⟩,⟨_,rfl,hb⟩,trivial⟩ rfl) hH hK b5)) ?_;rintro _ _ ⟨wB,wI,rfl,rfl⟩
  try simp only [an,aq,au]
  refine O.q 1 rfl<|O.nil ?_;have fm:lM [[5],kQ xs].flatten=ij xs:=by rw [e1];simp
  have nv:=Wa h1;refine S.jr (T:=ag.u8) (e:=5) (v' :=.slice wB (ij xs).length wI) (xs' :=ij xs) ai (by rw [nv]) fm ?_;exact S.rt results20 rfl hR ⟨wB,wI,by rw [nv],rfl⟩
 ·obtain ⟨e1,e2,bY⟩:=V7 h1
  refine S.seq<|S.region rfl<|O.q 1 rfl<|O.nil<|S.seq<|S.region rfl<|O.q 1 rfl<|O.aB (.p rfl) rfl aa rfl rfl ((KM ha ah)) ?_;rintro _ _ ⟨a7,iB,rfl,rfl⟩
  try simp only [an,aq,au]
  rw [e2,bY];refine O.q 5 rfl<|O.nil<|S.seq<|S.seq<|S.region rfl<|O.q 1 rfl<|O.op (.p rfl) (.neq rfl rfl)<|O.sT 11 rfl aK ?_;refine O.nil<|S.bx rfl<|S.seq<|S.region rfl<|O.q 1 rfl<|O.nil<|S.gh (T:=ag.u8) (e:=5) ?_;refine S.jr (T:=ag.u8) (e:=5) (v' :=.slice none (ij xs).length 0) (xs' :=ij xs) ai (by rw [e1];rfl) e1.symm ?_;exact S.rt results20 rfl hR ⟨none,0,by rw [e1];rfl,rfl⟩
end Go.Proofs.YtojafegjlahajaaGreatDoor
