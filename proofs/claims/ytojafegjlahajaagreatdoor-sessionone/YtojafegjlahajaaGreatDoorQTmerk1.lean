/- Texts of this proof. -/
import Derived.Test.YtojafegjlahajaaGreatDoorQSha3
import Derived.Test.YtojafegjlahajaaGreatDoorQSpZero
open Go Go.Sp Go.Proofs.Tryz
set_option maxRecDepth 100000
set_option maxHeartbeats 1000000
attribute [local irreducible] obj Own av
namespace Go.Proofs.YtojafegjlahajaaGreatDoor
theorem NW:jj [] none 0=bQ ed++[.slice none 0 0,.int .u64 0,.bool true]:=by
 rw [jj,show feed ed []=ed from rfl];rfl
theorem RW {r:Fr} (hH:At r ⟨0,0,none⟩ (bQ ed)):ay prog 126 #[] r [] (aM fun v U=>∃ b,v=.pointer (some ⟨b,0,none⟩)∧U=[obj b 278 (jj [] none 0)]):=by
 refine ay.of (n:=4) _ rfl func126 rfl rfl rfl fun g hg R hR=>?_;have hH:=hH.mono hg;refine S.seq<|S.region rfl<|O.q 1 rfl<|O.nil<|S.seq<|S.region rfl<|O.op (.p rfl) (.bI isAgg276 aa rfl hH) ?_;refine O.op (.p rfl) (.build (cs:=[_,_,_,_,_,_,_,_,_,_,_]) underlying278 rfl rfl rfl rfl rfl)<|O.aO (.p rfl) (.box (cs:=[_,_,_,_,_,_,_,_,_,_,_]) rfl rfl) ?_;rintro _ _ ⟨b3,rfl,rfl⟩;refine O.q 1 rfl<|O.nil<|S.c7 (b:=b3) (cs' :=jj [] none 0) ai (by rw [NW];rfl) ?_;exact S.rt results126 rfl hR ⟨b3,rfl,rfl⟩
theorem Mo {r:Fr} {b:Nat} {M:List UInt8} {a:Option Addr} {c:Nat} (h:At r ⟨b,0,none⟩ (jj M a c)) (hl:aj ag.u8 r (.slice a (bS M).length c) (bS M)) :
  ay prog 212 #[.pointer (some ⟨b,0,none⟩)] r [] (aM fun v U=>∃ b' a' c',v=.pointer (some ⟨b',0,none⟩)∧U=[obj b' 278 (jj M a' c'),av ag.u8 5 (.slice a' (bS M).length c') (bS M)]):=by
 obtain ⟨x0,x1,cD,eF,cT,eR,eS,gA,hx,hc⟩:=uS M a c;have hrl:(bS M).length<128:=by rw [Ao];omega
 have h0:=h;rw [hc] at h;refine ay.of (n:=16) _ rfl func212 rfl rfl rfl fun g hg R hR=>?_;have h:=h.mono hg;have h0:=h0.mono hg;have hl:=hl.mono hg;refine S.seq<|S.region rfl<|O.q 1 rfl<|O.nil<|S.seq<|S.seq<|S.region rfl<|O.q 1 rfl<|O.aC (.p rfl) rfl aa rfl rfl ((KA h0)) ?_;rintro _ _ ⟨rfl,rfl⟩
 try simp only [an,aq,au]
 refine O.sT 5 rfl aG ?_;refine O.op (.p rfl) (.not rfl)<|O.nil<|S.aP rfl<|S.skip<|S.seq<|S.region rfl<|O.q 1 rfl<|O.op (.p rfl) (.nilCheck rfl)<|O.op (.p rfl) (.bI isAgg278 aa rfl h) ?_;refine O.aO (.p rfl) (.alloc (cs:=[.int .u64 0,.int .u64 0,.int .u64 0,.int .u64 0,.int .u64 0,.int .u64 0,.int .u64 0,.int .u64 0,.slice none 0 0,.int .u64 0,.bool false]) zeroValue278 rfl) ?_;rintro _ _ ⟨b3,rfl,rfl⟩;refine O.bw rfl (.cZ aa rfl rfl rfl rfl ai aT) ?_;refine O.nil<|S.seq<|S.region rfl<|O.q 1 rfl<|O.op (.p rfl) (.nilCheck rfl)<|O.op (.p rfl) (.fieldAddr ni rfl)<|O.op (.p rfl) (.loadAt bg rfl (h.drop 8) rfl) ?_;refine O.aC (.p rfl) rfl aa rfl rfl ((er hl ah)) ?_;rintro _ _ ⟨nI,nM,rfl,rfl⟩
 try simp only [an,aq,au]
 refine O.op (.p rfl) (.aF ni rfl)<|O.bw rfl (.bk bg rfl rfl bn ai aT) ?_;refine O.nil<|S.seq<|S.region rfl<|O.q 1 rfl<|O.nil<|S.c7 (b:=b3) (cs' :=jj M nI nM) ai (by rw [jj,hx];rfl) ?_;exact S.rt results212 rfl hR ⟨b3,nI,nM,rfl,rfl⟩
theorem F4 (n:Int) (j:Nat) (h:j<8):(be n).take j++[jx n (7 - j)]=(be n).take (j+1):=by
 match j,h with
 |0,_|1,_|2,_|3,_|4,_|5,_|6,_|7,_=>rfl
theorem F5 (n:Int) (j:Nat) (h:j≤8):((be n).take j).length=j:=by rw [List.length_take,yq];omega
theorem Kg {N:Nat} (hN:N<18446744073709551616) {j:Nat} (hj:j<8):Value.int .u8 (IntKind.u8.wrap ((N:Int).fdiv (2 ^ min ((56:Int) - ((8*j:Nat):Int)).toNat IntKind.u64.bits)))=bH (jx (N:Int) (7 - j)):=by
 have:=Kh (N:Int) (7 - j) ah ((56:Int) - ((8*j:Nat):Int)) ah;rw [qU hN] at this;rw [this];rfl
theorem SH (z:Nat):(128:UInt8)::List.replicate z 0++[0]=128::List.replicate (z+1) 0:=by
 rw [List.cons_append,← List.replicate_succ']
theorem Sz {ws:List bZ} {k:Nat} (h:k<ws.length):nA (ws.take k)++od ws[k]=nA (ws.take (k+1)):=by
 rw [List.take_succ_eq_append_getElem h];unfold nA;rw [List.map_append,List.flatten_append];simp
theorem UX {r:Fr} {b:Nat} {M:List UInt8} {a:Option Addr} {c:Nat} (h:At r ⟨b,0,none⟩ (jj M a c)) (hl:aj ag.u8 r (.slice a (bS M).length c) (bS M)) (hK:At r ⟨1,0,none⟩ (bQ fZ)) (hm:M.length≤100000000000) :
  ay prog 128 #[.pointer (some ⟨b,0,none⟩)] r [] (aM fun v U=>∃ a' c',v=.slice a' 64 c' ∧U=[av ag.u8 5 (.slice a' 64 c') (gY M)]):=by
 obtain ⟨x0,x1,cD,eF,cT,eR,eS,gA,hx,hc0⟩:=uS M a c;clear hx hc0 x0 x1 cD eF cT eR eS gA;have hrm:(bS M).length=M.length % 128:=Ao M;have wZ:kC M.length<128:=by unfold kC;omega
 refine ay.of (n:=73) _ rfl func128 rfl rfl rfl fun g hg R hR=>?_;have h:=h.mono hg;have hl:=hl.mono hg;have hK:=hK.mono hg;refine S.seq<|S.region rfl<|O.q 1 rfl<|O.nil<|S.seq<|S.region rfl<|O.q 1 rfl<|O.aC (.p rfl) rfl aa rfl rfl ((Mo h hl)) ?_;rintro _ _ ⟨mV,a12,jy,rfl,rfl⟩
 try simp only [an,aq,au]
 refine O.q 1 rfl<|O.nil<|S.seq<|S.seq<|S.region rfl<|O.q 1 rfl<|O.op (.p rfl) (.rq underlying192 rfl rfl)<|O.aL 14 rfl aG ?_;refine O.nil<|S.aP rfl<|S.skip (S.seq ?_);obtain ⟨x0,x1,cD,eF,cT,eR,eS,gA,hx,hc⟩:=uS M a12 jy;refine S.c7 (b:=mV) (cs' :=[.int .u64 (x0.toNat:Int),.int .u64 (x1.toNat:Int),.int .u64 (cD.toNat:Int),.int .u64 (eF.toNat:Int),.int .u64 (cT.toNat:Int),.int .u64 (eR.toNat:Int),.int .u64 (eS.toNat:Int),.int .u64 (gA.toNat:Int),.slice a12 (bS M).length jy,.int .u64 (M.length:Int),.bool true]) ai hc ?_;refine S.region rfl<|O.q 1 rfl<|O.op (.p rfl) (.nilCheck rfl)<|O.op (.p rfl) (.aF Cd rfl)<|O.op (.p rfl) (.lo gj) ?_;refine O.op (.p rfl) (.RO rfl rfl)<|O.slot 19 (v' :=.int .u64 ((8*M.length:Nat):Int)) rfl (by exact congrArg _ (by rw [show (8:Int)*(M.length:Int)=((8*M.length:Nat):Int) from by omega,qU ah])) ?_;refine O.q 1 rfl<|O.nil<|S.seq<|S.region rfl<|O.aO (.p rfl) (.IZ (T:=ag.u8) (c:=256) underlying24 eM rfl rfl rfl rfl zE zE) ?_;rintro _ _ ⟨a20,yw,rfl,rfl⟩;refine O.aO (.p rfl) (.cn (T:=ag.u8) (ys:=[128]) underlying24 eM zE rfl rfl ⟨rfl,trivial⟩ zE) ?_;rintro _ _ ⟨a21,Bs,rfl,rfl⟩;refine O.aO (.p rfl) (.gJ (T:=ag.u8) underlying24 eM zE rfl rfl ai ai bL bL) ?_;rintro _ _ ⟨a22,dZ,rfl,rfl⟩
 refine O.q 1 rfl<|O.nil<|S.seq<|S.block<|S.jG (ι:=Nat) (dB:=Option Addr × Nat) (fun z s=>z≤kC M.length) (fun z s=>[(5,.slice s.1 (1+z) s.2)]) [(3,_),(4,_)] (fun z s=>[av ag.u8 5 (.slice s.1 (1+z) s.2) (128::List.replicate z 0),obj mV 278 [.int .u64 (x0.toNat:Int),.int .u64 (x1.toNat:Int),.int .u64 (cD.toNat:Int),.int .u64 (eF.toNat:Int),.int .u64 (cT.toNat:Int),.int .u64 (eR.toNat:Int),.int .u64 (eS.toNat:Int),.int .u64 (gA.toNat:Int),.slice a12 (bS M).length jy,.int .u64 (M.length:Int),.bool true],av ag.u8 5 (.slice a12 (bS M).length jy) (bS M)]) (fun z s=>kC M.length - z) (0) ((a22,dZ)) bq (.cons rfl (.nil)) (.cons rfl (.cons rfl (.nil))) rfl fun z s hx ih=>?_;have bl:=cW (g:=g);refine S.seq<|S.seq<|S.region rfl<|O.q 1 rfl<|O.op (.p rfl) (.nilCheck rfl)<|O.op (.p rfl) (.aF ni rfl)<|O.op (.p rfl) (.lo bg) ?_;refine O.op (.p rfl) (.len rfl underlying24 rfl)<|O.q 1 rfl<|O.op (.p rfl) (.len rfl underlying24 rfl)<|O.op (.p rfl) (.add rfl rfl (IntWalk.i64_in _ ah))<|O.op (.p rfl) (.rem rfl rfl ah)<|O.slot 31 (v' :=.int .i64 (((M.length % 128+(1+z)) % 128:Nat):Int)) rfl (by exact congrArg (Value.int .i64) (by rw [hrm,Int.tmod_eq_emod_of_nonneg ah];omega)) ?_;refine O.op (.p rfl) (.neq rfl rfl)<|O.nil ?_
 first|refine S.ct rfl (fun sS=>?_) (fun sS=>?_)|refine S.cm rfl (fun sS=>?_) (fun sS=>?_)
 ·have hz:z<kC M.length:=by unfold kC at *;omega
  refine S.skip<|S.block<|S.region rfl<|O.q 1 rfl<|O.aO (.p rfl) (.cn (T:=ag.u8) (ys:=[0]) underlying24 eM zE rfl rfl ⟨rfl,trivial⟩ zE) ?_;rintro _ _ ⟨uq,ux,rfl,rfl⟩;refine O.aO (.p rfl) (.gJ (T:=ag.u8) underlying24 eM zE rfl rfl ai ai bL bL) ?_;rintro _ _ ⟨a35,Bw,rfl,rfl⟩;refine O.q 1 rfl<|O.nil (S.inBlock ?_);rw [SH];have hlz:(128::List.replicate z (0:UInt8)).length=1+z:=by rw [List.length_cons,List.length_replicate];omega
  simp only [hlz,List.length_singleton];exact S.pw (ih (z+1) ((a35,Bw)) ah ah)
 ·clear ih
  have hz:z=kC M.length:=by unfold kC at *;omega
  subst hz;have hlz:(128::List.replicate (kC M.length) (0:UInt8)).length=1+kC M.length:=by rw [List.length_cons,List.length_replicate];omega
  refine S.exit rfl<|S.seq<|S.region rfl<|O.q 1 rfl<|O.aO (.p rfl) (.Li (T:=ag.u8) (a:=(0:UInt8)) (m:=8) underlying24 underlying3 eM zE rfl rfl rfl rfl ai (by rw [hlz];omega) (by rw [hlz];omega) (by rw [hlz];omega)) ?_;rintro _ _ ⟨a37,vV,rfl,rfl⟩;refine O.q 1 rfl<|O.nil (S.seq (S.seq ?_));have hlp:(128::List.replicate (kC M.length) (0:UInt8)++List.replicate 8 0).length=9+kC M.length:=by rw [List.length_append,hlz,List.length_replicate];omega
  have Dl:nB M.length=128::List.replicate (kC M.length) (0:UInt8)++List.replicate 8 0++be (8*(M.length:Int)):=rfl;rw [show (128::List.replicate (kC M.length) (0:UInt8)).length+8=9+kC M.length from by rw [hlz];omega];generalize 128::List.replicate (kC M.length) (0:UInt8)++List.replicate 8 0=E at hlp Dl ⊢;generalize kC M.length=Ad at hlp wZ ⊢;refine S.jm (T:=ag.u8) (e:=5) (v' :=.slice a37 (9+Ad) vV) (xs' :=E++(be (8*(M.length:Int))).take 0) ai rfl bq ?_;refine S.region rfl<|O.q 1 rfl<|O.nil<|S.block<|S.jG (ι:=Nat) (dB:=Option Addr × Nat) (fun j s=>j≤8) (fun j s=>[(6,.int .i64 ((56:Int) - ((8*j:Nat):Int))),(5,.slice s.1 (9+Ad+j) s.2)]) [(3,_),(4,_)] (fun j s=>[av ag.u8 5 (.slice s.1 (9+Ad+j) s.2) (E++(be (8*(M.length:Int))).take j),obj mV 278 [.int .u64 (x0.toNat:Int),.int .u64 (x1.toNat:Int),.int .u64 (cD.toNat:Int),.int .u64 (eF.toNat:Int),.int .u64 (cT.toNat:Int),.int .u64 (eR.toNat:Int),.int .u64 (eS.toNat:Int),.int .u64 (gA.toNat:Int),.slice a12 (bS M).length jy,.int .u64 (M.length:Int),.bool true],av ag.u8 5 (.slice a12 (bS M).length jy) (bS M)]) (fun j s=>8 - j) (0) ((a37,vV)) bq (.cons rfl (.cons rfl (.nil))) (.cons rfl (.cons rfl (.nil))) rfl fun j s hx ih=>?_;have hm2:=cW (g:=g);refine S.seq<|S.seq<|S.region rfl<|O.q 1 rfl<|O.op (.p rfl) (.geq rfl rfl)<|O.nil ?_
  first|refine S.ct rfl (fun rD=>?_) (fun rD=>?_)|refine S.cm rfl (fun rD=>?_) (fun rD=>?_)
  ·have hj:j<8:=by omega
   have hlj:=F5 (8*(M.length:Int)) j ah;refine S.skip<|S.seq<|S.block<|S.region rfl<|O.q 3 rfl<|O.op (.p rfl) (.shr rfl rfl ah)<|O.op (.p rfl) (.lD underlying274 underlying5 rfl)<|O.slot 46 (v' :=bH (jx (8*(M.length:Int)) (7 - j))) rfl (by exact (Kg (N:=8*M.length) ah hj).trans (by rw [show ((8*M.length:Nat):Int)=8*(M.length:Int) from by omega])) ?_;refine O.aO (.p rfl) (.cn (T:=ag.u8) (ys:=[jx (8*(M.length:Int)) (7 - j)]) underlying24 eM zE rfl rfl ⟨rfl,trivial⟩ zE) ?_;rintro _ _ ⟨vP,vX,rfl,rfl⟩;refine O.aO (.p rfl) (.gJ (T:=ag.u8) underlying24 eM zE rfl rfl ai ai bL bL) ?_;rintro _ _ ⟨q6,ri,rfl,rfl⟩;refine O.q 1 rfl<|O.nil<|S.inBlock<|S.region rfl<|O.q 1 rfl<|O.op (.p rfl) (.sub rfl rfl (IntWalk.i64_in _ ah))<|O.slot 41 (v' :=.int .i64 ((56:Int) - ((8*(j+1):Nat):Int))) rfl (by exact congrArg (Value.int .i64) ah) ?_;refine O.q 1 rfl<|O.nil ?_;rw [List.append_assoc,F4 _ j hj]
   try simp only [List.length_append,hlp,hlj,List.length_singleton]
   exact S.pw (ih (j+1) ((q6,ri)) ah ah)
  ·clear ih
   have hj:j=8:=by omega
   subst hj;rw [show (be (8*(M.length:Int))).take 8=be (8*(M.length:Int)) from rfl,← Dl];have mz:(nB M.length).length=9+Ad+8:=by rw [Dl,List.length_append,hlp,yq]
   rw [← mz];refine S.c7 (b:=mV) (cs' :=jj M a12 jy) ai hc.symm ?_;refine S.exit rfl<|S.seq<|S.fB ai fun g hs hm hE=>?_;replace hg:=Fr.aI hg hs;replace hR:=bt hR hm
   try replace h:=h.mono hs
   try replace hl:=hl.mono hs
   try replace hK:=hK.mono hs
   replace bl:=eD bl hm;replace hm2:=eD hm2 hm;clear hs hm;refine S.region rfl<|O.q 2 rfl<|O.aO (.p rfl) (.cn (T:=ag.cells 1) (ys:=[[.slice s.1 (nB M.length).length s.2]]) underlying109 gr zE rfl rfl ⟨⟨rfl,rfl,by first|(simp;done)|(intro v hv;simp [Value.cells] at hv;rcases hv with rfl|rfl<;>rfl)|(refine List.forall_mem_cons.2 ⟨rfl,?_⟩;repeat (first|exact (fun _ h=>absurd h List.not_mem_nil)|refine List.forall_mem_cons.2 ⟨rfl,?_⟩))⟩,trivial⟩ zE) ?_;rintro _ _ ⟨a51,yy,rfl,rfl⟩;refine O.fB ai fun g hs hm nq=>?_;replace hg:=Fr.aI hg hs;replace hR:=bt hR hm
   try replace h:=h.mono hs
   try replace hl:=hl.mono hs
   try replace hK:=hK.mono hs
   try replace hE:=hE.mono hs
   replace bl:=eD bl hm;replace hm2:=eD hm2 hm;clear hs hm;refine O.eL (.p rfl) rfl aa rfl rfl aV (KW (ps:=[nB M.length]) (aj.j4 nq ⟨⟨_,rfl,hE⟩,trivial⟩ rfl) hK (by simp only [List.flatten_cons,List.flatten_nil,List.append_nil];omega)) ?_;rintro _ _ ⟨kg,ki,rfl,rfl⟩
   try simp only [an,aq,au]
   refine O.nil (S.seq ?_);rw [show M++[nB M.length].flatten=M++nB M.length from by simp];refine S.fB ai fun g hs hm u0=>?_;replace hg:=Fr.aI hg hs;replace hR:=bt hR hm
   try replace h:=h.mono hs
   try replace hl:=hl.mono hs
   try replace hK:=hK.mono hs
   try replace hE:=hE.mono hs
   try replace nq:=nq.mono hs
   replace bl:=eD bl hm;replace hm2:=eD hm2 hm;clear hs hm;obtain ⟨y0,y1,Fe,Ff,VV,VW,VX,VY,hy,PA⟩:=uS (M++nB M.length) kg ki;refine S.c7 (b:=mV) (cs' :=[.int .u64 (y0.toNat:Int),.int .u64 (y1.toNat:Int),.int .u64 (Fe.toNat:Int),.int .u64 (Ff.toNat:Int),.int .u64 (VV.toNat:Int),.int .u64 (VW.toNat:Int),.int .u64 (VX.toNat:Int),.int .u64 (VY.toNat:Int),.slice kg (bS (M++nB M.length)).length ki,.int .u64 ((M++nB M.length).length:Int),.bool true]) ai PA ?_;refine S.cV ai fun g hs hm wU=>?_;replace hg:=Fr.aI hg hs;replace hR:=bt hR hm
   try replace h:=h.mono hs
   try replace hl:=hl.mono hs
   try replace hK:=hK.mono hs
   try replace hE:=hE.mono hs
   try replace nq:=nq.mono hs
   try replace u0:=u0.mono hs
   replace bl:=eD bl hm;replace hm2:=eD hm2 hm;clear hs hm;have hsum:gY M=nA (feed ed (M++nB M.length)):=rfl;have Ii:(feed ed (M++nB M.length)).length=8:=wk _ _ rfl;generalize feed ed (M++nB M.length)=ws at hy Ii hsum;refine S.gd (T:=ag.u8) (e:=5) ?_;refine S.region rfl<|O.q 1 rfl<|O.nil<|S.seq<|S.seq<|S.region rfl<|O.q 1 rfl<|O.op (.p rfl) (.nilCheck rfl)<|O.op (.p rfl) (.fieldAddr Cc rfl)<|O.op (.p rfl) (.bI (cs:=[_,_,_,_,_,_,_,_]) isAgg276 aa rfl (wU.take 8)) ?_;refine O.slot 56 (v' :=.agg (bQ ws).toArray) rfl (by rw [hy];rfl) ?_;refine O.q 1 rfl<|O.nil<|S.block<|S.jG (ι:=Nat) (dB:=Option Addr × Nat) (fun k s=>k≤8) (fun k s=>[(57,.int .i64 (k:Int)),(7,.slice s.1 (8*k) s.2)]) [(56,_)] (fun k s=>[av ag.u8 5 (.slice s.1 (8*k) s.2) (nA (ws.take k))]) (fun k s=>8 - k) (0) ((none,0)) bq (.cons rfl (.cons rfl (.nil))) (.cons rfl (.nil)) rfl fun k s hx ih=>?_;have HR:=cW (g:=g);refine S.seq<|S.region rfl<|O.op (.p rfl) (.lss rfl rfl)<|O.nil (S.seq ?_)
   first|refine S.ct rfl (fun Ct=>?_) (fun Ct=>?_)|refine S.cm rfl (fun Ct=>?_) (fun Ct=>?_)
   ·have hk:k<8:=by omega
    have C5:k<ws.length:=by omega
    have s9:(nA (ws.take k)).length=8*k:=by rw [El,List.length_take];omega
    have eO:=Sz C5;refine S.skip<|S.seq<|S.block<|S.seq<|S.region rfl<|O.op (.p rfl) (.Iv (j:=k) underlying276 gp gj rfl rfl rfl ah (by rw [List.getElem?_toArray];exact p0 C5)) ?_;refine O.slot 59 (v' :=pZ ws[k]) rfl (by exact congrArg pZ (by simp [List.getD_eq_getElem?_getD,C5])) ?_;refine O.q 1 rfl<|O.nil (S.seq ?_);generalize ws[k]=x at eO ⊢;refine S.jm (T:=ag.u8) (e:=5) (v' :=.slice s.1 (8*k+0) s.2) (xs' :=nA (ws.take k)++(od x).take 0) ai rfl bq ?_;refine S.region rfl<|O.q 1 rfl<|O.nil<|S.block<|S.jG (ι:=Nat) (dB:=Option Addr × Nat) (fun j u=>j≤8) (fun j u=>[(10,.int .i64 ((56:Int) - ((8*j:Nat):Int))),(7,.slice u.1 (8*k+j) u.2)]) [(9,_),(56,_),(57,_)] (fun j u=>[av ag.u8 5 (.slice u.1 (8*k+j) u.2) (nA (ws.take k)++(od x).take j)]) (fun j u=>8 - j) (0) (s) bq (.cons rfl (.cons rfl (.nil))) (.cons rfl (.cons rfl (.cons rfl (.nil)))) rfl fun j u hx ih=>?_;have Xl:=cW (g:=g);refine S.seq<|S.seq<|S.region rfl<|O.q 1 rfl<|O.op (.p rfl) (.geq rfl rfl)<|O.nil ?_
    first|refine S.ct rfl (fun nT=>?_) (fun nT=>?_)|refine S.cm rfl (fun nT=>?_) (fun nT=>?_)
    ·have hj:j<8:=by omega
     have hlj:=F5 (x.toNat:Int) j ah;have hxl:=x.toNat_lt;have htk:(nA (ws.take k)++(od x).take j).length=8*k+j:=by rw [List.length_append,s9,od,hlj]
     refine S.skip<|S.seq<|S.block<|S.region rfl<|O.q 3 rfl<|O.op (.p rfl) (.shr rfl rfl ah)<|O.op (.p rfl) (.lD underlying274 underlying5 rfl)<|O.slot 68 (v' :=bH (jx (x.toNat:Int) (7 - j))) rfl (by exact Kg (N:=x.toNat) ah hj) ?_;refine O.aO (.p rfl) (.cn (T:=ag.u8) (ys:=[jx (x.toNat:Int) (7 - j)]) underlying24 eM zE rfl rfl ⟨rfl,trivial⟩ zE) ?_;rintro _ _ ⟨FJ,Gg,rfl,rfl⟩;refine O.aO (.p rfl) (.gJ (T:=ag.u8) underlying24 eM zE rfl rfl ai ai bL bL) ?_;rintro _ _ ⟨a70,LY,rfl,rfl⟩;refine O.q 1 rfl<|O.nil<|S.inBlock<|S.region rfl<|O.q 1 rfl<|O.op (.p rfl) (.sub rfl rfl (IntWalk.i64_in _ ah))<|O.slot 63 (v' :=.int .i64 ((56:Int) - ((8*(j+1):Nat):Int))) rfl (by exact congrArg (Value.int .i64) ah) ?_;refine O.q 1 rfl<|O.nil ?_;rw [List.append_assoc,show (od x).take j++[jx (x.toNat:Int) (7 - j)]=(od x).take (j+1) from F4 _ j hj]
     try simp only [List.length_append,s9,od,hlj,List.length_singleton]
     exact S.pw (ih (j+1) ((a70,LY)) ah ah)
    ·clear ih
     have hj:j=8:=by omega
     subst hj;rw [show (od x).take 8=od x from rfl,eO];refine S.exit rfl<|S.inBlock<|S.region rfl<|O.op (.p rfl) (.add rfl rfl (IntWalk.i64_in _ ah))<|O.q 1 rfl<|O.nil ?_;exact S.pw (ih (k+1) (u) ah ah)
   ·clear ih
    have hk:k=8:=by omega
    subst hk;rw [show ws.take 8=ws from List.take_of_length_le ah,← hsum];refine S.exit rfl<|S.seq<|S.region rfl<|O.q 2 rfl<|O.nil ?_;exact S.rt results128 rfl hR ⟨s.1,s.2,rfl,rfl⟩
theorem r_ {r:Fr} {va:Value} {ps:List (List UInt8)} (hp:aj (ag.slice ag.u8) r va ps) (hH:At r ⟨0,0,none⟩ (bQ ed)) (hK:At r ⟨1,0,none⟩ (bQ fZ)) (hl:ps.flatten.length≤100000000000) :
  ay prog 59 #[va] r [] (aM fun v U=>∃ a c,v=.slice a 64 c∧U=[av ag.u8 5 (.slice a 64 c) (gY ps.flatten)]):=by
 obtain ⟨a1,c1,rfl⟩:=hp.shape;refine ay.of (n:=10) _ rfl func59 rfl rfl rfl fun g hg R hR=>?_;have hp:=hp.mono hg;have hH:=hH.mono hg;have hK:=hK.mono hg;refine S.seq<|S.region rfl<|O.q 1 rfl<|O.nil<|S.seq<|S.region rfl<|O.aC (.p rfl) rfl aa rfl rfl ((RW hH)) ?_;rintro _ _ ⟨b4,rfl,rfl⟩
 try simp only [an,aq,au]
 refine O.q 1 rfl<|O.nil<|S.seq<|S.gd (T:=ag.u8) (e:=5) ?_;refine S.region rfl<|O.q 2 rfl<|O.eL (.p rfl) rfl aa rfl rfl aV (KW (M:=[]) (a:=none) (c:=0) hp hK (by simp only [List.length_nil];omega)) ?_;rintro _ _ ⟨a7,ia,rfl,rfl⟩
 try simp only [an,aq,au]
 refine O.nil<|S.seq<|S.cV ai fun g hs hm wU=>?_;replace hg:=Fr.aI hg hs;replace hR:=bt hR hm
 try replace hp:=hp.mono hs
 try replace hH:=hH.mono hs
 try replace hK:=hK.mono hs
 clear hs hm;refine S.fB ai fun g hs hm hlf=>?_;replace hg:=Fr.aI hg hs;replace hR:=bt hR hm
 try replace hp:=hp.mono hs
 try replace hH:=hH.mono hs
 try replace hK:=hK.mono hs
 try replace wU:=wU.mono hs
 clear hs hm;refine S.region rfl<|O.q 1 rfl<|O.aC (.p rfl) rfl aa rfl rfl ((UX wU hlf hK hl)) ?_;rintro _ _ ⟨a9,qc,rfl,rfl⟩
 try simp only [an,aq,au]
 refine O.q 1 rfl<|O.nil ?_;exact S.rt results59 rfl hR ⟨a9,qc,rfl,rfl⟩
theorem Vk {g:bh} {be bU:Nat} {x:Value} {z:Int} {en eU:TypeId} {w:World} {R:Ending→World→Prop} {U:List az} (hw:Holds w g (obj bU en [x]::obj be eU [.int .i64 z]::U)) (hR:∀ w,Holds w g (obj bU en [x]::obj be eU [.int .i64 z]::U)→R (.returned (.tuple #[x,.int .i64 z])) w) :
  CallsD prog 302 #[.pointer (some ⟨be,0,none⟩),.pointer (some ⟨bU,0,none⟩)] .returning w (sx prog g bU be 213 44 R):=by
 refine (nO (R:=fun e w=>(∃ v,e=.returned v)∧Holds w g (obj bU en [x]::obj be eU [.int .i64 z]::U)) [.pointer (some ⟨be,0,none⟩),.pointer (some ⟨bU,0,none⟩)] rfl func302 rfl rfl rfl rfl hw ?_).mono ?_
 rotate_left
 ·rintro e u' w' ⟨rfl,⟨v,rfl⟩,h⟩
  exact ⟨⟨v,rfl⟩,rfl,en,eU,_,_,_,_,U,h,fM.flat yR,fM.flat nR,hR w' h⟩
 refine S.seq<|S.region rfl<|O.q 1 rfl<|O.op (.p rfl) (.u9 underlying20 rfl)<|O.nil<|S.aP rfl<|S.skip<|S.ej results302 fun w hw=>?_;exact ⟨⟨_,rfl⟩,hw⟩
theorem Vj {g:bh} {be bU:Nat} {x:Value} {z z' :Int} {en eU:TypeId} {w:World} {R:Ending→World→Prop} {U:List az} (hw:Holds w g (obj bU en [x]::obj be eU [.int .i64 z']::U))
  (hR:∀ w,Holds w g (obj bU en [.pointer none]::obj be eU [.int .i64 z]::U)→R (.returned (.tuple #[.pointer none,.int .i64 z])) w) :
  CallsD prog 302 #[.pointer (some ⟨be,0,none⟩),.pointer (some ⟨bU,0,none⟩)] (.panicking (oE 44 z)) w (sx prog g bU be 213 44 R):=by
 refine (nO (R:=fun e w=>(∃ v,e=.returned v)∧Holds w g (obj bU en [.pointer none]::obj be eU [.int .i64 z]::U)) [.pointer (some ⟨be,0,none⟩),.pointer (some ⟨bU,0,none⟩)] rfl func302 rfl rfl rfl rfl hw ?_).mono ?_
 rotate_left
 ·rintro e u' w' ⟨rfl,⟨v,rfl⟩,h⟩
  exact ⟨⟨v,rfl⟩,rfl,en,eU,_,_,_,_,U,h,fM.flat yR,fM.flat nR,hR w' h⟩
 refine S.seq<|S.region rfl<|O.q 1 rfl<|O.op (.p rfl) (.u_ underlying20 rfl)<|O.nil<|S.bC rfl<|S.seq<|S.region rfl<|O.q 1 rfl<|O.nil<|S.seq<|S.seq<|S.region rfl<|O.q 1 rfl<|O.op (.p rfl) (.uv underlying44 rfl)<|O.q 3 rfl<|O.bw rfl (.bk nR rfl rfl bn ai aT) ?_;refine O.q 1 rfl<|O.nil<|S.seq<|S.region rfl<|O.q 1 rfl<|O.op (.p rfl) (.not rfl)<|O.nil<|S.aP rfl<|S.skip<|S.seq<|S.region rfl<|O.q 1 rfl<|O.nil<|S.region rfl<|O.q 1 rfl<|O.bw rfl (.bk yR rfl rfl bn ai aT) ?_;refine O.nil<|S.ej results302 fun w hw=>?_;exact ⟨⟨_,rfl⟩,hw.jH jM⟩
theorem Vi {r:Fr} {f:Nat} {first cap:Array Value} {K:Value→List az→Prop} {X:Int→Prop} (hc:dr prog f=true) (pL:(Value.func (.func f) first cap).oneCell' =true) (oK:∀ u ζ,K u ζ→u.oneCell' =true)
  (con:ay prog f (first++#[]++cap) r [] (ey K (fun ch U=>∃ z,ch=oE 44 z∧X z∧U=[]))) :
  ay prog 233 #[.func (.func f) first cap] r [] (aM fun v U=>(∃ u,K u U∧v=.tuple #[u,.int .i64 0])∨(∃ z,X z∧U=[]∧v=.tuple #[.pointer none,.int .i64 z])):=by
 refine ay.of (n:=7) [.func (.func f) first cap] rfl func233 rfl rfl rfl fun g hg R hR=>?_;refine S.seq<|S.region rfl<|O.aO (.p rfl) (.alloc (cs:=[.pointer none]) zeroValue213 rfl) ?_;rintro _ _ ⟨b2,rfl,rfl⟩;refine O.aO (.p rfl) (.alloc (cs:=[.int .i64 0]) zeroValue44 rfl) ?_;rintro _ _ ⟨b3,rfl,rfl⟩;refine O.nil<|S.seq<|S.region rfl<|O.op (.p rfl) (.iS rfl rfl)<|O.defer rfl rfl rfl rfl ?_;refine O.nil<|S.seq<|S.region rfl<|O.q 1 rfl<|O.BD (.p rfl) rfl hc rfl rfl (con.sub hg) (fun a ch ax w hF hX hW=>by (obtain ⟨z,rfl,hx,rfl⟩:=hX;exact u5 results233 hF rfl rfl bq aa (Vj (hW.jH jM) fun w hw=>Holds.end_ hR hw ⟨_,.inr ⟨z,hx,rfl,rfl⟩,by repeat (first|exact aW|exact aY|(apply aX;focus (repeat (first|exact aU|apply zt)))|apply aZ)⟩))) ?_;rintro v6 _ rH
 try simp only [an,aq,au]
 have hone:=oK _ _ rH;refine O.perm (List.perm_append_comm) ?_;simp only [List.cons_append,List.nil_append];refine O.bw rfl (.bk yR rfl rfl bn ai aT) ?_;refine O.bw rfl (.bk nR rfl rfl bn ai aT) ?_;refine O.nil<|S.qM fun a w hf hd hw=>?_;exact u5 results233 hf rfl rfl bq aa (Vk (hw.jH jM) fun w hw=>Holds.end_ hR hw ⟨_,.inl ⟨_,rH,rfl⟩,by repeat (first|exact aW|exact aY|(apply aX;focus (repeat (first|exact aU|apply zt)))|apply aZ)⟩)
theorem UN {r:Fr} {p:Nat} {va:Value} {xs:List aQ} (hp:At r ⟨p,0,none⟩ [va]) (ha:aj dc r va xs) (hl:xs.length≤100000000000) :
  ay prog 234 (#[]++#[]++#[.pointer (some ⟨p,0,none⟩)]) r [] (ey (fun v U=>fG xs∧∃ b,v=.pointer (some ⟨b,0,none⟩)∧U=[e_ r 218 220 5 b xs]) (fun ch U=>∃ z,ch=oE 44 z∧(¬ fG xs∧z=4)∧U=[])):=by
 refine ay.of (n:=4) [.pointer (some ⟨p,0,none⟩)] rfl func234 rfl rfl rfl fun g hg R hR=>?_;have hp:=hp.mono hg;obtain ⟨a1,c1,rfl⟩:=ha.shape;refine S.seq<|S.region rfl<|O.q 1 rfl<|O.nil<|S.seq<|S.region rfl<|O.op (.p rfl) (.loadAt eN rfl hp rfl) ?_;refine O.kH (.p rfl) rfl aa rfl rfl (((JV ha hl).sub hg)) (fun ch ax w hX hW=>by (obtain ⟨hb,rfl,rfl⟩:=hX;exact hR _ _ w ⟨4,rfl,⟨hb,rfl⟩,rfl⟩ hW.qi)) ?_;rintro _ _ ⟨hright,b3,rfl,rfl⟩
 try simp only [an,aq,au]
 refine O.q 1 rfl<|O.nil ?_;exact S.rt results234 rfl hR ⟨hright,b3,rfl,rfl⟩
theorem Aw {r:Fr} {va:Value} {xs:List aQ} (ha:aj dc r va xs) (hl:xs.length≤100000000000) :
  ay prog 155 #[va] r [] (aM fun v U=>v=.bool (decide (fG xs))∧U=[]):=by
 refine ay.of (n:=12) _ rfl func155 rfl rfl rfl fun g hg R hR=>?_;have ha:=ha.mono hg;obtain ⟨a1,c1,rfl⟩:=ha.shape;refine S.seq<|S.region rfl<|O.aO (.p rfl) (.box (cs:=[_]) rfl rfl) ?_;rintro _ _ ⟨b1,rfl,rfl⟩;refine O.q 1 rfl<|O.nil<|S.seq<|S.cV ai fun g hs hm kL=>?_;replace hg:=Fr.aI hg hs;replace hR:=bt hR hm
 try replace ha:=ha.mono hs
 clear hs hm;have con:=Vi aa (first:=#[]) (cap:=#[.pointer (some ⟨b1,0,none⟩)]) rfl (fun _ _ h=>by obtain ⟨_,_,rfl,_⟩:=h;rfl) (UN kL ha hl)
 by_cases e:fG xs
 ·
  refine S.region rfl<|O.op (.p rfl) (.iS rfl rfl)<|O.aC (.p rfl) rfl aa rfl rfl ((con.mono (aM.imp (K' :=fun v U=>∃ b,v=.tuple #[.pointer (some ⟨b,0,none⟩),.int .i64 0]∧U=[e_ g.h 218 220 5 b xs]) fun v U h=>by rcases h with ⟨_,⟨_,b,rfl,h3⟩,rfl⟩|⟨_,⟨h2,_⟩,_⟩;exact ⟨b,rfl,h3⟩;exact absurd e h2))) ?_;rintro _ _ ⟨mW,rfl,rfl⟩
  try simp only [an,aq,au]
  refine O.q 5 rfl<|O.nil<|S.seq<|S.region rfl<|O.q 1 rfl<|O.op (.p rfl) (.eql rfl rfl)<|O.q 1 rfl<|O.nil ?_;exact S.rt results155 rfl hR ⟨by simp [e],rfl⟩
 ·
  refine S.region rfl<|O.op (.p rfl) (.iS rfl rfl)<|O.aC (.p rfl) rfl aa rfl rfl ((con.mono (aM.imp (K' :=fun v U=>v=.tuple #[.pointer none,.int .i64 4]∧U=[]) fun v U h=>by rcases h with ⟨_,⟨h2,_⟩,_⟩|⟨_,⟨_,rfl⟩,rfl,rfl⟩;exact absurd h2 e;exact ⟨rfl,rfl⟩))) ?_;rintro _ _ ⟨rfl,rfl⟩
  try simp only [an,aq,au]
  refine O.q 5 rfl<|O.nil<|S.seq<|S.region rfl<|O.q 1 rfl<|O.op (.p rfl) (.eql rfl rfl)<|O.q 1 rfl<|O.nil ?_;exact S.rt results155 rfl hR ⟨by simp [e],rfl⟩
theorem pS {r:Fr} {s:List UInt8} (hl:s.length≤9223372036854775807):ay prog 88 #[.string (str s)] r [] (aM fun v U=>v=.bool (decide (mC s))∧U=[]):=by
 refine ay.of (n:=11) _ rfl func88 rfl rfl rfl fun g hg R hR=>?_
 by_cases h1:1≤s.length
 ·by_cases h2:s.length≤64
  ·have e:decide (mC s)=true:=decide_eq_true ⟨h1,h2⟩
   refine S.seq<|S.region rfl<|O.q 1 rfl<|O.nil<|S.seq<|S.region rfl<|O.q 1 rfl<|O.op (.p rfl) (.c6 rfl underlying9 rfl)<|O.op (.p rfl) (.geq rfl rfl)<|O.sT 5 rfl (by exact decide_eq_true bX) ?_;refine O.q 2 rfl<|O.op (.g rfl rfl) (.c6 rfl underlying9 rfl)<|O.op (.g rfl rfl) (.leq rfl rfl)<|O.sT 9 rfl (by exact decide_eq_true bX) ?_;refine O.q 2 rfl<|O.nil ?_;exact S.rt results88 rfl hR ⟨congrArg Value.bool e.symm,rfl⟩
  ·have e:decide (mC s)=false:=decide_eq_false fun h=>h2 h.2
   refine S.seq<|S.region rfl<|O.q 1 rfl<|O.nil<|S.seq<|S.region rfl<|O.q 1 rfl<|O.op (.p rfl) (.c6 rfl underlying9 rfl)<|O.op (.p rfl) (.geq rfl rfl)<|O.sT 5 rfl (by exact decide_eq_true bX) ?_;refine O.q 2 rfl<|O.op (.g rfl rfl) (.c6 rfl underlying9 rfl)<|O.op (.g rfl rfl) (.leq rfl rfl)<|O.aL 9 rfl (by exact decide_eq_false bX) ?_;refine O.q 2 rfl<|O.nil ?_;exact S.rt results88 rfl hR ⟨congrArg Value.bool e.symm,rfl⟩
 ·have e:decide (mC s)=false:=decide_eq_false fun h=>h1 h.1
  refine S.seq<|S.region rfl<|O.q 1 rfl<|O.nil<|S.seq<|S.region rfl<|O.q 1 rfl<|O.op (.p rfl) (.c6 rfl underlying9 rfl)<|O.op (.p rfl) (.geq rfl rfl)<|O.aL 5 rfl (by exact decide_eq_false bX) ?_;refine O.q 6 rfl<|O.nil ?_;exact S.rt results88 rfl hR ⟨congrArg Value.bool e.symm,rfl⟩
theorem rW {r:Fr} {s:List UInt8} {va:Value} {xs:List aQ} (ha:aj dc r va xs) (hl:xs.length≤1000000000):ay prog 89 #[.string (str s),va] r [] (aM fun v U=>v=.bool (decide (ny s xs))∧U=[]):=by
 obtain ⟨a1,c1,rfl⟩:=ha.shape;refine ay.of (n:=20) _ rfl func89 rfl rfl rfl fun g hg R hR=>?_;have ha:=ha.mono hg
 by_cases h1:fG xs
 ·by_cases h2:0<xs.length
  ·by_cases h3:xs[0].1=s
   ·have e:decide (ny s xs)=true:=decide_eq_true ⟨h1,fun _=>h3⟩
    refine S.seq<|S.region rfl<|O.q 1 rfl<|O.nil<|S.seq<|S.region rfl<|O.q 1 rfl<|O.aC (.p rfl) rfl aa rfl rfl ((Aw ha ah)) ?_;rintro _ _ ⟨rfl,rfl⟩
    try simp only [an,aq,au]
    refine O.sT 6 rfl (by exact decide_eq_true h1) ?_;refine O.q 2 rfl<|O.op (.g rfl rfl) (.len rfl underlying22 rfl)<|O.op (.g rfl rfl) (.eql rfl rfl)<|O.aL 10 rfl (by exact decide_eq_false ah) ?_;refine O.q 2 rfl<|O.b_ (.g rfl rfl) underlying22 x4 rfl rfl (show _=(((0):Nat):Int) by omega) (by first|assumption|exact aj.mono hg aB|exact aj.left aB|exact aj.left (aj.mono hg aB)) (h:=fun Jt GF wV w6=>?_);obtain ⟨Tf,Tg,Th,Tj,Tk,Tl,rfl,Ox,Oz,OA,NF,NL,NM⟩:=dc.sh w6;refine O.op (.g rfl rfl) (.fieldAddr fw rfl)<|O.op (.g rfl rfl) (.loadAt bV rfl wV rfl) ?_;refine O.q 1 rfl<|O.op (.g rfl rfl) (.lE rfl rfl)<|O.sT 17 rfl (by rw [h3];simp) ?_;refine O.q 3 rfl<|O.nil ?_;exact S.rt results89 rfl hR ⟨congrArg Value.bool e.symm,rfl⟩
   ·have e:decide (ny s xs)=false:=decide_eq_false fun h=>h3 (h.2 h2)
    refine S.seq<|S.region rfl<|O.q 1 rfl<|O.nil<|S.seq<|S.region rfl<|O.q 1 rfl<|O.aC (.p rfl) rfl aa rfl rfl ((Aw ha ah)) ?_;rintro _ _ ⟨rfl,rfl⟩
    try simp only [an,aq,au]
    refine O.sT 6 rfl (by exact decide_eq_true h1) ?_;refine O.q 2 rfl<|O.op (.g rfl rfl) (.len rfl underlying22 rfl)<|O.op (.g rfl rfl) (.eql rfl rfl)<|O.aL 10 rfl (by exact decide_eq_false ah) ?_;refine O.q 2 rfl<|O.b_ (.g rfl rfl) underlying22 x4 rfl rfl (show _=(((0):Nat):Int) by omega) (by first|assumption|exact aj.mono hg aB|exact aj.left aB|exact aj.left (aj.mono hg aB)) (h:=fun Jt GF wV w6=>?_);obtain ⟨Tf,Tg,Th,Tj,Tk,Tl,rfl,Ox,Oz,OA,NF,NL,NM⟩:=dc.sh w6;refine O.op (.g rfl rfl) (.fieldAddr fw rfl)<|O.op (.g rfl rfl) (.loadAt bV rfl wV rfl) ?_;refine O.q 1 rfl<|O.op (.g rfl rfl) (.lE rfl rfl)<|O.aL 17 rfl (by exact decide_eq_false (fun q=>h3 (AD q))) ?_;refine O.q 3 rfl<|O.nil ?_;exact S.rt results89 rfl hR ⟨congrArg Value.bool e.symm,rfl⟩
  ·have e:decide (ny s xs)=true:=decide_eq_true ⟨h1,fun h=>absurd h h2⟩
   refine S.seq<|S.region rfl<|O.q 1 rfl<|O.nil<|S.seq<|S.region rfl<|O.q 1 rfl<|O.aC (.p rfl) rfl aa rfl rfl ((Aw ha ah)) ?_;rintro _ _ ⟨rfl,rfl⟩
   try simp only [an,aq,au]
   refine O.sT 6 rfl (by exact decide_eq_true h1) ?_;refine O.q 2 rfl<|O.op (.g rfl rfl) (.len rfl underlying22 rfl)<|O.op (.g rfl rfl) (.eql rfl rfl)<|O.sT 10 rfl (by exact decide_eq_true ah) ?_;refine O.q 10 rfl<|O.nil ?_;exact S.rt results89 rfl hR ⟨congrArg Value.bool e.symm,rfl⟩
 ·have e:decide (ny s xs)=false:=decide_eq_false fun h=>h1 h.1
  refine S.seq<|S.region rfl<|O.q 1 rfl<|O.nil<|S.seq<|S.region rfl<|O.q 1 rfl<|O.aC (.p rfl) rfl aa rfl rfl ((Aw ha ah)) ?_;rintro _ _ ⟨rfl,rfl⟩
  try simp only [an,aq,au]
  refine O.aL 6 rfl (by exact decide_eq_false h1) ?_;refine O.q 14 rfl<|O.nil ?_;exact S.rt results89 rfl hR ⟨congrArg Value.bool e.symm,rfl⟩
theorem Un {l:List aQ} (h:fG l):gX l=gY (5::kE l)∧mJ l=kE l∧r8 l=0:=⟨by unfold gX;rw [if_pos h],by unfold mJ;rw [if_pos h],by unfold r8;rw [if_pos h]⟩
theorem Um {l:List aQ} (h:¬ fG l):gX l=[]∧mJ l=[]∧r8 l=4:=⟨by unfold gX;rw [if_neg h],by unfold mJ;rw [if_neg h],by unfold r8;rw [if_neg h]⟩
theorem Ur {r:Fr} {va:Value} {xs:List aQ} (ha:aj dc r va xs) (hH:At r ⟨0,0,none⟩ (bQ ed)) (hK:At r ⟨1,0,none⟩ (bQ fZ)) (hl:xs.length≤10000000) :
  ay prog 20 #[va] r [] (aM fun v U=>∃ a c,v=.slice a (gX xs).length c∧U=[av ag.u8 5 (.slice a (gX xs).length c) (gX xs)]):=by
 obtain ⟨a1,c1,rfl⟩:=ha.shape;refine ay.of (n:=16) _ rfl func20 rfl rfl rfl fun g hg R hR=>?_;have ha:=ha.mono hg;have hH:=hH.mono hg;have hK:=hK.mono hg
 by_cases h1:fG xs
 ·obtain ⟨e1,e2,b6⟩:=Un h1
  have fD:=J2 h1.1;refine S.seq<|S.region rfl<|O.q 1 rfl<|O.nil<|S.seq<|S.region rfl<|O.q 1 rfl<|O.aC (.p rfl) rfl aa rfl rfl ((J7 ha ah)) ?_;rintro _ _ ⟨a7,ia,rfl,rfl⟩
  try simp only [an,aq,au]
  rw [e2,b6];refine O.q 5 rfl<|O.nil<|S.seq<|S.seq<|S.fB ai fun g hs hm hb=>?_;replace hg:=Fr.aI hg hs;replace hR:=bt hR hm
  try replace ha:=ha.mono hs
  try replace hH:=hH.mono hs
  try replace hK:=hK.mono hs
  clear hs hm;refine S.region rfl<|O.q 1 rfl<|O.op (.p rfl) (.neq rfl rfl)<|O.aL 11 rfl aG ?_;refine O.nil<|S.aP rfl<|S.skip<|S.seq<|S.region rfl<|O.aO (.p rfl) (.cn (T:=ag.u8) (ys:=[5]) underlying24 eM zE rfl rfl ⟨rfl,trivial⟩ zE) ?_;rintro _ _ ⟨a12,jy,rfl,rfl⟩;refine O.fB ai fun g hs hm CH=>?_;replace hg:=Fr.aI hg hs;replace hR:=bt hR hm
  try replace ha:=ha.mono hs
  try replace hH:=hH.mono hs
  try replace hK:=hK.mono hs
  try replace hb:=hb.mono hs
  clear hs hm;refine O.q 1 rfl<|O.aO (.p rfl) (.cn (T:=ag.cells 1) (ys:=[[.slice a12 1 jy],[.slice a7 (kE xs).length ia]]) underlying109 gr zE rfl rfl ⟨⟨rfl,rfl,by first|(simp;done)|(intro v hv;simp [Value.cells] at hv;rcases hv with rfl|rfl<;>rfl)|(refine List.forall_mem_cons.2 ⟨rfl,?_⟩;repeat (first|exact (fun _ h=>absurd h List.not_mem_nil)|refine List.forall_mem_cons.2 ⟨rfl,?_⟩))⟩,⟨rfl,rfl,by first|(simp;done)|(intro v hv;simp [Value.cells] at hv;rcases hv with rfl|rfl<;>rfl)|(refine List.forall_mem_cons.2 ⟨rfl,?_⟩;repeat (first|exact (fun _ h=>absurd h List.not_mem_nil)|refine List.forall_mem_cons.2 ⟨rfl,?_⟩))⟩,trivial⟩ zE) ?_;rintro _ _ ⟨nI,nM,rfl,rfl⟩;refine O.fB ai fun g hs hm lG=>?_;replace hg:=Fr.aI hg hs;replace hR:=bt hR hm
  try replace ha:=ha.mono hs
  try replace hH:=hH.mono hs
  try replace hK:=hK.mono hs
  try replace hb:=hb.mono hs
  try replace CH:=CH.mono hs
  clear hs hm;refine O.aC (.p rfl) rfl aa rfl rfl ((r_ (ps:=[[5],kE xs]) (aj.j4 lG ⟨⟨_,rfl,CH⟩,⟨_,rfl,hb⟩,trivial⟩ rfl) hH hK bX)) ?_;rintro _ _ ⟨vO,vU,rfl,rfl⟩
  try simp only [an,aq,au]
  refine O.q 1 rfl<|O.nil ?_;have ff:gY [[5],kE xs].flatten=gX xs:=by rw [e1];simp
  have mZ:=Uq h1;refine S.jm (T:=ag.u8) (e:=5) (v' :=.slice vO (gX xs).length vU) (xs' :=gX xs) ai (by rw [mZ]) ff ?_;exact S.rt results20 rfl hR ⟨vO,vU,by rw [mZ],rfl⟩
 ·obtain ⟨e1,e2,b6⟩:=Um h1
  refine S.seq<|S.region rfl<|O.q 1 rfl<|O.nil<|S.seq<|S.region rfl<|O.q 1 rfl<|O.aC (.p rfl) rfl aa rfl rfl ((J7 ha ah)) ?_;rintro _ _ ⟨a7,ia,rfl,rfl⟩
  try simp only [an,aq,au]
  rw [e2,b6];refine O.q 5 rfl<|O.nil<|S.seq<|S.seq<|S.region rfl<|O.q 1 rfl<|O.op (.p rfl) (.neq rfl rfl)<|O.sT 11 rfl aG ?_;refine O.nil<|S.bC rfl<|S.seq<|S.region rfl<|O.q 1 rfl<|O.nil<|S.gd (T:=ag.u8) (e:=5) ?_;refine S.jm (T:=ag.u8) (e:=5) (v' :=.slice none (gX xs).length 0) (xs' :=gX xs) ai (by rw [e1];rfl) e1.symm ?_;exact S.rt results20 rfl hR ⟨none,0,by rw [e1];rfl,rfl⟩
end Go.Proofs.YtojafegjlahajaaGreatDoor
