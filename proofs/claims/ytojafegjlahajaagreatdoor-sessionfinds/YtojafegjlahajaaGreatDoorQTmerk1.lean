/- Texts of this proof. -/
import Derived.Test.YtojafegjlahajaaGreatDoorQSha3
import Derived.Test.YtojafegjlahajaaGreatDoorQSpZero
open Go Go.Sp Go.Proofs.Tryz
set_option maxRecDepth 100000
set_option maxHeartbeats 1000000
attribute [local irreducible] obj Own av
namespace Go.Proofs.YtojafegjlahajaaGreatDoor
theorem Pz:jv [] none 0=bW ev++[.slice none 0 0,.int .u64 0,.bool true]:=by
 rw [jv,show feed ev []=ev from rfl];rfl
theorem TW {r:Fr} (hH:At r ⟨0,0,none⟩ (bW ev)):ay prog 126 #[] r [] (aL fun v U=>∃ b,v=.pointer (some ⟨b,0,none⟩)∧U=[obj b 278 (jv [] none 0)]):=by
 refine ay.of (n:=4) _ rfl func126 rfl rfl rfl fun g hg R hR=>?_;have hH:=hH.mono hg;refine S.seq<|S.region rfl<|O.q 1 rfl<|O.nil<|S.seq<|S.region rfl<|O.op (.p rfl) (.bE isAgg276 aa rfl hH) ?_;refine O.op (.p rfl) (.build (cs:=[_,_,_,_,_,_,_,_,_,_,_]) underlying278 rfl rfl rfl rfl rfl)<|O.aN (.p rfl) (.box (cs:=[_,_,_,_,_,_,_,_,_,_,_]) rfl rfl) ?_;rintro _ _ ⟨b3,rfl,rfl⟩;refine O.q 1 rfl<|O.nil<|S.dx (b:=b3) (cs' :=jv [] none 0) ai (by rw [Pz];rfl) ?_;exact S.rt results126 rfl hR ⟨b3,rfl,rfl⟩
theorem NG {r:Fr} {b:Nat} {M:List UInt8} {a:Option Addr} {c:Nat} (h:At r ⟨b,0,none⟩ (jv M a c)) (hl:aj ag.u8 r (.slice a (bV M).length c) (bV M)) :
  ay prog 212 #[.pointer (some ⟨b,0,none⟩)] r [] (aL fun v U=>∃ b' a' c',v=.pointer (some ⟨b',0,none⟩)∧U=[obj b' 278 (jv M a' c'),av ag.u8 5 (.slice a' (bV M).length c') (bV M)]):=by
 obtain ⟨x0,x1,cI,ew,cZ,eC,eD,gD,hx,hc⟩:=vw M a c;have hrl:(bV M).length<128:=by rw [A4];omega
 have h0:=h;rw [hc] at h;refine ay.of (n:=16) _ rfl func212 rfl rfl rfl fun g hg R hR=>?_;have h:=h.mono hg;have h0:=h0.mono hg;have hl:=hl.mono hg;refine S.seq<|S.region rfl<|O.q 1 rfl<|O.nil<|S.seq<|S.seq<|S.region rfl<|O.q 1 rfl<|O.aC (.p rfl) rfl aa rfl rfl ((LQ h0)) ?_;rintro _ _ ⟨rfl,rfl⟩
 try simp only [an,aq,au]
 refine O.sT 5 rfl aK ?_;refine O.op (.p rfl) (.not rfl)<|O.nil<|S.aQ rfl<|S.skip<|S.seq<|S.region rfl<|O.q 1 rfl<|O.op (.p rfl) (.nilCheck rfl)<|O.op (.p rfl) (.bE isAgg278 aa rfl h) ?_;refine O.aN (.p rfl) (.alloc (cs:=[.int .u64 0,.int .u64 0,.int .u64 0,.int .u64 0,.int .u64 0,.int .u64 0,.int .u64 0,.int .u64 0,.slice none 0 0,.int .u64 0,.bool false]) zeroValue278 rfl) ?_;rintro _ _ ⟨b3,rfl,rfl⟩;refine O.bB rfl (.c9 aa rfl rfl rfl rfl ai aX) ?_;refine O.nil<|S.seq<|S.region rfl<|O.q 1 rfl<|O.op (.p rfl) (.nilCheck rfl)<|O.op (.p rfl) (.fieldAddr nB rfl)<|O.op (.p rfl) (.loadAt bl rfl (h.drop 8) rfl) ?_;refine O.aC (.p rfl) rfl aa rfl rfl ((eG hl ah)) ?_;rintro _ _ ⟨nY,oa,rfl,rfl⟩
 try simp only [an,aq,au]
 refine O.op (.p rfl) (.aH nB rfl)<|O.bB rfl (.bp bl rfl rfl bt ai aX) ?_;refine O.nil<|S.seq<|S.region rfl<|O.q 1 rfl<|O.nil<|S.dx (b:=b3) (cs' :=jv M nY oa) ai (by rw [jv,hx];rfl) ?_;exact S.rt results212 rfl hR ⟨b3,nY,oa,rfl,rfl⟩
theorem G9 (n:Int) (j:Nat) (h:j<8):(be n).take j++[jH n (7 - j)]=(be n).take (j+1):=by
 match j,h with
 |0,_|1,_|2,_|3,_|4,_|5,_|6,_|7,_=>rfl
theorem G_ (n:Int) (j:Nat) (h:j≤8):((be n).take j).length=j:=by rw [List.length_take,y5];omega
theorem Lv {N:Nat} (hN:N<18446744073709551616) {j:Nat} (hj:j<8):Value.int .u8 (IntKind.u8.wrap ((N:Int).fdiv (2 ^ min ((56:Int) - ((8*j:Nat):Int)).toNat IntKind.u64.bits)))=bK (jH (N:Int) (7 - j)):=by
 have:=Lw (N:Int) (7 - j) ah ((56:Int) - ((8*j:Nat):Int)) ah;rw [rz hN] at this;rw [this];rfl
theorem UN (z:Nat):(128:UInt8)::List.replicate z 0++[0]=128::List.replicate (z+1) 0:=by
 rw [List.cons_append,← List.replicate_succ']
theorem Uy {ws:List b6} {k:Nat} (h:k<ws.length):nR (ws.take k)++oC ws[k]=nR (ws.take (k+1)):=by
 rw [List.take_succ_eq_append_getElem h];unfold nR;rw [List.map_append,List.flatten_append];simp
theorem Xm {r:Fr} {b:Nat} {M:List UInt8} {a:Option Addr} {c:Nat} (h:At r ⟨b,0,none⟩ (jv M a c)) (hl:aj ag.u8 r (.slice a (bV M).length c) (bV M)) (hK:At r ⟨1,0,none⟩ (bW gq)) (hm:M.length≤100000000000) :
  ay prog 128 #[.pointer (some ⟨b,0,none⟩)] r [] (aL fun v U=>∃ a' c',v=.slice a' 64 c' ∧U=[av ag.u8 5 (.slice a' 64 c') (lK M)]):=by
 obtain ⟨x0,x1,cI,ew,cZ,eC,eD,gD,hx,hc0⟩:=vw M a c;clear hx hc0 x0 x1 cI ew cZ eC eD gD;have hrm:(bV M).length=M.length % 128:=A4 M;have xE:kM M.length<128:=by unfold kM;omega
 refine ay.of (n:=73) _ rfl func128 rfl rfl rfl fun g hg R hR=>?_;have h:=h.mono hg;have hl:=hl.mono hg;have hK:=hK.mono hg;refine S.seq<|S.region rfl<|O.q 1 rfl<|O.nil<|S.seq<|S.region rfl<|O.q 1 rfl<|O.aC (.p rfl) rfl aa rfl rfl ((NG h hl)) ?_;rintro _ _ ⟨nt,a12,jI,rfl,rfl⟩
 try simp only [an,aq,au]
 refine O.q 1 rfl<|O.nil<|S.seq<|S.seq<|S.region rfl<|O.q 1 rfl<|O.op (.p rfl) (.rM underlying192 rfl rfl)<|O.aM 14 rfl aK ?_;refine O.nil<|S.aQ rfl<|S.skip (S.seq ?_);obtain ⟨x0,x1,cI,ew,cZ,eC,eD,gD,hx,hc⟩:=vw M a12 jI;refine S.dx (b:=nt) (cs' :=[.int .u64 (x0.toNat:Int),.int .u64 (x1.toNat:Int),.int .u64 (cI.toNat:Int),.int .u64 (ew.toNat:Int),.int .u64 (cZ.toNat:Int),.int .u64 (eC.toNat:Int),.int .u64 (eD.toNat:Int),.int .u64 (gD.toNat:Int),.slice a12 (bV M).length jI,.int .u64 (M.length:Int),.bool true]) ai hc ?_;refine S.region rfl<|O.q 1 rfl<|O.op (.p rfl) (.nilCheck rfl)<|O.op (.p rfl) (.aH CY rfl)<|O.op (.p rfl) (.lo gi) ?_;refine O.op (.p rfl) (.TP rfl rfl)<|O.slot 19 (v' :=.int .u64 ((8*M.length:Nat):Int)) rfl (by exact congrArg _ (by rw [show (8:Int)*(M.length:Int)=((8*M.length:Nat):Int) from by omega,rz ah])) ?_;refine O.q 1 rfl<|O.nil<|S.seq<|S.region rfl<|O.aN (.p rfl) (.J4 (T:=ag.u8) (c:=256) underlying24 eT rfl rfl rfl rfl aB aB) ?_;rintro _ _ ⟨a20,y9,rfl,rfl⟩;refine O.aN (.p rfl) (.cA (T:=ag.u8) (ys:=[128]) underlying24 eT aB rfl rfl ⟨rfl,trivial⟩ aB) ?_;rintro _ _ ⟨a21,s6,rfl,rfl⟩;refine O.aN (.p rfl) (.gN (T:=ag.u8) underlying24 eT aB rfl rfl ai ai bD bD) ?_;rintro _ _ ⟨a22,ee,rfl,rfl⟩
 refine O.q 1 rfl<|O.nil<|S.seq<|S.block<|S.jO (ι:=Nat) (dJ:=Option Addr × Nat) (fun z s=>z≤kM M.length) (fun z s=>[(5,.slice s.1 (1+z) s.2)]) [(3,_),(4,_)] (fun z s=>[av ag.u8 5 (.slice s.1 (1+z) s.2) (128::List.replicate z 0),obj nt 278 [.int .u64 (x0.toNat:Int),.int .u64 (x1.toNat:Int),.int .u64 (cI.toNat:Int),.int .u64 (ew.toNat:Int),.int .u64 (cZ.toNat:Int),.int .u64 (eC.toNat:Int),.int .u64 (eD.toNat:Int),.int .u64 (gD.toNat:Int),.slice a12 (bV M).length jI,.int .u64 (M.length:Int),.bool true],av ag.u8 5 (.slice a12 (bV M).length jI) (bV M)]) (fun z s=>kM M.length - z) (0) ((a22,ee)) bL (.cons rfl (.nil)) (.cons rfl (.cons rfl (.nil))) rfl fun z s hx ih=>?_;have bh:=cH (g:=g);refine S.seq<|S.seq<|S.region rfl<|O.q 1 rfl<|O.op (.p rfl) (.nilCheck rfl)<|O.op (.p rfl) (.aH nB rfl)<|O.op (.p rfl) (.lo bl) ?_;refine O.op (.p rfl) (.len rfl underlying24 rfl)<|O.q 1 rfl<|O.op (.p rfl) (.len rfl underlying24 rfl)<|O.op (.p rfl) (.add rfl rfl (IntWalk.i64_in _ ah))<|O.op (.p rfl) (.rem rfl rfl ah)<|O.slot 31 (v' :=.int .i64 (((M.length % 128+(1+z)) % 128:Nat):Int)) rfl (by exact congrArg (Value.int .i64) (by rw [hrm,Int.tmod_eq_emod_of_nonneg ah];omega)) ?_;refine O.op (.p rfl) (.neq rfl rfl)<|O.nil ?_
 first|refine S.cm rfl (fun oh=>?_) (fun oh=>?_)|refine S.b_ rfl (fun oh=>?_) (fun oh=>?_)
 ·have hz:z<kM M.length:=by unfold kM at *;omega
  refine S.skip<|S.block<|S.region rfl<|O.q 1 rfl<|O.aN (.p rfl) (.cA (T:=ag.u8) (ys:=[0]) underlying24 eT aB rfl rfl ⟨rfl,trivial⟩ aB) ?_;rintro _ _ ⟨uW,u4,rfl,rfl⟩;refine O.aN (.p rfl) (.gN (T:=ag.u8) underlying24 eT aB rfl rfl ai ai bD bD) ?_;rintro _ _ ⟨a35,Ce,rfl,rfl⟩;refine O.q 1 rfl<|O.nil (S.inBlock ?_);rw [UN];have hlz:(128::List.replicate z (0:UInt8)).length=1+z:=by rw [List.length_cons,List.length_replicate];omega
  simp only [hlz,List.length_singleton];exact S.pw (ih (z+1) ((a35,Ce)) ah ah)
 ·clear ih
  have hz:z=kM M.length:=by unfold kM at *;omega
  subst hz;have hlz:(128::List.replicate (kM M.length) (0:UInt8)).length=1+kM M.length:=by rw [List.length_cons,List.length_replicate];omega
  refine S.exit rfl<|S.seq<|S.region rfl<|O.q 1 rfl<|O.aN (.p rfl) (.MD (T:=ag.u8) (a:=(0:UInt8)) (m:=8) underlying24 underlying3 eT aB rfl rfl rfl rfl ai (by rw [hlz];omega) (by rw [hlz];omega) (by rw [hlz];omega)) ?_;rintro _ _ ⟨a37,wH,rfl,rfl⟩;refine O.q 1 rfl<|O.nil (S.seq (S.seq ?_));have hlp:(128::List.replicate (kM M.length) (0:UInt8)++List.replicate 8 0).length=9+kM M.length:=by rw [List.length_append,hlz,List.length_replicate];omega
  have Ek:nS M.length=128::List.replicate (kM M.length) (0:UInt8)++List.replicate 8 0++be (8*(M.length:Int)):=rfl;rw [show (128::List.replicate (kM M.length) (0:UInt8)).length+8=9+kM M.length from by rw [hlz];omega];generalize 128::List.replicate (kM M.length) (0:UInt8)++List.replicate 8 0=E at hlp Ek ⊢;generalize kM M.length=AT at hlp xE ⊢;refine S.jd (T:=ag.u8) (e:=5) (v' :=.slice a37 (9+AT) wH) (xs' :=E++(be (8*(M.length:Int))).take 0) ai rfl bL ?_;refine S.region rfl<|O.q 1 rfl<|O.nil<|S.block<|S.jO (ι:=Nat) (dJ:=Option Addr × Nat) (fun j s=>j≤8) (fun j s=>[(6,.int .i64 ((56:Int) - ((8*j:Nat):Int))),(5,.slice s.1 (9+AT+j) s.2)]) [(3,_),(4,_)] (fun j s=>[av ag.u8 5 (.slice s.1 (9+AT+j) s.2) (E++(be (8*(M.length:Int))).take j),obj nt 278 [.int .u64 (x0.toNat:Int),.int .u64 (x1.toNat:Int),.int .u64 (cI.toNat:Int),.int .u64 (ew.toNat:Int),.int .u64 (cZ.toNat:Int),.int .u64 (eC.toNat:Int),.int .u64 (eD.toNat:Int),.int .u64 (gD.toNat:Int),.slice a12 (bV M).length jI,.int .u64 (M.length:Int),.bool true],av ag.u8 5 (.slice a12 (bV M).length jI) (bV M)]) (fun j s=>8 - j) (0) ((a37,wH)) bL (.cons rfl (.cons rfl (.nil))) (.cons rfl (.cons rfl (.nil))) rfl fun j s hx ih=>?_;have hm2:=cH (g:=g);refine S.seq<|S.seq<|S.region rfl<|O.q 1 rfl<|O.op (.p rfl) (.geq rfl rfl)<|O.nil ?_
  first|refine S.cm rfl (fun Db=>?_) (fun Db=>?_)|refine S.b_ rfl (fun Db=>?_) (fun Db=>?_)
  ·have hj:j<8:=by omega
   have hlj:=G_ (8*(M.length:Int)) j ah;refine S.skip<|S.seq<|S.block<|S.region rfl<|O.q 3 rfl<|O.op (.p rfl) (.shr rfl rfl ah)<|O.op (.p rfl) (.lU underlying274 underlying5 rfl)<|O.slot 46 (v' :=bK (jH (8*(M.length:Int)) (7 - j))) rfl (by exact (Lv (N:=8*M.length) ah hj).trans (by rw [show ((8*M.length:Nat):Int)=8*(M.length:Int) from by omega])) ?_;refine O.aN (.p rfl) (.cA (T:=ag.u8) (ys:=[jH (8*(M.length:Int)) (7 - j)]) underlying24 eT aB rfl rfl ⟨rfl,trivial⟩ aB) ?_;rintro _ _ ⟨wB,wK,rfl,rfl⟩;refine O.aN (.p rfl) (.gN (T:=ag.u8) underlying24 eT aB rfl rfl ai ai bD bD) ?_;rintro _ _ ⟨rE,rJ,rfl,rfl⟩;refine O.q 1 rfl<|O.nil<|S.inBlock<|S.region rfl<|O.q 1 rfl<|O.op (.p rfl) (.sub rfl rfl (IntWalk.i64_in _ ah))<|O.slot 41 (v' :=.int .i64 ((56:Int) - ((8*(j+1):Nat):Int))) rfl (by exact congrArg (Value.int .i64) ah) ?_;refine O.q 1 rfl<|O.nil ?_;rw [List.append_assoc,G9 _ j hj]
   try simp only [List.length_append,hlp,hlj,List.length_singleton]
   exact S.pw (ih (j+1) ((rE,rJ)) ah ah)
  ·clear ih
   have hj:j=8:=by omega
   subst hj;rw [show (be (8*(M.length:Int))).take 8=be (8*(M.length:Int)) from rfl,← Ek];have nN:(nS M.length).length=9+AT+8:=by rw [Ek,List.length_append,hlp,y5]
   rw [← nN];refine S.dx (b:=nt) (cs' :=jv M a12 jI) ai hc.symm ?_;refine S.exit rfl<|S.seq<|S.fo ai fun g hs hm hE=>?_;replace hg:=Fr.aI hg hs;replace hR:=bu hR hm
   try replace h:=h.mono hs
   try replace hl:=hl.mono hs
   try replace hK:=hK.mono hs
   replace bh:=dQ bh hm;replace hm2:=dQ hm2 hm;clear hs hm;refine S.region rfl<|O.q 2 rfl<|O.aN (.p rfl) (.cA (T:=ag.cells 1) (ys:=[[.slice s.1 (nS M.length).length s.2]]) underlying109 iu aB rfl rfl ⟨⟨rfl,rfl,by first|(simp;done)|(intro v hv;simp [Value.cells] at hv;rcases hv with rfl|rfl<;>rfl)|(refine List.forall_mem_cons.2 ⟨rfl,?_⟩;repeat (first|exact (fun _ h=>absurd h List.not_mem_nil)|refine List.forall_mem_cons.2 ⟨rfl,?_⟩))⟩,trivial⟩ aB) ?_;rintro _ _ ⟨a51,za,rfl,rfl⟩;refine O.fo ai fun g hs hm nH=>?_;replace hg:=Fr.aI hg hs;replace hR:=bu hR hm
   try replace h:=h.mono hs
   try replace hl:=hl.mono hs
   try replace hK:=hK.mono hs
   try replace hE:=hE.mono hs
   replace bh:=dQ bh hm;replace hm2:=dQ hm2 hm;clear hs hm;refine O.eO (.p rfl) rfl aa rfl rfl aW (L9 (ps:=[nS M.length]) (aj.kL nH ⟨⟨_,rfl,hE⟩,trivial⟩ rfl) hK (by simp only [List.flatten_cons,List.flatten_nil,List.append_nil];omega)) ?_;rintro _ _ ⟨ku,kz,rfl,rfl⟩
   try simp only [an,aq,au]
   refine O.nil (S.seq ?_);rw [show M++[nS M.length].flatten=M++nS M.length from by simp];refine S.fo ai fun g hs hm vF=>?_;replace hg:=Fr.aI hg hs;replace hR:=bu hR hm
   try replace h:=h.mono hs
   try replace hl:=hl.mono hs
   try replace hK:=hK.mono hs
   try replace hE:=hE.mono hs
   try replace nH:=nH.mono hs
   replace bh:=dQ bh hm;replace hm2:=dQ hm2 hm;clear hs hm;obtain ⟨y0,y1,Gn,wh,Yq,By,Bz,Yr,hy,Ry⟩:=vw (M++nS M.length) ku kz;refine S.dx (b:=nt) (cs' :=[.int .u64 (y0.toNat:Int),.int .u64 (y1.toNat:Int),.int .u64 (Gn.toNat:Int),.int .u64 (wh.toNat:Int),.int .u64 (Yq.toNat:Int),.int .u64 (By.toNat:Int),.int .u64 (Bz.toNat:Int),.int .u64 (Yr.toNat:Int),.slice ku (bV (M++nS M.length)).length kz,.int .u64 ((M++nS M.length).length:Int),.bool true]) ai Ry ?_;refine S.de ai fun g hs hm xz=>?_;replace hg:=Fr.aI hg hs;replace hR:=bu hR hm
   try replace h:=h.mono hs
   try replace hl:=hl.mono hs
   try replace hK:=hK.mono hs
   try replace hE:=hE.mono hs
   try replace nH:=nH.mono hs
   try replace vF:=vF.mono hs
   replace bh:=dQ bh hm;replace hm2:=dQ hm2 hm;clear hs hm;have hsum:lK M=nR (feed ev (M++nS M.length)):=rfl;have Ai:(feed ev (M++nS M.length)).length=8:=wV _ _ rfl;generalize feed ev (M++nS M.length)=ws at hy Ai hsum;refine S.gd (T:=ag.u8) (e:=5) ?_;refine S.region rfl<|O.q 1 rfl<|O.nil<|S.seq<|S.seq<|S.region rfl<|O.q 1 rfl<|O.op (.p rfl) (.nilCheck rfl)<|O.op (.p rfl) (.fieldAddr CX rfl)<|O.op (.p rfl) (.bE (cs:=[_,_,_,_,_,_,_,_]) isAgg276 aa rfl (xz.take 8)) ?_;refine O.slot 56 (v' :=.agg (bW ws).toArray) rfl (by rw [hy];rfl) ?_;refine O.q 1 rfl<|O.nil<|S.block<|S.jO (ι:=Nat) (dJ:=Option Addr × Nat) (fun k s=>k≤8) (fun k s=>[(57,.int .i64 (k:Int)),(7,.slice s.1 (8*k) s.2)]) [(56,_)] (fun k s=>[av ag.u8 5 (.slice s.1 (8*k) s.2) (nR (ws.take k))]) (fun k s=>8 - k) (0) ((none,0)) bL (.cons rfl (.cons rfl (.nil))) (.cons rfl (.nil)) rfl fun k s hx ih=>?_;have DY:=cH (g:=g);refine S.seq<|S.region rfl<|O.op (.p rfl) (.lss rfl rfl)<|O.nil (S.seq ?_)
   first|refine S.cm rfl (fun Dh=>?_) (fun Dh=>?_)|refine S.b_ rfl (fun Dh=>?_) (fun Dh=>?_)
   ·have hk:k<8:=by omega
    have DV:k<ws.length:=by omega
    have rZ:(nR (ws.take k)).length=8*k:=by rw [Fq,List.length_take];omega
    have eW:=Uy DV;refine S.skip<|S.seq<|S.block<|S.seq<|S.region rfl<|O.op (.p rfl) (.JB (j:=k) underlying276 gr gi rfl rfl rfl ah (by rw [List.getElem?_toArray];exact qq DV)) ?_;refine O.slot 59 (v' :=qp ws[k]) rfl (by exact congrArg qp (by simp [List.getD_eq_getElem?_getD,DV])) ?_;refine O.q 1 rfl<|O.nil (S.seq ?_);generalize ws[k]=x at eW ⊢;refine S.jd (T:=ag.u8) (e:=5) (v' :=.slice s.1 (8*k+0) s.2) (xs' :=nR (ws.take k)++(oC x).take 0) ai rfl bL ?_;refine S.region rfl<|O.q 1 rfl<|O.nil<|S.block<|S.jO (ι:=Nat) (dJ:=Option Addr × Nat) (fun j u=>j≤8) (fun j u=>[(10,.int .i64 ((56:Int) - ((8*j:Nat):Int))),(7,.slice u.1 (8*k+j) u.2)]) [(9,_),(56,_),(57,_)] (fun j u=>[av ag.u8 5 (.slice u.1 (8*k+j) u.2) (nR (ws.take k)++(oC x).take j)]) (fun j u=>8 - j) (0) (s) bL (.cons rfl (.cons rfl (.nil))) (.cons rfl (.cons rfl (.cons rfl (.nil)))) rfl fun j u hx ih=>?_;have ZU:=cH (g:=g);refine S.seq<|S.seq<|S.region rfl<|O.q 1 rfl<|O.op (.p rfl) (.geq rfl rfl)<|O.nil ?_
    first|refine S.cm rfl (fun tw=>?_) (fun tw=>?_)|refine S.b_ rfl (fun tw=>?_) (fun tw=>?_)
    ·have hj:j<8:=by omega
     have hlj:=G_ (x.toNat:Int) j ah;have hxl:=x.toNat_lt;have htk:(nR (ws.take k)++(oC x).take j).length=8*k+j:=by rw [List.length_append,rZ,oC,hlj]
     refine S.skip<|S.seq<|S.block<|S.region rfl<|O.q 3 rfl<|O.op (.p rfl) (.shr rfl rfl ah)<|O.op (.p rfl) (.lU underlying274 underlying5 rfl)<|O.slot 68 (v' :=bK (jH (x.toNat:Int) (7 - j))) rfl (by exact Lv (N:=x.toNat) ah hj) ?_;refine O.aN (.p rfl) (.cA (T:=ag.u8) (ys:=[jH (x.toNat:Int) (7 - j)]) underlying24 eT aB rfl rfl ⟨rfl,trivial⟩ aB) ?_;rintro _ _ ⟨B0,Ci,rfl,rfl⟩;refine O.aN (.p rfl) (.gN (T:=ag.u8) underlying24 eT aB rfl rfl ai ai bD bD) ?_;rintro _ _ ⟨a70,zb,rfl,rfl⟩;refine O.q 1 rfl<|O.nil<|S.inBlock<|S.region rfl<|O.q 1 rfl<|O.op (.p rfl) (.sub rfl rfl (IntWalk.i64_in _ ah))<|O.slot 63 (v' :=.int .i64 ((56:Int) - ((8*(j+1):Nat):Int))) rfl (by exact congrArg (Value.int .i64) ah) ?_;refine O.q 1 rfl<|O.nil ?_;rw [List.append_assoc,show (oC x).take j++[jH (x.toNat:Int) (7 - j)]=(oC x).take (j+1) from G9 _ j hj]
     try simp only [List.length_append,rZ,oC,hlj,List.length_singleton]
     exact S.pw (ih (j+1) ((a70,zb)) ah ah)
    ·clear ih
     have hj:j=8:=by omega
     subst hj;rw [show (oC x).take 8=oC x from rfl,eW];refine S.exit rfl<|S.inBlock<|S.region rfl<|O.op (.p rfl) (.add rfl rfl (IntWalk.i64_in _ ah))<|O.q 1 rfl<|O.nil ?_;exact S.pw (ih (k+1) (u) ah ah)
   ·clear ih
    have hk:k=8:=by omega
    subst hk;rw [show ws.take 8=ws from List.take_of_length_le ah,← hsum];refine S.exit rfl<|S.seq<|S.region rfl<|O.q 2 rfl<|O.nil ?_;exact S.rt results128 rfl hR ⟨s.1,s.2,rfl,rfl⟩
theorem yz {r:Fr} {va:Value} {ps:List (List UInt8)} (hp:aj (ag.slice ag.u8) r va ps) (hH:At r ⟨0,0,none⟩ (bW ev)) (hK:At r ⟨1,0,none⟩ (bW gq)) (hl:ps.flatten.length≤100000000000) :
  ay prog 59 #[va] r [] (aL fun v U=>∃ a c,v=.slice a 64 c∧U=[av ag.u8 5 (.slice a 64 c) (lK ps.flatten)]):=by
 obtain ⟨a1,c1,rfl⟩:=hp.shape;refine ay.of (n:=10) _ rfl func59 rfl rfl rfl fun g hg R hR=>?_;have hp:=hp.mono hg;have hH:=hH.mono hg;have hK:=hK.mono hg;refine S.seq<|S.region rfl<|O.q 1 rfl<|O.nil<|S.seq<|S.region rfl<|O.aC (.p rfl) rfl aa rfl rfl ((TW hH)) ?_;rintro _ _ ⟨b4,rfl,rfl⟩
 try simp only [an,aq,au]
 refine O.q 1 rfl<|O.nil<|S.seq<|S.gd (T:=ag.u8) (e:=5) ?_;refine S.region rfl<|O.q 2 rfl<|O.eO (.p rfl) rfl aa rfl rfl aW (L9 (M:=[]) (a:=none) (c:=0) hp hK (by simp only [List.length_nil];omega)) ?_;rintro _ _ ⟨a7,ir,rfl,rfl⟩
 try simp only [an,aq,au]
 refine O.nil<|S.seq<|S.de ai fun g hs hm xz=>?_;replace hg:=Fr.aI hg hs;replace hR:=bu hR hm
 try replace hp:=hp.mono hs
 try replace hH:=hH.mono hs
 try replace hK:=hK.mono hs
 clear hs hm;refine S.fo ai fun g hs hm hlf=>?_;replace hg:=Fr.aI hg hs;replace hR:=bu hR hm
 try replace hp:=hp.mono hs
 try replace hH:=hH.mono hs
 try replace hK:=hK.mono hs
 try replace xz:=xz.mono hs
 clear hs hm;refine S.region rfl<|O.q 1 rfl<|O.aC (.p rfl) rfl aa rfl rfl ((Xm xz hlf hK hl)) ?_;rintro _ _ ⟨a9,qy,rfl,rfl⟩
 try simp only [an,aq,au]
 refine O.q 1 rfl<|O.nil ?_;exact S.rt results59 rfl hR ⟨a9,qy,rfl,rfl⟩
theorem XM {g:bn} {be bZ:Nat} {x:Value} {z:Int} {eF eZ:TypeId} {w:World} {R:Ending→World→Prop} {U:List az} (hw:Holds w g (obj bZ eF [x]::obj be eZ [.int .i64 z]::U)) (hR:∀ w,Holds w g (obj bZ eF [x]::obj be eZ [.int .i64 z]::U)→R (.returned (.tuple #[x,.int .i64 z])) w) :
  CallsD prog 302 #[.pointer (some ⟨be,0,none⟩),.pointer (some ⟨bZ,0,none⟩)] .returning w (sV prog g bZ be 213 44 R):=by
 refine (oc (R:=fun e w=>(∃ v,e=.returned v)∧Holds w g (obj bZ eF [x]::obj be eZ [.int .i64 z]::U)) [.pointer (some ⟨be,0,none⟩),.pointer (some ⟨bZ,0,none⟩)] rfl func302 rfl rfl rfl rfl hw ?_).mono ?_
 rotate_left
 ·rintro e u' w' ⟨rfl,⟨v,rfl⟩,h⟩
  exact ⟨⟨v,rfl⟩,rfl,eF,eZ,_,_,_,_,U,h,fP.flat zz,fP.flat oe,hR w' h⟩
 refine S.seq<|S.region rfl<|O.q 1 rfl<|O.op (.p rfl) (.vL underlying20 rfl)<|O.nil<|S.aQ rfl<|S.skip<|S.ez results302 fun w hw=>?_;exact ⟨⟨_,rfl⟩,hw⟩
theorem XL {g:bn} {be bZ:Nat} {x:Value} {z z' :Int} {eF eZ:TypeId} {w:World} {R:Ending→World→Prop} {U:List az} (hw:Holds w g (obj bZ eF [x]::obj be eZ [.int .i64 z']::U))
  (hR:∀ w,Holds w g (obj bZ eF [.pointer none]::obj be eZ [.int .i64 z]::U)→R (.returned (.tuple #[.pointer none,.int .i64 z])) w) :
  CallsD prog 302 #[.pointer (some ⟨be,0,none⟩),.pointer (some ⟨bZ,0,none⟩)] (.panicking (o4 44 z)) w (sV prog g bZ be 213 44 R):=by
 refine (oc (R:=fun e w=>(∃ v,e=.returned v)∧Holds w g (obj bZ eF [.pointer none]::obj be eZ [.int .i64 z]::U)) [.pointer (some ⟨be,0,none⟩),.pointer (some ⟨bZ,0,none⟩)] rfl func302 rfl rfl rfl rfl hw ?_).mono ?_
 rotate_left
 ·rintro e u' w' ⟨rfl,⟨v,rfl⟩,h⟩
  exact ⟨⟨v,rfl⟩,rfl,eF,eZ,_,_,_,_,U,h,fP.flat zz,fP.flat oe,hR w' h⟩
 refine S.seq<|S.region rfl<|O.q 1 rfl<|O.op (.p rfl) (.vM underlying20 rfl)<|O.nil<|S.bx rfl<|S.seq<|S.region rfl<|O.q 1 rfl<|O.nil<|S.seq<|S.seq<|S.region rfl<|O.q 1 rfl<|O.op (.p rfl) (.u0 underlying44 rfl)<|O.q 3 rfl<|O.bB rfl (.bp oe rfl rfl bt ai aX) ?_;refine O.q 1 rfl<|O.nil<|S.seq<|S.region rfl<|O.q 1 rfl<|O.op (.p rfl) (.not rfl)<|O.nil<|S.aQ rfl<|S.skip<|S.seq<|S.region rfl<|O.q 1 rfl<|O.nil<|S.region rfl<|O.q 1 rfl<|O.bB rfl (.bp zz rfl rfl bt ai aX) ?_;refine O.nil<|S.ez results302 fun w hw=>?_;exact ⟨⟨_,rfl⟩,hw.jP jf⟩
theorem XK {r:Fr} {f:Nat} {first cap:Array Value} {K:Value→List az→Prop} {X:Int→Prop} (hc:dG prog f=true) (p7:(Value.func (.func f) first cap).oneCell' =true) (o9:∀ u ζ,K u ζ→u.oneCell' =true)
  (con:ay prog f (first++#[]++cap) r [] (eN K (fun ch U=>∃ z,ch=o4 44 z∧X z∧U=[]))) :
  ay prog 233 #[.func (.func f) first cap] r [] (aL fun v U=>(∃ u,K u U∧v=.tuple #[u,.int .i64 0])∨(∃ z,X z∧U=[]∧v=.tuple #[.pointer none,.int .i64 z])):=by
 refine ay.of (n:=7) [.func (.func f) first cap] rfl func233 rfl rfl rfl fun g hg R hR=>?_;refine S.seq<|S.region rfl<|O.aN (.p rfl) (.alloc (cs:=[.pointer none]) zeroValue213 rfl) ?_;rintro _ _ ⟨b2,rfl,rfl⟩;refine O.aN (.p rfl) (.alloc (cs:=[.int .i64 0]) zeroValue44 rfl) ?_;rintro _ _ ⟨b3,rfl,rfl⟩;refine O.nil<|S.seq<|S.region rfl<|O.op (.p rfl) (.jb rfl rfl)<|O.defer rfl rfl rfl rfl ?_;refine O.nil<|S.seq<|S.region rfl<|O.q 1 rfl<|O.Cm (.p rfl) rfl hc rfl rfl (con.sub hg) (fun a ch ax w hF hX hW=>by (obtain ⟨z,rfl,hx,rfl⟩:=hX;exact vI results233 hF rfl rfl bL aa (XL (hW.jP jf) fun w hw=>Holds.end_ hR hw ⟨_,.inr ⟨z,hx,rfl,rfl⟩,by repeat (first|exact aS|exact aU|(apply aT;focus (repeat (first|exact aR|apply zt)))|apply aV)⟩))) ?_;rintro v6 _ rW
 try simp only [an,aq,au]
 have hone:=o9 _ _ rW;refine O.perm (List.perm_append_comm) ?_;simp only [List.cons_append,List.nil_append];refine O.bB rfl (.bp zz rfl rfl bt ai aX) ?_;refine O.bB rfl (.bp oe rfl rfl bt ai aX) ?_;refine O.nil<|S.q_ fun a w hf hd hw=>?_;exact vI results233 hf rfl rfl bL aa (XM (hw.jP jf) fun w hw=>Holds.end_ hR hw ⟨_,.inl ⟨_,rW,rfl⟩,by repeat (first|exact aS|exact aU|(apply aT;focus (repeat (first|exact aR|apply zt)))|apply aV)⟩)
theorem Xd {r:Fr} {p:Nat} {va:Value} {xs:List aP} (hp:At r ⟨p,0,none⟩ [va]) (ha:aj cv r va xs) (hl:xs.length≤100000000000) :
  ay prog 234 (#[]++#[]++#[.pointer (some ⟨p,0,none⟩)]) r [] (eN (fun v U=>fJ xs∧∃ b,v=.pointer (some ⟨b,0,none⟩)∧U=[ff r 218 220 5 b xs]) (fun ch U=>∃ z,ch=o4 44 z∧(¬ fJ xs∧z=4)∧U=[])):=by
 refine ay.of (n:=4) [.pointer (some ⟨p,0,none⟩)] rfl func234 rfl rfl rfl fun g hg R hR=>?_;have hp:=hp.mono hg;obtain ⟨a1,c1,rfl⟩:=ha.shape;refine S.seq<|S.region rfl<|O.q 1 rfl<|O.nil<|S.seq<|S.region rfl<|O.op (.p rfl) (.loadAt dO rfl hp rfl) ?_;refine O.kQ (.p rfl) rfl aa rfl rfl (((K7 ha hl).sub hg)) (fun ch ax w hX hW=>by (obtain ⟨hb,rfl,rfl⟩:=hX;exact hR _ _ w ⟨4,rfl,⟨hb,rfl⟩,rfl⟩ hW.qD)) ?_;rintro _ _ ⟨hright,b3,rfl,rfl⟩
 try simp only [an,aq,au]
 refine O.q 1 rfl<|O.nil ?_;exact S.rt results234 rfl hR ⟨hright,b3,rfl,rfl⟩
theorem Bc {r:Fr} {va:Value} {xs:List aP} (ha:aj cv r va xs) (hl:xs.length≤100000000000) :
  ay prog 155 #[va] r [] (aL fun v U=>v=.bool (decide (fJ xs))∧U=[]):=by
 refine ay.of (n:=12) _ rfl func155 rfl rfl rfl fun g hg R hR=>?_;have ha:=ha.mono hg;obtain ⟨a1,c1,rfl⟩:=ha.shape;refine S.seq<|S.region rfl<|O.aN (.p rfl) (.box (cs:=[_]) rfl rfl) ?_;rintro _ _ ⟨b1,rfl,rfl⟩;refine O.q 1 rfl<|O.nil<|S.seq<|S.de ai fun g hs hm kV=>?_;replace hg:=Fr.aI hg hs;replace hR:=bu hR hm
 try replace ha:=ha.mono hs
 clear hs hm;have con:=XK aa (first:=#[]) (cap:=#[.pointer (some ⟨b1,0,none⟩)]) rfl (fun _ _ h=>by obtain ⟨_,_,rfl,_⟩:=h;rfl) (Xd kV ha hl)
 by_cases e:fJ xs
 ·
  refine S.region rfl<|O.op (.p rfl) (.jb rfl rfl)<|O.aC (.p rfl) rfl aa rfl rfl ((con.mono (aL.imp (K' :=fun v U=>∃ b,v=.tuple #[.pointer (some ⟨b,0,none⟩),.int .i64 0]∧U=[ff g.h 218 220 5 b xs]) fun v U h=>by rcases h with ⟨_,⟨_,b,rfl,h3⟩,rfl⟩|⟨_,⟨h2,_⟩,_⟩;exact ⟨b,rfl,h3⟩;exact absurd e h2))) ?_;rintro _ _ ⟨oQ,rfl,rfl⟩
  try simp only [an,aq,au]
  refine O.q 5 rfl<|O.nil<|S.seq<|S.region rfl<|O.q 1 rfl<|O.op (.p rfl) (.eql rfl rfl)<|O.q 1 rfl<|O.nil ?_;exact S.rt results155 rfl hR ⟨by simp [e],rfl⟩
 ·
  refine S.region rfl<|O.op (.p rfl) (.jb rfl rfl)<|O.aC (.p rfl) rfl aa rfl rfl ((con.mono (aL.imp (K' :=fun v U=>v=.tuple #[.pointer none,.int .i64 4]∧U=[]) fun v U h=>by rcases h with ⟨_,⟨h2,_⟩,_⟩|⟨_,⟨_,rfl⟩,rfl,rfl⟩;exact absurd h2 e;exact ⟨rfl,rfl⟩))) ?_;rintro _ _ ⟨rfl,rfl⟩
  try simp only [an,aq,au]
  refine O.q 5 rfl<|O.nil<|S.seq<|S.region rfl<|O.q 1 rfl<|O.op (.p rfl) (.eql rfl rfl)<|O.q 1 rfl<|O.nil ?_;exact S.rt results155 rfl hR ⟨by simp [e],rfl⟩
theorem qc {r:Fr} {s:List UInt8} (hl:s.length≤9223372036854775807):ay prog 88 #[.string (str s)] r [] (aL fun v U=>v=.bool (decide (mQ s))∧U=[]):=by
 refine ay.of (n:=11) _ rfl func88 rfl rfl rfl fun g hg R hR=>?_
 by_cases h1:1≤s.length
 ·by_cases h2:s.length≤64
  ·have e:decide (mQ s)=true:=decide_eq_true ⟨h1,h2⟩
   refine S.seq<|S.region rfl<|O.q 1 rfl<|O.nil<|S.seq<|S.region rfl<|O.q 1 rfl<|O.op (.p rfl) (.c5 rfl underlying9 rfl)<|O.op (.p rfl) (.geq rfl rfl)<|O.sT 5 rfl (by exact decide_eq_true b9) ?_;refine O.q 2 rfl<|O.op (.g rfl rfl) (.c5 rfl underlying9 rfl)<|O.op (.g rfl rfl) (.leq rfl rfl)<|O.sT 9 rfl (by exact decide_eq_true b9) ?_;refine O.q 2 rfl<|O.nil ?_;exact S.rt results88 rfl hR ⟨congrArg Value.bool e.symm,rfl⟩
  ·have e:decide (mQ s)=false:=decide_eq_false fun h=>h2 h.2
   refine S.seq<|S.region rfl<|O.q 1 rfl<|O.nil<|S.seq<|S.region rfl<|O.q 1 rfl<|O.op (.p rfl) (.c5 rfl underlying9 rfl)<|O.op (.p rfl) (.geq rfl rfl)<|O.sT 5 rfl (by exact decide_eq_true b9) ?_;refine O.q 2 rfl<|O.op (.g rfl rfl) (.c5 rfl underlying9 rfl)<|O.op (.g rfl rfl) (.leq rfl rfl)<|O.aM 9 rfl (by exact decide_eq_false b9) ?_;refine O.q 2 rfl<|O.nil ?_;exact S.rt results88 rfl hR ⟨congrArg Value.bool e.symm,rfl⟩
 ·have e:decide (mQ s)=false:=decide_eq_false fun h=>h1 h.1
  refine S.seq<|S.region rfl<|O.q 1 rfl<|O.nil<|S.seq<|S.region rfl<|O.q 1 rfl<|O.op (.p rfl) (.c5 rfl underlying9 rfl)<|O.op (.p rfl) (.geq rfl rfl)<|O.aM 5 rfl (by exact decide_eq_false b9) ?_;refine O.q 6 rfl<|O.nil ?_;exact S.rt results88 rfl hR ⟨congrArg Value.bool e.symm,rfl⟩
theorem sq {r:Fr} {s:List UInt8} {va:Value} {xs:List aP} (ha:aj cv r va xs) (hl:xs.length≤1000000000):ay prog 89 #[.string (str s),va] r [] (aL fun v U=>v=.bool (decide (nQ s xs))∧U=[]):=by
 obtain ⟨a1,c1,rfl⟩:=ha.shape;refine ay.of (n:=20) _ rfl func89 rfl rfl rfl fun g hg R hR=>?_;have ha:=ha.mono hg
 by_cases h1:fJ xs
 ·by_cases h2:0<xs.length
  ·by_cases h3:xs[0].1=s
   ·have e:decide (nQ s xs)=true:=decide_eq_true ⟨h1,fun _=>h3⟩
    refine S.seq<|S.region rfl<|O.q 1 rfl<|O.nil<|S.seq<|S.region rfl<|O.q 1 rfl<|O.aC (.p rfl) rfl aa rfl rfl ((Bc ha ah)) ?_;rintro _ _ ⟨rfl,rfl⟩
    try simp only [an,aq,au]
    refine O.sT 6 rfl (by exact decide_eq_true h1) ?_;refine O.q 2 rfl<|O.op (.g rfl rfl) (.len rfl underlying22 rfl)<|O.op (.g rfl rfl) (.eql rfl rfl)<|O.aM 10 rfl (by exact decide_eq_false ah) ?_;refine O.q 2 rfl<|O.bR (.g rfl rfl) underlying22 mz rfl rfl (show _=(((0):Nat):Int) by omega) (by first|assumption|exact aj.mono hg zE|exact aj.left zE|exact aj.left (aj.mono hg zE)) (h:=fun KD HL xA xG=>?_);obtain ⟨Vi,Vm,Vq,Vv,Vz,VD,rfl,Qg,Qh,Ql,O8,Pg,Pm⟩:=cv.sh xG;refine O.op (.g rfl rfl) (.fieldAddr e6 rfl)<|O.op (.g rfl rfl) (.loadAt bQ rfl xA rfl) ?_;refine O.q 1 rfl<|O.op (.g rfl rfl) (.kU rfl rfl)<|O.sT 17 rfl (by rw [h3];simp) ?_;refine O.q 3 rfl<|O.nil ?_;exact S.rt results89 rfl hR ⟨congrArg Value.bool e.symm,rfl⟩
   ·have e:decide (nQ s xs)=false:=decide_eq_false fun h=>h3 (h.2 h2)
    refine S.seq<|S.region rfl<|O.q 1 rfl<|O.nil<|S.seq<|S.region rfl<|O.q 1 rfl<|O.aC (.p rfl) rfl aa rfl rfl ((Bc ha ah)) ?_;rintro _ _ ⟨rfl,rfl⟩
    try simp only [an,aq,au]
    refine O.sT 6 rfl (by exact decide_eq_true h1) ?_;refine O.q 2 rfl<|O.op (.g rfl rfl) (.len rfl underlying22 rfl)<|O.op (.g rfl rfl) (.eql rfl rfl)<|O.aM 10 rfl (by exact decide_eq_false ah) ?_;refine O.q 2 rfl<|O.bR (.g rfl rfl) underlying22 mz rfl rfl (show _=(((0):Nat):Int) by omega) (by first|assumption|exact aj.mono hg zE|exact aj.left zE|exact aj.left (aj.mono hg zE)) (h:=fun KD HL xA xG=>?_);obtain ⟨Vi,Vm,Vq,Vv,Vz,VD,rfl,Qg,Qh,Ql,O8,Pg,Pm⟩:=cv.sh xG;refine O.op (.g rfl rfl) (.fieldAddr e6 rfl)<|O.op (.g rfl rfl) (.loadAt bQ rfl xA rfl) ?_;refine O.q 1 rfl<|O.op (.g rfl rfl) (.kU rfl rfl)<|O.aM 17 rfl (by exact decide_eq_false (fun q=>h3 (nV q))) ?_;refine O.q 3 rfl<|O.nil ?_;exact S.rt results89 rfl hR ⟨congrArg Value.bool e.symm,rfl⟩
  ·have e:decide (nQ s xs)=true:=decide_eq_true ⟨h1,fun h=>absurd h h2⟩
   refine S.seq<|S.region rfl<|O.q 1 rfl<|O.nil<|S.seq<|S.region rfl<|O.q 1 rfl<|O.aC (.p rfl) rfl aa rfl rfl ((Bc ha ah)) ?_;rintro _ _ ⟨rfl,rfl⟩
   try simp only [an,aq,au]
   refine O.sT 6 rfl (by exact decide_eq_true h1) ?_;refine O.q 2 rfl<|O.op (.g rfl rfl) (.len rfl underlying22 rfl)<|O.op (.g rfl rfl) (.eql rfl rfl)<|O.sT 10 rfl (by exact decide_eq_true ah) ?_;refine O.q 10 rfl<|O.nil ?_;exact S.rt results89 rfl hR ⟨congrArg Value.bool e.symm,rfl⟩
 ·have e:decide (nQ s xs)=false:=decide_eq_false fun h=>h1 h.1
  refine S.seq<|S.region rfl<|O.q 1 rfl<|O.nil<|S.seq<|S.region rfl<|O.q 1 rfl<|O.aC (.p rfl) rfl aa rfl rfl ((Bc ha ah)) ?_;rintro _ _ ⟨rfl,rfl⟩
  try simp only [an,aq,au]
  refine O.aM 6 rfl (by exact decide_eq_false h1) ?_;refine O.q 14 rfl<|O.nil ?_;exact S.rt results89 rfl hR ⟨congrArg Value.bool e.symm,rfl⟩
theorem WN {l:List aP} (h:fJ l):hG l=lK (5::kN l)∧mX l=kN l∧sF l=0:=⟨by unfold hG;rw [if_pos h],by unfold mX;rw [if_pos h],by unfold sF;rw [if_pos h]⟩
theorem WM {l:List aP} (h:¬ fJ l):hG l=[]∧mX l=[]∧sF l=4:=⟨by unfold hG;rw [if_neg h],by unfold mX;rw [if_neg h],by unfold sF;rw [if_neg h]⟩
theorem WS {r:Fr} {va:Value} {xs:List aP} (ha:aj cv r va xs) (hH:At r ⟨0,0,none⟩ (bW ev)) (hK:At r ⟨1,0,none⟩ (bW gq)) (hl:xs.length≤10000000) :
  ay prog 20 #[va] r [] (aL fun v U=>∃ a c,v=.slice a (hG xs).length c∧U=[av ag.u8 5 (.slice a (hG xs).length c) (hG xs)]):=by
 obtain ⟨a1,c1,rfl⟩:=ha.shape;refine ay.of (n:=16) _ rfl func20 rfl rfl rfl fun g hg R hR=>?_;have ha:=ha.mono hg;have hH:=hH.mono hg;have hK:=hK.mono hg
 by_cases h1:fJ xs
 ·obtain ⟨e1,e2,ck⟩:=WN h1
  have fI:=Le h1.1;refine S.seq<|S.region rfl<|O.q 1 rfl<|O.nil<|S.seq<|S.region rfl<|O.q 1 rfl<|O.aC (.p rfl) rfl aa rfl rfl ((Lh ha ah)) ?_;rintro _ _ ⟨a7,ir,rfl,rfl⟩
  try simp only [an,aq,au]
  rw [e2,ck];refine O.q 5 rfl<|O.nil<|S.seq<|S.seq<|S.fo ai fun g hs hm hb=>?_;replace hg:=Fr.aI hg hs;replace hR:=bu hR hm
  try replace ha:=ha.mono hs
  try replace hH:=hH.mono hs
  try replace hK:=hK.mono hs
  clear hs hm;refine S.region rfl<|O.q 1 rfl<|O.op (.p rfl) (.neq rfl rfl)<|O.aM 11 rfl aK ?_;refine O.nil<|S.aQ rfl<|S.skip<|S.seq<|S.region rfl<|O.aN (.p rfl) (.cA (T:=ag.u8) (ys:=[5]) underlying24 eT aB rfl rfl ⟨rfl,trivial⟩ aB) ?_;rintro _ _ ⟨a12,jI,rfl,rfl⟩;refine O.fo ai fun g hs hm Dw=>?_;replace hg:=Fr.aI hg hs;replace hR:=bu hR hm
  try replace ha:=ha.mono hs
  try replace hH:=hH.mono hs
  try replace hK:=hK.mono hs
  try replace hb:=hb.mono hs
  clear hs hm;refine O.q 1 rfl<|O.aN (.p rfl) (.cA (T:=ag.cells 1) (ys:=[[.slice a12 1 jI],[.slice a7 (kN xs).length ir]]) underlying109 iu aB rfl rfl ⟨⟨rfl,rfl,by first|(simp;done)|(intro v hv;simp [Value.cells] at hv;rcases hv with rfl|rfl<;>rfl)|(refine List.forall_mem_cons.2 ⟨rfl,?_⟩;repeat (first|exact (fun _ h=>absurd h List.not_mem_nil)|refine List.forall_mem_cons.2 ⟨rfl,?_⟩))⟩,⟨rfl,rfl,by first|(simp;done)|(intro v hv;simp [Value.cells] at hv;rcases hv with rfl|rfl<;>rfl)|(refine List.forall_mem_cons.2 ⟨rfl,?_⟩;repeat (first|exact (fun _ h=>absurd h List.not_mem_nil)|refine List.forall_mem_cons.2 ⟨rfl,?_⟩))⟩,trivial⟩ aB) ?_;rintro _ _ ⟨nY,oa,rfl,rfl⟩;refine O.fo ai fun g hs hm lX=>?_;replace hg:=Fr.aI hg hs;replace hR:=bu hR hm
  try replace ha:=ha.mono hs
  try replace hH:=hH.mono hs
  try replace hK:=hK.mono hs
  try replace hb:=hb.mono hs
  try replace Dw:=Dw.mono hs
  clear hs hm;refine O.aC (.p rfl) rfl aa rfl rfl ((yz (ps:=[[5],kN xs]) (aj.kL lX ⟨⟨_,rfl,Dw⟩,⟨_,rfl,hb⟩,trivial⟩ rfl) hH hK b9)) ?_;rintro _ _ ⟨wA,wG,rfl,rfl⟩
  try simp only [an,aq,au]
  refine O.q 1 rfl<|O.nil ?_;have fm:lK [[5],kN xs].flatten=hG xs:=by rw [e1];simp
  have nw:=WR h1;refine S.jd (T:=ag.u8) (e:=5) (v' :=.slice wA (hG xs).length wG) (xs' :=hG xs) ai (by rw [nw]) fm ?_;exact S.rt results20 rfl hR ⟨wA,wG,by rw [nw],rfl⟩
 ·obtain ⟨e1,e2,ck⟩:=WM h1
  refine S.seq<|S.region rfl<|O.q 1 rfl<|O.nil<|S.seq<|S.region rfl<|O.q 1 rfl<|O.aC (.p rfl) rfl aa rfl rfl ((Lh ha ah)) ?_;rintro _ _ ⟨a7,ir,rfl,rfl⟩
  try simp only [an,aq,au]
  rw [e2,ck];refine O.q 5 rfl<|O.nil<|S.seq<|S.seq<|S.region rfl<|O.q 1 rfl<|O.op (.p rfl) (.neq rfl rfl)<|O.sT 11 rfl aK ?_;refine O.nil<|S.bx rfl<|S.seq<|S.region rfl<|O.q 1 rfl<|O.nil<|S.gd (T:=ag.u8) (e:=5) ?_;refine S.jd (T:=ag.u8) (e:=5) (v' :=.slice none (hG xs).length 0) (xs' :=hG xs) ai (by rw [e1];rfl) e1.symm ?_;exact S.rt results20 rfl hR ⟨none,0,by rw [e1];rfl,rfl⟩
end Go.Proofs.YtojafegjlahajaaGreatDoor
